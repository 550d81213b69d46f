/- Contracts and plain laws that the law ComplexesReal leans on (texts joined by program; what it does not come to is left out). -/
import Derived.Laws.BitsAllLaws
import Derived.Test.YtmoimcblmmcffaaGreatQComplexesRealG
import Derived.Test.YtmoimcblmmcffaaGreatQComplexesRealD
import Derived.Test.YtmoimcblmmcffaaGreatQComplexesRealF
import Derived.Laws.EntriesVeiled
import Derived.Test.YtmoimcblmmcffaaGreatProg
import Derived.Below
import Derived.Deep.Draws
import Derived.Deep.AppendLies
import Derived.Maps.AppendAt
import Derived.OwnWalk
import Derived.Laws.BytesArg
import Derived.Laws.MakeOwn
import Derived.Laws.OwnMore
import Derived.Deep.OwnRows
import Derived.Tactics
import Derived.Lib.ConvBytes
import Derived.Laws.Slices
import Derived.WalkKit
import Derived.KernelRfl
import Derived.RowKit3
import Derived.Deep.LoopGhost
import Derived.Deep.QuietTactic
import Derived.BigQuiet
import Derived.WideLaws
import Derived.Deep.DeepCutAuto
import Derived.Deep.CutBlock
import Derived.Deep.RegionHeld3
import Derived.Laws.Rows
import Derived.Lib.AppendStr
import Derived.ArgAppend
import Derived.Laws.IdiomCopy
import Derived.OrdersHeld
import Derived.Laws.BitsLemmas
import Derived.RowKit
import Derived.Test.YtmoimcblmmcffaaGreatQComplexesRealA
import Derived.Test.YtmoimcblmmcffaaGreatQComplexesRealB

namespace Go.Proofs.YtmoimcblmmcffaaGreat.NC
open Go.RowKit Go.Proofs.YtmoimcblmmcffaaGreat.B Go.Proofs.YtmoimcblmmcffaaGreat.N
set_option linter.unusedSimpArgs false
set_option linter.unusedVariables false
theorem and_part (s : Bool) (a : Nat) (ha : a < 2 * signN s) : bits .and .u64 (a : Int) (partV s) = ((a % lowN s : Nat) : Int) := by
 cases s
 ·have h1 : a < 18446744073709551616 := ha
  rw [u64_and _ _ (by omega) (by omega) (by decide) (by decide)]
  have := Nat.and_two_pow_sub_one_eq_mod a 52
  exact congrArg (fun n : Nat => (n : Int)) this
 ·have h1 : a < 4294967296 := ha
  rw [u64_and _ _ (by omega) (by omega) (by decide) (by decide)]
  have := Nat.and_two_pow_sub_one_eq_mod a 23
  exact congrArg (fun n : Nat => (n : Int)) this
theorem infV_low (s : Bool) : infV s = ((lowN s * (fieldN s - 1) : Nat) : Int) := by cases s <;> decide
inductive Read (s : Bool) (a : Nat) : PP → Prop
 | inf (neg : Bool) (hs : (bits .and .u64 (a : Int) (signV s) != 0) = neg) (hN : nothingV s a = false) (hI : infiniteV s a = true) : Read s a ⟨2, neg, 0, 0⟩
 | nan (hN : nothingV s a = true) : Read s a ⟨3, false, 0, 0⟩
 | zero (neg : Bool) (hs : (bits .and .u64 (a : Int) (signV s) != 0) = neg) (hN : nothingV s a = false) (hI : infiniteV s a = false) (hZ : zeroV s a = true) : Read s a ⟨0, neg, 0, 0⟩
 | den (neg : Bool) (r : Nat) (hs : (bits .and .u64 (a : Int) (signV s) != 0) = neg) (hN : nothingV s a = false) (hI : infiniteV s a = false) (hZ : zeroV s a = false) (hp : bits .and .u64 (a : Int) (partV s) = (r : Int)) (he : bits .andNot .u64 (a : Int) (signV s) = (r : Int)) (hr : r < lowN s) : Read s a ⟨1, neg, r, leastN s⟩
 | nor (neg : Bool) (r f : Nat) (hs : (bits .and .u64 (a : Int) (signV s) != 0) = neg) (hN : nothingV s a = false) (hI : infiniteV s a = false) (hZ : zeroV s a = false) (hp : bits .and .u64 (a : Int) (partV s) = (r : Int)) (he : bits .andNot .u64 (a : Int) (signV s) = ((r + lowN s * f : Nat) : Int)) (hr : r < lowN s) (hf : f ≠ 0) (hf2 : f + 1 < fieldN s) : Read s a ⟨1, neg, r + lowN s, (f : Int) - 1 + leastN s⟩
theorem read_of (s : Bool) (a : Nat) (ha : a < 2 * signN s) : Read s a (partsR s a) := by
 have hl := low_pos s
 have hf3 := field_three s
 have hlf := low_field s
 have hr : a % lowN s < lowN s := Nat.mod_lt _ hl
 have hf : a / lowN s % fieldN s < fieldN s := Nat.mod_lt _ (by omega)
 have hrung : a % signN s = a % lowN s + lowN s * (a / lowN s % fieldN s) := by rw [← hlf, Nat.mod_mul]
 have hdiv : a / lowN s / fieldN s = a / signN s := by rw [Nat.div_div_eq_div_mul, hlf]
 have hs0 : 0 < signN s := by cases s <;> decide
 have hd2 : a / signN s < 2 := (Nat.div_lt_iff_lt_mul hs0).2 ha
 have hneg : (bits .and .u64 (a : Int) (signV s) != 0) = decide (a / lowN s / fieldN s = 1) := by
  rw [and_sign s _ (by omega) (by rw [top_sgn]; exact_mod_cast ha), hdiv, sgn_eq]
  by_cases h : a < signN s
  ·rw [if_pos (by exact_mod_cast h), Nat.div_eq_of_lt h]; rfl
  ·rw [if_neg (by exact_mod_cast h)]
   have : a / signN s = 1 := by
    have : 1 ≤ a / signN s := (Nat.le_div_iff_mul_le hs0).2 (by omega)
    omega
   rw [this]
   have : ((signN s : Int) != 0) = true := by rw [bne_iff_ne]; omega
   rw [this]; rfl
 have hand : bits .andNot .u64 (a : Int) (signV s) = ((a % signN s : Nat) : Int) := by
  rw [andNot_sign s _ (by omega) (by rw [top_sgn]; exact_mod_cast ha), sgn_eq]; rfl
 have hpart := and_part s a ha
 have hN : nothingV s a = decide (lowN s * (fieldN s - 1) < a % signN s) := by
  unfold nothingV; rw [hand, infV_low]; exact decide_eq_decide.2 (by omega)
 have hI : infiniteV s a = decide (a % signN s = lowN s * (fieldN s - 1)) := by
  unfold infiniteV; rw [hand, infV_low, Bool.eq_iff_iff]; simp only [beq_iff_eq, decide_eq_true_eq]; omega
 have hZ : zeroV s a = decide (a % signN s = 0) := by
  unfold zeroV; rw [hand, Bool.eq_iff_iff]; simp only [beq_iff_eq, decide_eq_true_eq]; omega
 unfold partsR
 generalize decide (a / lowN s / fieldN s = 1) = neg at *
 generalize a / lowN s % fieldN s = f at *
 rw [hrung] at hN hI hZ hand
 generalize a % lowN s = r at *
 clear hdiv hd2 hrung
 have hcase := parts_leaf (s := s) (f := f) (r := r) (neg := neg) rfl
 have hge : f + 1 ≠ fieldN s → r + lowN s * f < lowN s * (fieldN s - 1) := by
  intro h
  have : lowN s * (f + 1) ≤ lowN s * (fieldN s - 1) := Nat.mul_le_mul_left _ (by omega)
  rw [Nat.mul_add, Nat.mul_one] at this
  omega
 have heq : f + 1 = fieldN s → lowN s * f = lowN s * (fieldN s - 1) := fun h => by rw [show fieldN s - 1 = f by omega]
 rcases hcase with ⟨h1, h2, h⟩ | ⟨h1, h2, h⟩ | ⟨h1, h2, h3, h⟩ | ⟨h1, h2, h3, h⟩ | ⟨h1, h2, h⟩ <;> rw [h]
 ·have := heq h1
  rw [decide_eq_false (by omega)] at hN
  rw [decide_eq_true (by omega)] at hI
  exact .inf neg hneg hN hI
 ·have := heq h1
  rw [decide_eq_true (by omega)] at hN
  exact .nan hN
 ·have := hge h1
  subst h2 h3
  rw [decide_eq_false (by omega)] at hN
  rw [decide_eq_false (by omega)] at hI
  rw [decide_eq_true (by simp)] at hZ
  exact .zero neg hneg hN hI hZ
 ·have := hge h1
  subst h2
  rw [decide_eq_false (by omega)] at hN
  rw [decide_eq_false (by omega)] at hI
  rw [decide_eq_false (by simp; exact h3)] at hZ
  rw [Nat.mul_zero, Nat.add_zero] at hand
  exact .den neg r hneg hN hI hZ hpart hand hr
 ·have := hge h1
  have hpos : 0 < lowN s * f := Nat.mul_pos hl (by omega)
  rw [decide_eq_false (by omega)] at hN
  rw [decide_eq_false (by omega)] at hI
  rw [decide_eq_false (by omega)] at hZ
  exact .nor neg r f hneg hN hI hZ hpart hand hr h2 (by omega)
end Go.Proofs.YtmoimcblmmcffaaGreat.NC

namespace Go.Proofs.YtmoimcblmmcffaaGreat.NC
open Go.RowKit Go.Proofs.YtmoimcblmmcffaaGreat.B Go.Proofs.YtmoimcblmmcffaaGreat.N
set_option linter.unusedSimpArgs false
set_option linter.unusedVariables false
set_option maxRecDepth 100000 in
set_option maxHeartbeats 8000000 in
theorem partsOf_inf_false (b : Int) (w : World) (hb : Rg false b) (neg : Bool) (hs : (bits .and .u64 b (signV false) != 0) = neg) (hN : nothingV false b = false) (hI : infiniteV false b = true) : Calls Tryz.prog 138 #[.int .i64 2, .int .u64 b] w (Ret (.tuple #[.agg #[.int .i64 2, .bool neg, .int .i64 0, .int .i64 0], .int .i64 0]) w) := by
 have c1 := fun g w h => valid1_c 2 b g w hb.u64 h
 have hv : validV 2 [b] = 0 := hb.valid1
 rw [hv] at c1
 have c2 : ∀ w, Calls Tryz.prog 142 #[.int .i64 2] w (Ret (layV false) w) := fun w => layoutOf_c 2 w
 have c3 := fun w => sign_c false w
 have c4 := fun w => isNothing_c false b w
 have c5 := fun w => isInfinite_c false b w
 have c6 := fun w => isZero_c false b w
 have c7 := fun w => part_c false w
 rw [hN] at c4
 rw [hI] at c5
 generalize signV false = S at *
 generalize partV false = PT at *
 simp only [layV] at *
 clear hv hb
 go_enter Tryz.func138, Tryz.ntmps138
 go_upto_region 1 with (fail)
 refine hideO (fun W h0 HE => ?_)
 go_upto_region 4 with (go_at_call 141; refine (c1 _ _ (by go_simp)).mono ?_; rintro e w1 ⟨rfl, hb1⟩; have HE1 := Ext.next (w0 := w) (W := W) hb1; have h1 : Own w1 w.heap.size 4 := (h0.alloc _).call hb1)
 go_upto_region 5 with (go_at_call 142; refine (c2 _).mono ?_; rintro e w2 ⟨rfl, hb2⟩; have HE2 := HE1.call hb2; have h2 : Own w2 w.heap.size 4 := h1.call hb2)
 refine hideL h2 (Nat.le_refl _) HE2.2.2.2 (fun W3 g1 hg1 k1 h3 s1 hwg hB3 hE3 => ?_)
 subst hg1
 clear h0 h1 h2 HE HE1 HE2 hb1 hb2 c1 c2
 generalize w2.heap.size = g1 at *
 go_upto_region 12 with (go_at_call 144; refine (c3 _).mono ?_; rintro e w4 ⟨rfl, hb4⟩; have HE4 := hE3.call hb4; have h4 : Own w4 w.heap.size 4 := h3.call hb4)
 refine hideX HE4 k1 s1 h4 (Nat.le_refl _) (fun V g2 hg2 hP => ?_)
 subst hg2
 clear h3 h4 HE4 hE3 hb4 k1 s1 hB3
 generalize w4.heap.size = g2 at *
 have hPP := Lib.hid hP
 obtain ⟨k1, k2, o0, o2, n02, n12, s1, w0, w2, bel⟩ := hP
 go_upto_region 15 with (first | (go_at_call 150; refine (c4 _).mono ?_; rintro e w5 ⟨rfl, hb5⟩; have hP5 := hPP.out.call hb5; have k5 := hP5.ly; have s5 := hP5.s1; clear k1 k2 o0 o2 s1 bel) | (go_at_call 151; refine (c5 _).mono ?_; rintro e w6 ⟨rfl, hb6⟩; have hP6 := hP5.call hb6; have k6 := hP6.ly; have s6 := hP6.s1; have x6 := hP6.xs; have o6 := hP6.o2; clear k5 s5))
 have hQ := hP6
 clear hPP
 go_upto_region 18 with (fail)
 refine hideS #[.int .i64 2, .bool neg, .int .i64 0, .int .i64 0] (hQ.set 0 (.int .i64 2) (Nat.lt_of_lt_of_le (by decide) (Nat.le_refl 4))) rfl (fun X hX => ?_)
 obtain ⟨k1, k2, o0, o2, -, -, s1, -, -, bel⟩ := hX
 go_wp2
 have hr := Own.read4 (n := 0) ((((o0.set ⟨w.heap.size, 0, none⟩ (.int .i64 2)).set ⟨w.heap.size, 1, none⟩ (.bool neg)).set ⟨w.heap.size, 2, none⟩ (.int .i64 0)).set ⟨w.heap.size, 3, none⟩ (.int .i64 0))
 exact bodyPost_ret (v := .tuple #[.agg #[.int .i64 2, .bool neg, .int .i64 0, .int .i64 0], .int .i64 0]) (by simp [results, Tryz.results138, go_sem, hr.1, hr.2.1, hr.2.2.1, hr.2.2.2]) rfl ⟨rfl, below_row bel _ _ _ _⟩
set_option maxRecDepth 100000 in
set_option maxHeartbeats 8000000 in
theorem partsOf_nan_false (b : Int) (w : World) (hb : Rg false b) (hN : nothingV false b = true) : Calls Tryz.prog 138 #[.int .i64 2, .int .u64 b] w (Ret (.tuple #[.agg #[.int .i64 3, .bool false, .int .i64 0, .int .i64 0], .int .i64 0]) w) := by
 have c1 := fun g w h => valid1_c 2 b g w hb.u64 h
 have hv : validV 2 [b] = 0 := hb.valid1
 rw [hv] at c1
 have c2 : ∀ w, Calls Tryz.prog 142 #[.int .i64 2] w (Ret (layV false) w) := fun w => layoutOf_c 2 w
 have c3 := fun w => sign_c false w
 have c4 := fun w => isNothing_c false b w
 have c5 := fun w => isInfinite_c false b w
 have c6 := fun w => isZero_c false b w
 have c7 := fun w => part_c false w
 rw [hN] at c4
 obtain ⟨neg, hs⟩ : ∃ neg, (bits .and .u64 b (signV false) != 0) = neg := ⟨_, rfl⟩
 generalize signV false = S at *
 generalize partV false = PT at *
 simp only [layV] at *
 clear hv hb
 go_enter Tryz.func138, Tryz.ntmps138
 go_upto_region 1 with (fail)
 refine hideO (fun W h0 HE => ?_)
 go_upto_region 4 with (go_at_call 141; refine (c1 _ _ (by go_simp)).mono ?_; rintro e w1 ⟨rfl, hb1⟩; have HE1 := Ext.next (w0 := w) (W := W) hb1; have h1 : Own w1 w.heap.size 4 := (h0.alloc _).call hb1)
 go_upto_region 5 with (go_at_call 142; refine (c2 _).mono ?_; rintro e w2 ⟨rfl, hb2⟩; have HE2 := HE1.call hb2; have h2 : Own w2 w.heap.size 4 := h1.call hb2)
 refine hideL h2 (Nat.le_refl _) HE2.2.2.2 (fun W3 g1 hg1 k1 h3 s1 hwg hB3 hE3 => ?_)
 subst hg1
 clear h0 h1 h2 HE HE1 HE2 hb1 hb2 c1 c2
 generalize w2.heap.size = g1 at *
 go_upto_region 12 with (go_at_call 144; refine (c3 _).mono ?_; rintro e w4 ⟨rfl, hb4⟩; have HE4 := hE3.call hb4; have h4 : Own w4 w.heap.size 4 := h3.call hb4)
 refine hideX HE4 k1 s1 h4 (Nat.le_refl _) (fun V g2 hg2 hP => ?_)
 subst hg2
 clear h3 h4 HE4 hE3 hb4 k1 s1 hB3
 generalize w4.heap.size = g2 at *
 have hPP := Lib.hid hP
 obtain ⟨k1, k2, o0, o2, n02, n12, s1, w0, w2, bel⟩ := hP
 go_wp2_with (go_at_call 150; refine (c4 _).mono ?_; rintro e w5 ⟨rfl, hb5⟩; have o0 := o0.call hb5; have bel := below_call bel hb5)
 have hr := Own.read4 (n := 0) ((((o0.set ⟨w.heap.size, 0, none⟩ (.int .i64 3)).set ⟨w.heap.size, 1, none⟩ (.bool false)).set ⟨w.heap.size, 2, none⟩ (.int .i64 0)).set ⟨w.heap.size, 3, none⟩ (.int .i64 0))
 exact bodyPost_ret (v := .tuple #[.agg #[.int .i64 3, .bool false, .int .i64 0, .int .i64 0], .int .i64 0]) (by simp [results, Tryz.results138, go_sem, hr.1, hr.2.1, hr.2.2.1, hr.2.2.2]) rfl ⟨rfl, below_row bel _ _ _ _⟩
set_option maxRecDepth 100000 in
set_option maxHeartbeats 8000000 in
theorem partsOf_zero_false (b : Int) (w : World) (hb : Rg false b) (neg : Bool) (hs : (bits .and .u64 b (signV false) != 0) = neg) (hN : nothingV false b = false) (hI : infiniteV false b = false) (hZ : zeroV false b = true) : Calls Tryz.prog 138 #[.int .i64 2, .int .u64 b] w (Ret (.tuple #[.agg #[.int .i64 0, .bool neg, .int .i64 0, .int .i64 0], .int .i64 0]) w) := by
 have c1 := fun g w h => valid1_c 2 b g w hb.u64 h
 have hv : validV 2 [b] = 0 := hb.valid1
 rw [hv] at c1
 have c2 : ∀ w, Calls Tryz.prog 142 #[.int .i64 2] w (Ret (layV false) w) := fun w => layoutOf_c 2 w
 have c3 := fun w => sign_c false w
 have c4 := fun w => isNothing_c false b w
 have c5 := fun w => isInfinite_c false b w
 have c6 := fun w => isZero_c false b w
 have c7 := fun w => part_c false w
 rw [hN] at c4
 rw [hI] at c5
 rw [hZ] at c6
 generalize signV false = S at *
 generalize partV false = PT at *
 simp only [layV] at *
 clear hv hb
 go_enter Tryz.func138, Tryz.ntmps138
 go_upto_region 1 with (fail)
 refine hideO (fun W h0 HE => ?_)
 go_upto_region 4 with (go_at_call 141; refine (c1 _ _ (by go_simp)).mono ?_; rintro e w1 ⟨rfl, hb1⟩; have HE1 := Ext.next (w0 := w) (W := W) hb1; have h1 : Own w1 w.heap.size 4 := (h0.alloc _).call hb1)
 go_upto_region 5 with (go_at_call 142; refine (c2 _).mono ?_; rintro e w2 ⟨rfl, hb2⟩; have HE2 := HE1.call hb2; have h2 : Own w2 w.heap.size 4 := h1.call hb2)
 refine hideL h2 (Nat.le_refl _) HE2.2.2.2 (fun W3 g1 hg1 k1 h3 s1 hwg hB3 hE3 => ?_)
 subst hg1
 clear h0 h1 h2 HE HE1 HE2 hb1 hb2 c1 c2
 generalize w2.heap.size = g1 at *
 go_upto_region 12 with (go_at_call 144; refine (c3 _).mono ?_; rintro e w4 ⟨rfl, hb4⟩; have HE4 := hE3.call hb4; have h4 : Own w4 w.heap.size 4 := h3.call hb4)
 refine hideX HE4 k1 s1 h4 (Nat.le_refl _) (fun V g2 hg2 hP => ?_)
 subst hg2
 clear h3 h4 HE4 hE3 hb4 k1 s1 hB3
 generalize w4.heap.size = g2 at *
 have hPP := Lib.hid hP
 obtain ⟨k1, k2, o0, o2, n02, n12, s1, w0, w2, bel⟩ := hP
 go_upto_region 17 with (first | (go_at_call 150; refine (c4 _).mono ?_; rintro e w5 ⟨rfl, hb5⟩; have hP5 := hPP.out.call hb5; have k5 := hP5.ly; have s5 := hP5.s1; clear k1 k2 o0 o2 s1 bel) | (go_at_call 151; refine (c5 _).mono ?_; rintro e w6 ⟨rfl, hb6⟩; have hP6 := hP5.call hb6; have k6 := hP6.ly; have s6 := hP6.s1; have x6 := hP6.xs; have o6 := hP6.o2; clear k5 s5) | (go_at_call 152; refine (c6 _).mono ?_; rintro e w7 ⟨rfl, hb7⟩; have hP7 := hP6.call hb7; have k7 := hP7.ly; have s7 := hP7.s1; have x7 := hP7.xs; have o7 := hP7.o2; clear k6 s6 x6 o6))
 have hQ := hP7
 clear hPP
 go_upto_region 18 with (fail)
 refine hideS #[.int .i64 0, .bool neg, .int .i64 0, .int .i64 0] (hQ.set 0 (.int .i64 0) (Nat.lt_of_lt_of_le (by decide) (Nat.le_refl 4))) rfl (fun X hX => ?_)
 obtain ⟨k1, k2, o0, o2, -, -, s1, -, -, bel⟩ := hX
 go_wp2
 have hr := Own.read4 (n := 0) ((((o0.set ⟨w.heap.size, 0, none⟩ (.int .i64 0)).set ⟨w.heap.size, 1, none⟩ (.bool neg)).set ⟨w.heap.size, 2, none⟩ (.int .i64 0)).set ⟨w.heap.size, 3, none⟩ (.int .i64 0))
 exact bodyPost_ret (v := .tuple #[.agg #[.int .i64 0, .bool neg, .int .i64 0, .int .i64 0], .int .i64 0]) (by simp [results, Tryz.results138, go_sem, hr.1, hr.2.1, hr.2.2.1, hr.2.2.2]) rfl ⟨rfl, below_row bel _ _ _ _⟩
set_option maxRecDepth 100000 in
set_option maxHeartbeats 8000000 in
theorem partsOf_den_false (b : Int) (w : World) (hb : Rg false b) (neg : Bool) (r : Int) (hs : (bits .and .u64 b (signV false) != 0) = neg) (hN : nothingV false b = false) (hI : infiniteV false b = false) (hZ : zeroV false b = false) (hp : bits .and .u64 b (partV false) = r) (he : bits .andNot .u64 b (signV false) = r) (hr0 : 0 ≤ r) (hr : r < 4503599627370496) : Calls Tryz.prog 138 #[.int .i64 2, .int .u64 b] w (Ret (.tuple #[.agg #[.int .i64 1, .bool neg, .int .i64 r, .int .i64 (-1074)], .int .i64 0]) w) := by
 have c1 := fun g w h => valid1_c 2 b g w hb.u64 h
 have hv : validV 2 [b] = 0 := hb.valid1
 rw [hv] at c1
 have c2 : ∀ w, Calls Tryz.prog 142 #[.int .i64 2] w (Ret (layV false) w) := fun w => layoutOf_c 2 w
 have c3 := fun w => sign_c false w
 have c4 := fun w => isNothing_c false b w
 have c5 := fun w => isInfinite_c false b w
 have c6 := fun w => isZero_c false b w
 have c7 := fun w => part_c false w
 rw [hN] at c4
 rw [hI] at c5
 rw [hZ] at c6
 generalize signV false = S at *
 generalize partV false = PT at *
 simp only [layV] at *
 clear hv hb
 have hw : IntKind.i64.wrap 52 = 52 := by decide
 have f1 : IntKind.i64.wrap r = r := wrap_i64 (by omega) (by omega)
 have f2 : r / 4503599627370496 = 0 := by omega
 go_enter Tryz.func138, Tryz.ntmps138
 go_upto_region 1 with (fail)
 refine hideO (fun W h0 HE => ?_)
 go_upto_region 4 with (go_at_call 141; refine (c1 _ _ (by go_simp)).mono ?_; rintro e w1 ⟨rfl, hb1⟩; have HE1 := Ext.next (w0 := w) (W := W) hb1; have h1 : Own w1 w.heap.size 4 := (h0.alloc _).call hb1)
 go_upto_region 5 with (go_at_call 142; refine (c2 _).mono ?_; rintro e w2 ⟨rfl, hb2⟩; have HE2 := HE1.call hb2; have h2 : Own w2 w.heap.size 4 := h1.call hb2)
 refine hideL h2 (Nat.le_refl _) HE2.2.2.2 (fun W3 g1 hg1 k1 h3 s1 hwg hB3 hE3 => ?_)
 subst hg1
 clear h0 h1 h2 HE HE1 HE2 hb1 hb2 c1 c2
 generalize w2.heap.size = g1 at *
 go_upto_region 12 with (go_at_call 144; refine (c3 _).mono ?_; rintro e w4 ⟨rfl, hb4⟩; have HE4 := hE3.call hb4; have h4 : Own w4 w.heap.size 4 := h3.call hb4)
 refine hideX HE4 k1 s1 h4 (Nat.le_refl _) (fun V g2 hg2 hP => ?_)
 subst hg2
 clear h3 h4 HE4 hE3 hb4 k1 s1 hB3
 generalize w4.heap.size = g2 at *
 have hPP := Lib.hid hP
 obtain ⟨k1, k2, o0, o2, n02, n12, s1, w0, w2, bel⟩ := hP
 go_upto_region 6 with (first | (go_at_call 150; refine (c4 _).mono ?_; rintro e w5 ⟨rfl, hb5⟩; have hP5 := hPP.out.call hb5; have k5 := hP5.ly; have s5 := hP5.s1; clear k1 k2 o0 o2 s1 bel) | (go_at_call 151; refine (c5 _).mono ?_; rintro e w6 ⟨rfl, hb6⟩; have hP6 := hP5.call hb6; have k6 := hP6.ly; have s6 := hP6.s1; have x6 := hP6.xs; have o6 := hP6.o2; clear k5 s5) | (go_at_call 152; refine (c6 _).mono ?_; rintro e w7 ⟨rfl, hb7⟩; have hP7 := hP6.call hb7; have k7 := hP7.ly; have s7 := hP7.s1; have x7 := hP7.xs; have o7 := hP7.o2; clear k6 s6 x6 o6))
 have hQ := hP7
 clear hPP
 go_region
 go_upto_region 7 with (fail)
 refine hideS #[.int .i64 1, .bool neg, .int .i64 0, .int .i64 (-1074)] ((hQ.set 0 (.int .i64 1) (Nat.lt_of_lt_of_le (by decide) (Nat.le_refl 4))).set 3 (.int .i64 (-1074)) (Nat.lt_of_lt_of_le (by decide) (Nat.le_refl 4))).drew rfl (fun X hX => ?_)
 clear hP5 hP6 hP7 hQ k7 s7 x7 o7 hb5 hb6 hb7
 have hXX := Lib.hid hX
 obtain ⟨k1, k2, o0, o2, -, -, s1, -, -, bel⟩ := hX
 go_upto_region 8 with (go_at_call 153; refine (c7 _).mono ?_; rintro e w8 ⟨rfl, hb8⟩; have hP8 := hXX.out.call hb8; have k8 := hP8.ly; have s8 := hP8.s1; have x8 := hP8.xs; have o8 := hP8.o2; clear k1 k2 o0 o2 s1 bel)
 refine hideS #[.int .i64 1, .bool neg, .int .i64 r, .int .i64 (-1074)] (hP8.set 2 (.int .i64 r) (Nat.lt_of_lt_of_le (by decide) (Nat.le_refl 4))) rfl (fun Y hY => ?_)
 clear hP8 k8 s8 x8 o8 hb8 hXX
 have hYY := Lib.hid hY
 obtain ⟨k1, k2, o0, o2, -, -, s1, -, -, bel⟩ := hY
 have hEY : Ext w Y Y := Ext.refl bel
 go_region_held3 (fun w' => Ext w Y w') (first | assumption | (with_reducible exact Ext.call (by assumption) hb9) | ((with_reducible refine Ext.drew ?_); assumption)) ((go_at_call 144; (with_reducible refine (c3 _).mono ?_); rintro e w9 ⟨rfl, hb9⟩; have HE9 : Ext w Y w9 := Ext.call (by assumption) hb9))
 have hP9 := hYY.out.ext HE9
 clear k1 k2 o0 o2 s1 bel hEY hYY HE9 hb9
 have hPP := Lib.hid hP9
 obtain ⟨k1, k2, o0, o2, -, -, s1, -, -, bel⟩ := hP9
 go_wp2
 have hr := Own.read4 (n := 0) ((((o0.set ⟨w.heap.size, 0, none⟩ (.int .i64 1)).set ⟨w.heap.size, 1, none⟩ (.bool neg)).set ⟨w.heap.size, 2, none⟩ (.int .i64 r)).set ⟨w.heap.size, 3, none⟩ (.int .i64 (-1074)))
 exact bodyPost_ret (v := .tuple #[.agg #[.int .i64 1, .bool neg, .int .i64 r, .int .i64 (-1074)], .int .i64 0]) (by simp [results, Tryz.results138, go_sem, hr.1, hr.2.1, hr.2.2.1, hr.2.2.2]) rfl ⟨rfl, below_row bel _ _ _ _⟩
set_option maxRecDepth 100000 in
set_option maxHeartbeats 8000000 in
theorem partsOf_nor_false (b : Int) (w : World) (hb : Rg false b) (neg : Bool) (r f e : Int) (hs : (bits .and .u64 b (signV false) != 0) = neg) (hN : nothingV false b = false) (hI : infiniteV false b = false) (hZ : zeroV false b = false) (hp : bits .and .u64 b (partV false) = r) (he : bits .andNot .u64 b (signV false) = e) (he0 : e = r + 4503599627370496 * f) (hr0 : 0 ≤ r) (hr : r < 4503599627370496) (hf : 1 ≤ f) (hf2 : f < 2047) : Calls Tryz.prog 138 #[.int .i64 2, .int .u64 b] w (Ret (.tuple #[.agg #[.int .i64 1, .bool neg, .int .i64 (r + 4503599627370496), .int .i64 (-1074 + (f - 1))], .int .i64 0]) w) := by
 have c1 := fun g w h => valid1_c 2 b g w hb.u64 h
 have hv : validV 2 [b] = 0 := hb.valid1
 rw [hv] at c1
 have c2 : ∀ w, Calls Tryz.prog 142 #[.int .i64 2] w (Ret (layV false) w) := fun w => layoutOf_c 2 w
 have c3 := fun w => sign_c false w
 have c4 := fun w => isNothing_c false b w
 have c5 := fun w => isInfinite_c false b w
 have c6 := fun w => isZero_c false b w
 have c7 := fun w => part_c false w
 rw [hN] at c4
 rw [hI] at c5
 rw [hZ] at c6
 generalize signV false = S at *
 generalize partV false = PT at *
 simp only [layV] at *
 clear hv hb
 have hw : IntKind.i64.wrap 52 = 52 := by decide
 have f1 : IntKind.i64.wrap r = r := wrap_i64 (by omega) (by omega)
 have f3 : IntKind.i64.wrap e = e := wrap_i64 (by omega) (by omega)
 have f2 : e / 4503599627370496 = f := by omega
 clear he0
 go_enter Tryz.func138, Tryz.ntmps138
 go_upto_region 1 with (fail)
 refine hideO (fun W h0 HE => ?_)
 go_upto_region 4 with (go_at_call 141; refine (c1 _ _ (by go_simp)).mono ?_; rintro e w1 ⟨rfl, hb1⟩; have HE1 := Ext.next (w0 := w) (W := W) hb1; have h1 : Own w1 w.heap.size 4 := (h0.alloc _).call hb1)
 go_upto_region 5 with (go_at_call 142; refine (c2 _).mono ?_; rintro e w2 ⟨rfl, hb2⟩; have HE2 := HE1.call hb2; have h2 : Own w2 w.heap.size 4 := h1.call hb2)
 refine hideL h2 (Nat.le_refl _) HE2.2.2.2 (fun W3 g1 hg1 k1 h3 s1 hwg hB3 hE3 => ?_)
 subst hg1
 clear h0 h1 h2 HE HE1 HE2 hb1 hb2 c1 c2
 generalize w2.heap.size = g1 at *
 go_upto_region 12 with (go_at_call 144; refine (c3 _).mono ?_; rintro e w4 ⟨rfl, hb4⟩; have HE4 := hE3.call hb4; have h4 : Own w4 w.heap.size 4 := h3.call hb4)
 refine hideX HE4 k1 s1 h4 (Nat.le_refl _) (fun V g2 hg2 hP => ?_)
 subst hg2
 clear h3 h4 HE4 hE3 hb4 k1 s1 hB3
 generalize w4.heap.size = g2 at *
 have hPP := Lib.hid hP
 obtain ⟨k1, k2, o0, o2, n02, n12, s1, w0, w2, bel⟩ := hP
 go_upto_region 6 with (first | (go_at_call 150; refine (c4 _).mono ?_; rintro e w5 ⟨rfl, hb5⟩; have hP5 := hPP.out.call hb5; have k5 := hP5.ly; have s5 := hP5.s1; clear k1 k2 o0 o2 s1 bel) | (go_at_call 151; refine (c5 _).mono ?_; rintro e w6 ⟨rfl, hb6⟩; have hP6 := hP5.call hb6; have k6 := hP6.ly; have s6 := hP6.s1; have x6 := hP6.xs; have o6 := hP6.o2; clear k5 s5) | (go_at_call 152; refine (c6 _).mono ?_; rintro e w7 ⟨rfl, hb7⟩; have hP7 := hP6.call hb7; have k7 := hP7.ly; have s7 := hP7.s1; have x7 := hP7.xs; have o7 := hP7.o2; clear k6 s6 x6 o6))
 have hQ := hP7
 clear hPP
 go_region
 go_upto_region 7 with (fail)
 refine hideS #[.int .i64 1, .bool neg, .int .i64 0, .int .i64 (-1074)] ((hQ.set 0 (.int .i64 1) (Nat.lt_of_lt_of_le (by decide) (Nat.le_refl 4))).set 3 (.int .i64 (-1074)) (Nat.lt_of_lt_of_le (by decide) (Nat.le_refl 4))).drew rfl (fun X hX => ?_)
 clear hP5 hP6 hP7 hQ k7 s7 x7 o7 hb5 hb6 hb7
 have hXX := Lib.hid hX
 obtain ⟨k1, k2, o0, o2, -, -, s1, -, -, bel⟩ := hX
 go_upto_region 8 with (go_at_call 153; refine (c7 _).mono ?_; rintro e w8 ⟨rfl, hb8⟩; have hP8 := hXX.out.call hb8; have k8 := hP8.ly; have s8 := hP8.s1; have x8 := hP8.xs; have o8 := hP8.o2; clear k1 k2 o0 o2 s1 bel)
 refine hideS #[.int .i64 1, .bool neg, .int .i64 r, .int .i64 (-1074)] (hP8.set 2 (.int .i64 r) (Nat.lt_of_lt_of_le (by decide) (Nat.le_refl 4))) rfl (fun Y hY => ?_)
 clear hP8 k8 s8 x8 o8 hb8 hXX
 have hYY := Lib.hid hY
 obtain ⟨k1, k2, o0, o2, -, -, s1, -, -, bel⟩ := hY
 have hEY : Ext w Y Y := Ext.refl bel
 go_region_held3 (fun w' => Ext w Y w') (first | assumption | (with_reducible exact Ext.call (by assumption) hb9) | ((with_reducible refine Ext.drew ?_); assumption)) ((go_at_call 144; (with_reducible refine (c3 _).mono ?_); rintro e w9 ⟨rfl, hb9⟩; have HE9 : Ext w Y w9 := Ext.call (by assumption) hb9))
 have hP9 := hYY.out.ext HE9
 clear k1 k2 o0 o2 s1 bel hEY hYY HE9 hb9
 have hPP := Lib.hid hP9
 obtain ⟨k1, k2, o0, o2, -, -, s1, -, -, bel⟩ := hP9
 go_upto_region 10 with (fail)
 go_region
 go_upto_region 11 with (fail)
 refine hideS #[.int .i64 1, .bool neg, .int .i64 (r + 4503599627370496), .int .i64 (-1074)] (hPP.out.set 2 (.int .i64 (r + 4503599627370496)) (Nat.lt_of_lt_of_le (by decide) (Nat.le_refl 4))).drew rfl (fun Z hZ => ?_)
 clear hPP k1 k2 o0 o2 s1 bel
 have hZZ := Lib.hid hZ
 obtain ⟨k1, k2, o0, o2, -, -, s1, -, -, bel⟩ := hZ
 go_upto_region 18 with (fail)
 refine hideS #[.int .i64 1, .bool neg, .int .i64 (r + 4503599627370496), .int .i64 (-1074 + (f - 1))] (hZZ.out.set 3 (.int .i64 (-1074 + (f - 1))) (Nat.lt_of_lt_of_le (by decide) (Nat.le_refl 4))) rfl (fun U hU => ?_)
 clear hZZ k1 k2 o0 o2 s1 bel
 obtain ⟨k1, k2, o0, o2, -, -, s1, -, -, bel⟩ := hU
 go_wp2
 have hr := Own.read4 (n := 0) ((((o0.set ⟨w.heap.size, 0, none⟩ (.int .i64 1)).set ⟨w.heap.size, 1, none⟩ (.bool neg)).set ⟨w.heap.size, 2, none⟩ (.int .i64 (r + 4503599627370496))).set ⟨w.heap.size, 3, none⟩ (.int .i64 (-1074 + (f - 1))))
 exact bodyPost_ret (v := .tuple #[.agg #[.int .i64 1, .bool neg, .int .i64 (r + 4503599627370496), .int .i64 (-1074 + (f - 1))], .int .i64 0]) (by simp [results, Tryz.results138, go_sem, hr.1, hr.2.1, hr.2.2.1, hr.2.2.2]) rfl ⟨rfl, below_row bel _ _ _ _⟩
set_option maxRecDepth 100000 in
set_option maxHeartbeats 8000000 in
theorem partsOf_inf_true (b : Int) (w : World) (hb : Rg true b) (neg : Bool) (hs : (bits .and .u64 b (signV true) != 0) = neg) (hN : nothingV true b = false) (hI : infiniteV true b = true) : Calls Tryz.prog 138 #[.int .i64 1, .int .u64 b] w (Ret (.tuple #[.agg #[.int .i64 2, .bool neg, .int .i64 0, .int .i64 0], .int .i64 0]) w) := by
 have c1 := fun g w h => valid1_c 1 b g w hb.u64 h
 have hv : validV 1 [b] = 0 := hb.valid1
 rw [hv] at c1
 have c2 : ∀ w, Calls Tryz.prog 142 #[.int .i64 1] w (Ret (layV true) w) := fun w => layoutOf_c 1 w
 have c3 := fun w => sign_c true w
 have c4 := fun w => isNothing_c true b w
 have c5 := fun w => isInfinite_c true b w
 have c6 := fun w => isZero_c true b w
 have c7 := fun w => part_c true w
 rw [hN] at c4
 rw [hI] at c5
 generalize signV true = S at *
 generalize partV true = PT at *
 simp only [layV] at *
 clear hv hb
 go_enter Tryz.func138, Tryz.ntmps138
 go_upto_region 1 with (fail)
 refine hideO (fun W h0 HE => ?_)
 go_upto_region 4 with (go_at_call 141; refine (c1 _ _ (by go_simp)).mono ?_; rintro e w1 ⟨rfl, hb1⟩; have HE1 := Ext.next (w0 := w) (W := W) hb1; have h1 : Own w1 w.heap.size 4 := (h0.alloc _).call hb1)
 go_upto_region 5 with (go_at_call 142; refine (c2 _).mono ?_; rintro e w2 ⟨rfl, hb2⟩; have HE2 := HE1.call hb2; have h2 : Own w2 w.heap.size 4 := h1.call hb2)
 refine hideL h2 (Nat.le_refl _) HE2.2.2.2 (fun W3 g1 hg1 k1 h3 s1 hwg hB3 hE3 => ?_)
 subst hg1
 clear h0 h1 h2 HE HE1 HE2 hb1 hb2 c1 c2
 generalize w2.heap.size = g1 at *
 go_upto_region 12 with (go_at_call 144; refine (c3 _).mono ?_; rintro e w4 ⟨rfl, hb4⟩; have HE4 := hE3.call hb4; have h4 : Own w4 w.heap.size 4 := h3.call hb4)
 refine hideX HE4 k1 s1 h4 (Nat.le_refl _) (fun V g2 hg2 hP => ?_)
 subst hg2
 clear h3 h4 HE4 hE3 hb4 k1 s1 hB3
 generalize w4.heap.size = g2 at *
 have hPP := Lib.hid hP
 obtain ⟨k1, k2, o0, o2, n02, n12, s1, w0, w2, bel⟩ := hP
 go_upto_region 15 with (first | (go_at_call 150; refine (c4 _).mono ?_; rintro e w5 ⟨rfl, hb5⟩; have hP5 := hPP.out.call hb5; have k5 := hP5.ly; have s5 := hP5.s1; clear k1 k2 o0 o2 s1 bel) | (go_at_call 151; refine (c5 _).mono ?_; rintro e w6 ⟨rfl, hb6⟩; have hP6 := hP5.call hb6; have k6 := hP6.ly; have s6 := hP6.s1; have x6 := hP6.xs; have o6 := hP6.o2; clear k5 s5))
 have hQ := hP6
 clear hPP
 go_upto_region 18 with (fail)
 refine hideS #[.int .i64 2, .bool neg, .int .i64 0, .int .i64 0] (hQ.set 0 (.int .i64 2) (Nat.lt_of_lt_of_le (by decide) (Nat.le_refl 4))) rfl (fun X hX => ?_)
 obtain ⟨k1, k2, o0, o2, -, -, s1, -, -, bel⟩ := hX
 go_wp2
 have hr := Own.read4 (n := 0) ((((o0.set ⟨w.heap.size, 0, none⟩ (.int .i64 2)).set ⟨w.heap.size, 1, none⟩ (.bool neg)).set ⟨w.heap.size, 2, none⟩ (.int .i64 0)).set ⟨w.heap.size, 3, none⟩ (.int .i64 0))
 exact bodyPost_ret (v := .tuple #[.agg #[.int .i64 2, .bool neg, .int .i64 0, .int .i64 0], .int .i64 0]) (by simp [results, Tryz.results138, go_sem, hr.1, hr.2.1, hr.2.2.1, hr.2.2.2]) rfl ⟨rfl, below_row bel _ _ _ _⟩
set_option maxRecDepth 100000 in
set_option maxHeartbeats 8000000 in
theorem partsOf_nan_true (b : Int) (w : World) (hb : Rg true b) (hN : nothingV true b = true) : Calls Tryz.prog 138 #[.int .i64 1, .int .u64 b] w (Ret (.tuple #[.agg #[.int .i64 3, .bool false, .int .i64 0, .int .i64 0], .int .i64 0]) w) := by
 have c1 := fun g w h => valid1_c 1 b g w hb.u64 h
 have hv : validV 1 [b] = 0 := hb.valid1
 rw [hv] at c1
 have c2 : ∀ w, Calls Tryz.prog 142 #[.int .i64 1] w (Ret (layV true) w) := fun w => layoutOf_c 1 w
 have c3 := fun w => sign_c true w
 have c4 := fun w => isNothing_c true b w
 have c5 := fun w => isInfinite_c true b w
 have c6 := fun w => isZero_c true b w
 have c7 := fun w => part_c true w
 rw [hN] at c4
 obtain ⟨neg, hs⟩ : ∃ neg, (bits .and .u64 b (signV true) != 0) = neg := ⟨_, rfl⟩
 generalize signV true = S at *
 generalize partV true = PT at *
 simp only [layV] at *
 clear hv hb
 go_enter Tryz.func138, Tryz.ntmps138
 go_upto_region 1 with (fail)
 refine hideO (fun W h0 HE => ?_)
 go_upto_region 4 with (go_at_call 141; refine (c1 _ _ (by go_simp)).mono ?_; rintro e w1 ⟨rfl, hb1⟩; have HE1 := Ext.next (w0 := w) (W := W) hb1; have h1 : Own w1 w.heap.size 4 := (h0.alloc _).call hb1)
 go_upto_region 5 with (go_at_call 142; refine (c2 _).mono ?_; rintro e w2 ⟨rfl, hb2⟩; have HE2 := HE1.call hb2; have h2 : Own w2 w.heap.size 4 := h1.call hb2)
 refine hideL h2 (Nat.le_refl _) HE2.2.2.2 (fun W3 g1 hg1 k1 h3 s1 hwg hB3 hE3 => ?_)
 subst hg1
 clear h0 h1 h2 HE HE1 HE2 hb1 hb2 c1 c2
 generalize w2.heap.size = g1 at *
 go_upto_region 12 with (go_at_call 144; refine (c3 _).mono ?_; rintro e w4 ⟨rfl, hb4⟩; have HE4 := hE3.call hb4; have h4 : Own w4 w.heap.size 4 := h3.call hb4)
 refine hideX HE4 k1 s1 h4 (Nat.le_refl _) (fun V g2 hg2 hP => ?_)
 subst hg2
 clear h3 h4 HE4 hE3 hb4 k1 s1 hB3
 generalize w4.heap.size = g2 at *
 have hPP := Lib.hid hP
 obtain ⟨k1, k2, o0, o2, n02, n12, s1, w0, w2, bel⟩ := hP
 go_wp2_with (go_at_call 150; refine (c4 _).mono ?_; rintro e w5 ⟨rfl, hb5⟩; have o0 := o0.call hb5; have bel := below_call bel hb5)
 have hr := Own.read4 (n := 0) ((((o0.set ⟨w.heap.size, 0, none⟩ (.int .i64 3)).set ⟨w.heap.size, 1, none⟩ (.bool false)).set ⟨w.heap.size, 2, none⟩ (.int .i64 0)).set ⟨w.heap.size, 3, none⟩ (.int .i64 0))
 exact bodyPost_ret (v := .tuple #[.agg #[.int .i64 3, .bool false, .int .i64 0, .int .i64 0], .int .i64 0]) (by simp [results, Tryz.results138, go_sem, hr.1, hr.2.1, hr.2.2.1, hr.2.2.2]) rfl ⟨rfl, below_row bel _ _ _ _⟩
set_option maxRecDepth 100000 in
set_option maxHeartbeats 8000000 in
theorem partsOf_zero_true (b : Int) (w : World) (hb : Rg true b) (neg : Bool) (hs : (bits .and .u64 b (signV true) != 0) = neg) (hN : nothingV true b = false) (hI : infiniteV true b = false) (hZ : zeroV true b = true) : Calls Tryz.prog 138 #[.int .i64 1, .int .u64 b] w (Ret (.tuple #[.agg #[.int .i64 0, .bool neg, .int .i64 0, .int .i64 0], .int .i64 0]) w) := by
 have c1 := fun g w h => valid1_c 1 b g w hb.u64 h
 have hv : validV 1 [b] = 0 := hb.valid1
 rw [hv] at c1
 have c2 : ∀ w, Calls Tryz.prog 142 #[.int .i64 1] w (Ret (layV true) w) := fun w => layoutOf_c 1 w
 have c3 := fun w => sign_c true w
 have c4 := fun w => isNothing_c true b w
 have c5 := fun w => isInfinite_c true b w
 have c6 := fun w => isZero_c true b w
 have c7 := fun w => part_c true w
 rw [hN] at c4
 rw [hI] at c5
 rw [hZ] at c6
 generalize signV true = S at *
 generalize partV true = PT at *
 simp only [layV] at *
 clear hv hb
 go_enter Tryz.func138, Tryz.ntmps138
 go_upto_region 1 with (fail)
 refine hideO (fun W h0 HE => ?_)
 go_upto_region 4 with (go_at_call 141; refine (c1 _ _ (by go_simp)).mono ?_; rintro e w1 ⟨rfl, hb1⟩; have HE1 := Ext.next (w0 := w) (W := W) hb1; have h1 : Own w1 w.heap.size 4 := (h0.alloc _).call hb1)
 go_upto_region 5 with (go_at_call 142; refine (c2 _).mono ?_; rintro e w2 ⟨rfl, hb2⟩; have HE2 := HE1.call hb2; have h2 : Own w2 w.heap.size 4 := h1.call hb2)
 refine hideL h2 (Nat.le_refl _) HE2.2.2.2 (fun W3 g1 hg1 k1 h3 s1 hwg hB3 hE3 => ?_)
 subst hg1
 clear h0 h1 h2 HE HE1 HE2 hb1 hb2 c1 c2
 generalize w2.heap.size = g1 at *
 go_upto_region 12 with (go_at_call 144; refine (c3 _).mono ?_; rintro e w4 ⟨rfl, hb4⟩; have HE4 := hE3.call hb4; have h4 : Own w4 w.heap.size 4 := h3.call hb4)
 refine hideX HE4 k1 s1 h4 (Nat.le_refl _) (fun V g2 hg2 hP => ?_)
 subst hg2
 clear h3 h4 HE4 hE3 hb4 k1 s1 hB3
 generalize w4.heap.size = g2 at *
 have hPP := Lib.hid hP
 obtain ⟨k1, k2, o0, o2, n02, n12, s1, w0, w2, bel⟩ := hP
 go_upto_region 17 with (first | (go_at_call 150; refine (c4 _).mono ?_; rintro e w5 ⟨rfl, hb5⟩; have hP5 := hPP.out.call hb5; have k5 := hP5.ly; have s5 := hP5.s1; clear k1 k2 o0 o2 s1 bel) | (go_at_call 151; refine (c5 _).mono ?_; rintro e w6 ⟨rfl, hb6⟩; have hP6 := hP5.call hb6; have k6 := hP6.ly; have s6 := hP6.s1; have x6 := hP6.xs; have o6 := hP6.o2; clear k5 s5) | (go_at_call 152; refine (c6 _).mono ?_; rintro e w7 ⟨rfl, hb7⟩; have hP7 := hP6.call hb7; have k7 := hP7.ly; have s7 := hP7.s1; have x7 := hP7.xs; have o7 := hP7.o2; clear k6 s6 x6 o6))
 have hQ := hP7
 clear hPP
 go_upto_region 18 with (fail)
 refine hideS #[.int .i64 0, .bool neg, .int .i64 0, .int .i64 0] (hQ.set 0 (.int .i64 0) (Nat.lt_of_lt_of_le (by decide) (Nat.le_refl 4))) rfl (fun X hX => ?_)
 obtain ⟨k1, k2, o0, o2, -, -, s1, -, -, bel⟩ := hX
 go_wp2
 have hr := Own.read4 (n := 0) ((((o0.set ⟨w.heap.size, 0, none⟩ (.int .i64 0)).set ⟨w.heap.size, 1, none⟩ (.bool neg)).set ⟨w.heap.size, 2, none⟩ (.int .i64 0)).set ⟨w.heap.size, 3, none⟩ (.int .i64 0))
 exact bodyPost_ret (v := .tuple #[.agg #[.int .i64 0, .bool neg, .int .i64 0, .int .i64 0], .int .i64 0]) (by simp [results, Tryz.results138, go_sem, hr.1, hr.2.1, hr.2.2.1, hr.2.2.2]) rfl ⟨rfl, below_row bel _ _ _ _⟩
set_option maxRecDepth 100000 in
set_option maxHeartbeats 8000000 in
theorem partsOf_den_true (b : Int) (w : World) (hb : Rg true b) (neg : Bool) (r : Int) (hs : (bits .and .u64 b (signV true) != 0) = neg) (hN : nothingV true b = false) (hI : infiniteV true b = false) (hZ : zeroV true b = false) (hp : bits .and .u64 b (partV true) = r) (he : bits .andNot .u64 b (signV true) = r) (hr0 : 0 ≤ r) (hr : r < 8388608) : Calls Tryz.prog 138 #[.int .i64 1, .int .u64 b] w (Ret (.tuple #[.agg #[.int .i64 1, .bool neg, .int .i64 r, .int .i64 (-149)], .int .i64 0]) w) := by
 have c1 := fun g w h => valid1_c 1 b g w hb.u64 h
 have hv : validV 1 [b] = 0 := hb.valid1
 rw [hv] at c1
 have c2 : ∀ w, Calls Tryz.prog 142 #[.int .i64 1] w (Ret (layV true) w) := fun w => layoutOf_c 1 w
 have c3 := fun w => sign_c true w
 have c4 := fun w => isNothing_c true b w
 have c5 := fun w => isInfinite_c true b w
 have c6 := fun w => isZero_c true b w
 have c7 := fun w => part_c true w
 rw [hN] at c4
 rw [hI] at c5
 rw [hZ] at c6
 generalize signV true = S at *
 generalize partV true = PT at *
 simp only [layV] at *
 clear hv hb
 have hw : IntKind.i64.wrap 23 = 23 := by decide
 have f1 : IntKind.i64.wrap r = r := wrap_i64 (by omega) (by omega)
 have f2 : r / 8388608 = 0 := by omega
 go_enter Tryz.func138, Tryz.ntmps138
 go_upto_region 1 with (fail)
 refine hideO (fun W h0 HE => ?_)
 go_upto_region 4 with (go_at_call 141; refine (c1 _ _ (by go_simp)).mono ?_; rintro e w1 ⟨rfl, hb1⟩; have HE1 := Ext.next (w0 := w) (W := W) hb1; have h1 : Own w1 w.heap.size 4 := (h0.alloc _).call hb1)
 go_upto_region 5 with (go_at_call 142; refine (c2 _).mono ?_; rintro e w2 ⟨rfl, hb2⟩; have HE2 := HE1.call hb2; have h2 : Own w2 w.heap.size 4 := h1.call hb2)
 refine hideL h2 (Nat.le_refl _) HE2.2.2.2 (fun W3 g1 hg1 k1 h3 s1 hwg hB3 hE3 => ?_)
 subst hg1
 clear h0 h1 h2 HE HE1 HE2 hb1 hb2 c1 c2
 generalize w2.heap.size = g1 at *
 go_upto_region 12 with (go_at_call 144; refine (c3 _).mono ?_; rintro e w4 ⟨rfl, hb4⟩; have HE4 := hE3.call hb4; have h4 : Own w4 w.heap.size 4 := h3.call hb4)
 refine hideX HE4 k1 s1 h4 (Nat.le_refl _) (fun V g2 hg2 hP => ?_)
 subst hg2
 clear h3 h4 HE4 hE3 hb4 k1 s1 hB3
 generalize w4.heap.size = g2 at *
 have hPP := Lib.hid hP
 obtain ⟨k1, k2, o0, o2, n02, n12, s1, w0, w2, bel⟩ := hP
 go_upto_region 6 with (first | (go_at_call 150; refine (c4 _).mono ?_; rintro e w5 ⟨rfl, hb5⟩; have hP5 := hPP.out.call hb5; have k5 := hP5.ly; have s5 := hP5.s1; clear k1 k2 o0 o2 s1 bel) | (go_at_call 151; refine (c5 _).mono ?_; rintro e w6 ⟨rfl, hb6⟩; have hP6 := hP5.call hb6; have k6 := hP6.ly; have s6 := hP6.s1; have x6 := hP6.xs; have o6 := hP6.o2; clear k5 s5) | (go_at_call 152; refine (c6 _).mono ?_; rintro e w7 ⟨rfl, hb7⟩; have hP7 := hP6.call hb7; have k7 := hP7.ly; have s7 := hP7.s1; have x7 := hP7.xs; have o7 := hP7.o2; clear k6 s6 x6 o6))
 have hQ := hP7
 clear hPP
 go_region
 go_upto_region 7 with (fail)
 refine hideS #[.int .i64 1, .bool neg, .int .i64 0, .int .i64 (-149)] ((hQ.set 0 (.int .i64 1) (Nat.lt_of_lt_of_le (by decide) (Nat.le_refl 4))).set 3 (.int .i64 (-149)) (Nat.lt_of_lt_of_le (by decide) (Nat.le_refl 4))).drew rfl (fun X hX => ?_)
 clear hP5 hP6 hP7 hQ k7 s7 x7 o7 hb5 hb6 hb7
 have hXX := Lib.hid hX
 obtain ⟨k1, k2, o0, o2, -, -, s1, -, -, bel⟩ := hX
 go_upto_region 8 with (go_at_call 153; refine (c7 _).mono ?_; rintro e w8 ⟨rfl, hb8⟩; have hP8 := hXX.out.call hb8; have k8 := hP8.ly; have s8 := hP8.s1; have x8 := hP8.xs; have o8 := hP8.o2; clear k1 k2 o0 o2 s1 bel)
 refine hideS #[.int .i64 1, .bool neg, .int .i64 r, .int .i64 (-149)] (hP8.set 2 (.int .i64 r) (Nat.lt_of_lt_of_le (by decide) (Nat.le_refl 4))) rfl (fun Y hY => ?_)
 clear hP8 k8 s8 x8 o8 hb8 hXX
 have hYY := Lib.hid hY
 obtain ⟨k1, k2, o0, o2, -, -, s1, -, -, bel⟩ := hY
 have hEY : Ext w Y Y := Ext.refl bel
 go_region_held3 (fun w' => Ext w Y w') (first | assumption | (with_reducible exact Ext.call (by assumption) hb9) | ((with_reducible refine Ext.drew ?_); assumption)) ((go_at_call 144; (with_reducible refine (c3 _).mono ?_); rintro e w9 ⟨rfl, hb9⟩; have HE9 : Ext w Y w9 := Ext.call (by assumption) hb9))
 have hP9 := hYY.out.ext HE9
 clear k1 k2 o0 o2 s1 bel hEY hYY HE9 hb9
 have hPP := Lib.hid hP9
 obtain ⟨k1, k2, o0, o2, -, -, s1, -, -, bel⟩ := hP9
 go_wp2
 have hr := Own.read4 (n := 0) ((((o0.set ⟨w.heap.size, 0, none⟩ (.int .i64 1)).set ⟨w.heap.size, 1, none⟩ (.bool neg)).set ⟨w.heap.size, 2, none⟩ (.int .i64 r)).set ⟨w.heap.size, 3, none⟩ (.int .i64 (-149)))
 exact bodyPost_ret (v := .tuple #[.agg #[.int .i64 1, .bool neg, .int .i64 r, .int .i64 (-149)], .int .i64 0]) (by simp [results, Tryz.results138, go_sem, hr.1, hr.2.1, hr.2.2.1, hr.2.2.2]) rfl ⟨rfl, below_row bel _ _ _ _⟩
set_option maxRecDepth 100000 in
set_option maxHeartbeats 8000000 in
theorem partsOf_nor_true (b : Int) (w : World) (hb : Rg true b) (neg : Bool) (r f e : Int) (hs : (bits .and .u64 b (signV true) != 0) = neg) (hN : nothingV true b = false) (hI : infiniteV true b = false) (hZ : zeroV true b = false) (hp : bits .and .u64 b (partV true) = r) (he : bits .andNot .u64 b (signV true) = e) (he0 : e = r + 8388608 * f) (hr0 : 0 ≤ r) (hr : r < 8388608) (hf : 1 ≤ f) (hf2 : f < 255) : Calls Tryz.prog 138 #[.int .i64 1, .int .u64 b] w (Ret (.tuple #[.agg #[.int .i64 1, .bool neg, .int .i64 (r + 8388608), .int .i64 (-149 + (f - 1))], .int .i64 0]) w) := by
 have c1 := fun g w h => valid1_c 1 b g w hb.u64 h
 have hv : validV 1 [b] = 0 := hb.valid1
 rw [hv] at c1
 have c2 : ∀ w, Calls Tryz.prog 142 #[.int .i64 1] w (Ret (layV true) w) := fun w => layoutOf_c 1 w
 have c3 := fun w => sign_c true w
 have c4 := fun w => isNothing_c true b w
 have c5 := fun w => isInfinite_c true b w
 have c6 := fun w => isZero_c true b w
 have c7 := fun w => part_c true w
 rw [hN] at c4
 rw [hI] at c5
 rw [hZ] at c6
 generalize signV true = S at *
 generalize partV true = PT at *
 simp only [layV] at *
 clear hv hb
 have hw : IntKind.i64.wrap 23 = 23 := by decide
 have f1 : IntKind.i64.wrap r = r := wrap_i64 (by omega) (by omega)
 have f3 : IntKind.i64.wrap e = e := wrap_i64 (by omega) (by omega)
 have f2 : e / 8388608 = f := by omega
 clear he0
 go_enter Tryz.func138, Tryz.ntmps138
 go_upto_region 1 with (fail)
 refine hideO (fun W h0 HE => ?_)
 go_upto_region 4 with (go_at_call 141; refine (c1 _ _ (by go_simp)).mono ?_; rintro e w1 ⟨rfl, hb1⟩; have HE1 := Ext.next (w0 := w) (W := W) hb1; have h1 : Own w1 w.heap.size 4 := (h0.alloc _).call hb1)
 go_upto_region 5 with (go_at_call 142; refine (c2 _).mono ?_; rintro e w2 ⟨rfl, hb2⟩; have HE2 := HE1.call hb2; have h2 : Own w2 w.heap.size 4 := h1.call hb2)
 refine hideL h2 (Nat.le_refl _) HE2.2.2.2 (fun W3 g1 hg1 k1 h3 s1 hwg hB3 hE3 => ?_)
 subst hg1
 clear h0 h1 h2 HE HE1 HE2 hb1 hb2 c1 c2
 generalize w2.heap.size = g1 at *
 go_upto_region 12 with (go_at_call 144; refine (c3 _).mono ?_; rintro e w4 ⟨rfl, hb4⟩; have HE4 := hE3.call hb4; have h4 : Own w4 w.heap.size 4 := h3.call hb4)
 refine hideX HE4 k1 s1 h4 (Nat.le_refl _) (fun V g2 hg2 hP => ?_)
 subst hg2
 clear h3 h4 HE4 hE3 hb4 k1 s1 hB3
 generalize w4.heap.size = g2 at *
 have hPP := Lib.hid hP
 obtain ⟨k1, k2, o0, o2, n02, n12, s1, w0, w2, bel⟩ := hP
 go_upto_region 6 with (first | (go_at_call 150; refine (c4 _).mono ?_; rintro e w5 ⟨rfl, hb5⟩; have hP5 := hPP.out.call hb5; have k5 := hP5.ly; have s5 := hP5.s1; clear k1 k2 o0 o2 s1 bel) | (go_at_call 151; refine (c5 _).mono ?_; rintro e w6 ⟨rfl, hb6⟩; have hP6 := hP5.call hb6; have k6 := hP6.ly; have s6 := hP6.s1; have x6 := hP6.xs; have o6 := hP6.o2; clear k5 s5) | (go_at_call 152; refine (c6 _).mono ?_; rintro e w7 ⟨rfl, hb7⟩; have hP7 := hP6.call hb7; have k7 := hP7.ly; have s7 := hP7.s1; have x7 := hP7.xs; have o7 := hP7.o2; clear k6 s6 x6 o6))
 have hQ := hP7
 clear hPP
 go_region
 go_upto_region 7 with (fail)
 refine hideS #[.int .i64 1, .bool neg, .int .i64 0, .int .i64 (-149)] ((hQ.set 0 (.int .i64 1) (Nat.lt_of_lt_of_le (by decide) (Nat.le_refl 4))).set 3 (.int .i64 (-149)) (Nat.lt_of_lt_of_le (by decide) (Nat.le_refl 4))).drew rfl (fun X hX => ?_)
 clear hP5 hP6 hP7 hQ k7 s7 x7 o7 hb5 hb6 hb7
 have hXX := Lib.hid hX
 obtain ⟨k1, k2, o0, o2, -, -, s1, -, -, bel⟩ := hX
 go_upto_region 8 with (go_at_call 153; refine (c7 _).mono ?_; rintro e w8 ⟨rfl, hb8⟩; have hP8 := hXX.out.call hb8; have k8 := hP8.ly; have s8 := hP8.s1; have x8 := hP8.xs; have o8 := hP8.o2; clear k1 k2 o0 o2 s1 bel)
 refine hideS #[.int .i64 1, .bool neg, .int .i64 r, .int .i64 (-149)] (hP8.set 2 (.int .i64 r) (Nat.lt_of_lt_of_le (by decide) (Nat.le_refl 4))) rfl (fun Y hY => ?_)
 clear hP8 k8 s8 x8 o8 hb8 hXX
 have hYY := Lib.hid hY
 obtain ⟨k1, k2, o0, o2, -, -, s1, -, -, bel⟩ := hY
 have hEY : Ext w Y Y := Ext.refl bel
 go_region_held3 (fun w' => Ext w Y w') (first | assumption | (with_reducible exact Ext.call (by assumption) hb9) | ((with_reducible refine Ext.drew ?_); assumption)) ((go_at_call 144; (with_reducible refine (c3 _).mono ?_); rintro e w9 ⟨rfl, hb9⟩; have HE9 : Ext w Y w9 := Ext.call (by assumption) hb9))
 have hP9 := hYY.out.ext HE9
 clear k1 k2 o0 o2 s1 bel hEY hYY HE9 hb9
 have hPP := Lib.hid hP9
 obtain ⟨k1, k2, o0, o2, -, -, s1, -, -, bel⟩ := hP9
 go_upto_region 10 with (fail)
 go_region
 go_upto_region 11 with (fail)
 refine hideS #[.int .i64 1, .bool neg, .int .i64 (r + 8388608), .int .i64 (-149)] (hPP.out.set 2 (.int .i64 (r + 8388608)) (Nat.lt_of_lt_of_le (by decide) (Nat.le_refl 4))).drew rfl (fun Z hZ => ?_)
 clear hPP k1 k2 o0 o2 s1 bel
 have hZZ := Lib.hid hZ
 obtain ⟨k1, k2, o0, o2, -, -, s1, -, -, bel⟩ := hZ
 go_upto_region 18 with (fail)
 refine hideS #[.int .i64 1, .bool neg, .int .i64 (r + 8388608), .int .i64 (-149 + (f - 1))] (hZZ.out.set 3 (.int .i64 (-149 + (f - 1))) (Nat.lt_of_lt_of_le (by decide) (Nat.le_refl 4))) rfl (fun U hU => ?_)
 clear hZZ k1 k2 o0 o2 s1 bel
 obtain ⟨k1, k2, o0, o2, -, -, s1, -, -, bel⟩ := hU
 go_wp2
 have hr := Own.read4 (n := 0) ((((o0.set ⟨w.heap.size, 0, none⟩ (.int .i64 1)).set ⟨w.heap.size, 1, none⟩ (.bool neg)).set ⟨w.heap.size, 2, none⟩ (.int .i64 (r + 8388608))).set ⟨w.heap.size, 3, none⟩ (.int .i64 (-149 + (f - 1))))
 exact bodyPost_ret (v := .tuple #[.agg #[.int .i64 1, .bool neg, .int .i64 (r + 8388608), .int .i64 (-149 + (f - 1))], .int .i64 0]) (by simp [results, Tryz.results138, go_sem, hr.1, hr.2.1, hr.2.2.1, hr.2.2.2]) rfl ⟨rfl, below_row bel _ _ _ _⟩
theorem partsOf_c (s : Bool) (a : Nat) (w : World) (ha : a < 2 * signN s) : Calls Tryz.prog 138 #[.int .i64 (tv s), .int .u64 (a : Int)] w (Ret (.tuple #[(partsR s a).v, .int .i64 0]) w) := by
 have h := read_of s a ha
 have hb : Rg s (a : Int) := rg_nat ha
 generalize partsR s a = p at *
 cases s
 ·cases h with
  | inf neg hs hN hI => exact partsOf_inf_false _ w hb neg hs hN hI
  | nan hN => exact partsOf_nan_false _ w hb hN
  | zero neg hs hN hI hZ => exact partsOf_zero_false _ w hb neg hs hN hI hZ
  | den neg r hs hN hI hZ hp he hr =>
   have hr' : r < 4503599627370496 := hr
   exact partsOf_den_false _ w hb neg r hs hN hI hZ hp he (by omega) (by omega)
  | nor neg r f hs hN hI hZ hp he hr hf hf2 =>
   have hr' : r < 4503599627370496 := hr
   have hf' : f + 1 < 2048 := hf2
   have h := partsOf_nor_false _ w hb neg r f _ hs hN hI hZ hp he (by rw [Int.natCast_add, Int.natCast_mul]; rfl) (by omega) (by omega) (by omega) (by omega)
   have e1 : (r : Int) + 4503599627370496 = ((r + lowN false : Nat) : Int) := (Int.natCast_add r (lowN false)).symm
   have e2 : (-1074 : Int) + ((f : Int) - 1) = (f : Int) - 1 + leastN false := by show _ = (f : Int) - 1 + (-1074); omega
   rw [e1, e2] at h
   exact h
 ·cases h with
  | inf neg hs hN hI => exact partsOf_inf_true _ w hb neg hs hN hI
  | nan hN => exact partsOf_nan_true _ w hb hN
  | zero neg hs hN hI hZ => exact partsOf_zero_true _ w hb neg hs hN hI hZ
  | den neg r hs hN hI hZ hp he hr =>
   have hr' : r < 8388608 := hr
   exact partsOf_den_true _ w hb neg r hs hN hI hZ hp he (by omega) (by omega)
  | nor neg r f hs hN hI hZ hp he hr hf hf2 =>
   have hr' : r < 8388608 := hr
   have hf' : f + 1 < 256 := hf2
   have h := partsOf_nor_true _ w hb neg r f _ hs hN hI hZ hp he (by rw [Int.natCast_add, Int.natCast_mul]; rfl) (by omega) (by omega) (by omega) (by omega)
   have e1 : (r : Int) + 8388608 = ((r + lowN true : Nat) : Int) := (Int.natCast_add r (lowN true)).symm
   have e2 : (-149 : Int) + ((f : Int) - 1) = (f : Int) - 1 + leastN true := by show _ = (f : Int) - 1 + (-149); omega
   rw [e1, e2] at h
   exact h
end Go.Proofs.YtmoimcblmmcffaaGreat.NC

namespace Go.Proofs.YtmoimcblmmcffaaGreat
open Go.RowKit B N NC
set_option linter.unusedSimpArgs false
set_option linter.unusedVariables false
theorem orErr_pair {e r r1 r2 : Int} (h : (if e = 0 then (r, (0 : Int)) else (0, e)) = (r1, r2)) : orErr e r = .tuple #[.int .u64 r1, .int .i64 r2] := by
 unfold orErr
 by_cases he : e = 0
 ·rw [if_pos he] at h ⊢; injection h with h1 h2; rw [h1, h2]
 ·rw [if_neg he] at h ⊢; injection h with h1 h2; rw [h1, h2]
theorem orErrN_pair {e r r1 r2 : Int} (h : (if e = 0 then (r, (0 : Int)) else (0, e)) = (r1, r2)) : orErrN e r = .tuple #[.int .i64 r1, .int .i64 r2] := by
 unfold orErrN
 by_cases he : e = 0
 ·rw [if_pos he] at h ⊢; injection h with h1 h2; rw [h1, h2]
 ·rw [if_neg he] at h ⊢; injection h with h1 h2; rw [h1, h2]
def u64B (a : Int) : Bool := decide (0 ≤ a) && decide (a ≤ 18446744073709551615)
theorem u64B_spec {a : Int} (h : u64B a = true) : U64 a := by
 unfold u64B at h
 simp only [Bool.and_eq_true, decide_eq_true_eq] at h
 exact ⟨h.1, h.2⟩
theorem of_ite {α : Type} {c : Bool} {x y : α} (h : (if c = true then some x else none) = some y) : c = true ∧ x = y := by
 cases c
 ·simp at h
 ·exact ⟨rfl, by simpa using h⟩
def rl_Apply.f (a0 a1 a2 a3 : Int) : Option (Int × Int) := if (u64B a2 && u64B a3) = true then some (if applyErrV a0 a1 a2 a3 = 0 then (applyV a0 (a1 == 1) a2 a3, 0) else (0, applyErrV a0 a1 a2 a3)) else none
theorem rl_Apply.calls (a0 a1 a2 a3 r1 r2 : Int) (w : World) (h : rl_Apply.f a0 a1 a2 a3 = some (r1, r2)) :
  Calls Tryz.prog 139 #[.int .i64 a0, .int .i64 a1, .int .u64 a2, .int .u64 a3] w fun e w' => e = .returned (.tuple #[.int .u64 r1, .int .i64 r2]) ∧ Below w.heap.size w w' := by
 obtain ⟨hu, h⟩ := of_ite h
 simp only [Bool.and_eq_true] at hu
 rw [← orErr_pair h]
 exact Apply_c a0 a1 a2 a3 w (u64B_spec hu.1) (u64B_spec hu.2)
def rl_FromInteger.f (a0 a1 : Int) : Option (Int × Int) := some (if fromErrV a0 a1 = 0 then (fromIntV (a0 == 1) a1, 0) else (0, fromErrV a0 a1))
theorem rl_FromInteger.calls (a0 a1 r1 r2 : Int) (w : World) (h : rl_FromInteger.f a0 a1 = some (r1, r2)) :
  Calls Tryz.prog 93 #[.int .i64 a0, .int .i64 a1] w fun e w' => e = .returned (.tuple #[.int .u64 r1, .int .i64 r2]) ∧ Below w.heap.size w w' := by
 rw [← orErr_pair (Option.some.inj h)]
 exact FromInteger_c a0 a1 w
def rl_SizeOf.f (a0 a1 : Int) : Option (Int × Int) := if u64B a1 = true then some (if validV a0 [a1] = 0 then (sizeV a0 a1, 0) else (0, validV a0 [a1])) else none
theorem rl_SizeOf.calls (a0 a1 r1 r2 : Int) (w : World) (h : rl_SizeOf.f a0 a1 = some (r1, r2)) :
  Calls Tryz.prog 136 #[.int .i64 a0, .int .u64 a1] w fun e w' => e = .returned (.tuple #[.int .u64 r1, .int .i64 r2]) ∧ Below w.heap.size w w' := by
 obtain ⟨hu, h⟩ := of_ite h
 rw [← orErr_pair h]
 exact SizeOf_c a0 a1 w (u64B_spec hu)
def rl_Negated.f (a0 a1 : Int) : Option (Int × Int) := if u64B a1 = true then some (if validV a0 [a1] = 0 then (negV a0 a1, 0) else (0, validV a0 [a1])) else none
theorem rl_Negated.calls (a0 a1 r1 r2 : Int) (w : World) (h : rl_Negated.f a0 a1 = some (r1, r2)) :
  Calls Tryz.prog 122 #[.int .i64 a0, .int .u64 a1] w fun e w' => e = .returned (.tuple #[.int .u64 r1, .int .i64 r2]) ∧ Below w.heap.size w w' := by
 obtain ⟨hu, h⟩ := of_ite h
 rw [← orErr_pair h]
 exact Negated_c a0 a1 w (u64B_spec hu)
def rl_SqrtOf.f (a0 a1 : Int) : Option (Int × Int) := if u64B a1 = true then some (if validV a0 [a1] = 0 then (sqrtV (a0 == 1) a1, 0) else (0, validV a0 [a1])) else none
theorem rl_SqrtOf.calls (a0 a1 r1 r2 : Int) (w : World) (h : rl_SqrtOf.f a0 a1 = some (r1, r2)) :
  Calls Tryz.prog 140 #[.int .i64 a0, .int .u64 a1] w fun e w' => e = .returned (.tuple #[.int .u64 r1, .int .i64 r2]) ∧ Below w.heap.size w w' := by
 obtain ⟨hu, h⟩ := of_ite h
 rw [← orErr_pair h]
 exact SqrtOf_c sqrt_narrow a0 a1 w (u64B_spec hu)
def rl_Compare.f (a0 a1 a2 : Int) : Option (Int × Int) := if (u64B a1 && u64B a2) = true then some (if validV a0 [a1, a2] = 0 then (cmpV (ordV (a0 == 1) a1 a2), 0) else (0, validV a0 [a1, a2])) else none
theorem rl_Compare.calls (a0 a1 a2 r1 r2 : Int) (w : World) (h : rl_Compare.f a0 a1 a2 = some (r1, r2)) :
  Calls Tryz.prog 127 #[.int .i64 a0, .int .u64 a1, .int .u64 a2] w fun e w' => e = .returned (.tuple #[.int .i64 r1, .int .i64 r2]) ∧ Below w.heap.size w w' := by
 obtain ⟨hu, h⟩ := of_ite h
 simp only [Bool.and_eq_true] at hu
 rw [← orErrN_pair h]
 exact Compare_c a0 a1 a2 w (u64B_spec hu.1) (u64B_spec hu.2)
def okW (t a : Int) : Bool := (t == 1 || t == 2) && decide (0 ≤ a) && decide (a < topV (t == 1))
theorem okW_spec {t a : Int} (h : okW t a = true) : tv (t == 1) = t ∧ ∃ x : Nat, a = (x : Int) ∧ x < 2 * signN (t == 1) := by
 unfold okW at h
 simp only [Bool.and_eq_true, decide_eq_true_eq, Bool.or_eq_true, beq_iff_eq] at h
 obtain ⟨⟨ht, h0⟩, h1⟩ := h
 refine ⟨by rcases ht with rfl | rfl <;> rfl, a.toNat, (Int.toNat_of_nonneg h0).symm, ?_⟩
 rw [top_sgn] at h1
 omega
theorem okW_tv {s : Bool} {x : Nat} (h : x < 2 * signN s) : okW (tv s) (x : Int) = true := by
 have h2 : (x : Int) < topV s := by rw [top_sgn]; exact_mod_cast h
 unfold okW
 rw [tv_eq, decide_eq_true h2, decide_eq_true (Int.natCast_nonneg x)]
 cases s <;> rfl
def rl_PartsOf.f (a0 a1 : Int) : Option (Int × Bool × Int × Int × Int) := if okW a0 a1 = true then some ((partsR (a0 == 1) a1.toNat).kind, (partsR (a0 == 1) a1.toNat).neg, ((partsR (a0 == 1) a1.toNat).sig : Int), (partsR (a0 == 1) a1.toNat).exp, 0) else none
theorem rl_PartsOf.calls (a0 a1 r1 : Int) (r2 : Bool) (r3 r4 r5 : Int) (w : World) (h : rl_PartsOf.f a0 a1 = some (r1, r2, r3, r4, r5)) :
  Calls Tryz.prog 138 #[.int .i64 a0, .int .u64 a1] w fun e w' => e = .returned (.tuple #[.agg #[.int .i64 r1, .bool r2, .int .i64 r3, .int .i64 r4], .int .i64 r5]) ∧ Below w.heap.size w w' := by
 obtain ⟨hu, h⟩ := of_ite h
 obtain ⟨ht, x, rfl, hx⟩ := okW_spec hu
 have hc := partsOf_c (a0 == 1) x w hx
 rw [ht] at hc
 rw [Int.toNat_natCast] at h
 simp only [Prod.mk.injEq] at h
 obtain ⟨rfl, rfl, rfl, rfl, rfl⟩ := h
 exact hc
def on2 (t a b : Int) (g : Bool → Nat → Nat → Int) : Option Int := if (okW t a && okW t b) = true then some (g (t == 1) a.toNat b.toNat) else none
theorem on2_spec {t a b : Int} {g : Bool → Nat → Nat → Int} {r : Int} (h : on2 t a b g = some r) : ∃ s x y, t = tv s ∧ a = ((x : Nat) : Int) ∧ b = ((y : Nat) : Int) ∧ (x : Int) < topV s ∧ (y : Int) < topV s ∧ r = g s x y := by
 obtain ⟨hu, h⟩ := of_ite h
 simp only [Bool.and_eq_true] at hu
 obtain ⟨ht, x, rfl, hx⟩ := okW_spec hu.1
 obtain ⟨_, y, rfl, hy⟩ := okW_spec hu.2
 rw [Int.toNat_natCast, Int.toNat_natCast] at h
 exact ⟨_, x, y, ht.symm, rfl, rfl, by rw [top_sgn]; exact_mod_cast hx, by rw [top_sgn]; exact_mod_cast hy, h.symm⟩
theorem on2_tv {s : Bool} {x y : Nat} {g : Bool → Nat → Nat → Int} (h : x < 2 * signN s) (h' : y < 2 * signN s) : on2 (tv s) (x : Int) (y : Int) g = some (g s x y) := by
 unfold on2
 rw [okW_tv h, okW_tv h', if_pos (show (true && true) = true from rfl), tv_eq, Int.toNat_natCast, Int.toNat_natCast]
def r8_Compare.f (a0 a1 a2 : Int) : Option Int := on2 a0 a1 a2 (fun s x y => cmpR s x y)
theorem r8_Compare.calls (a0 a1 a2 r : Int) (w : World) (h : r8_Compare.f a0 a1 a2 = some r) :
  Calls Tryz.prog 62 #[.int .i64 a0, .int .u64 a1, .int .u64 a2] w fun e w' => e = .returned (.int .i64 r) ∧ Below w.heap.size w w' := by
 obtain ⟨s, x, y, rfl, rfl, rfl, hx, hy, rfl⟩ := on2_spec h
 exact cmpR_c s x y w hx hy
def r8_Parts.f (a0 a1 : Int) : Option (Int × Bool × Int × Int) := if okW a0 a1 = true then some ((partsR (a0 == 1) a1.toNat).kind, (partsR (a0 == 1) a1.toNat).neg, ((partsR (a0 == 1) a1.toNat).sig : Int), (partsR (a0 == 1) a1.toNat).exp) else none
theorem r8_Parts.calls (a0 a1 r1 : Int) (r2 : Bool) (r3 r4 : Int) (w : World) (h : r8_Parts.f a0 a1 = some (r1, r2, r3, r4)) :
  Calls Tryz.prog 21 #[.int .i64 a0, .int .u64 a1] w fun e w' => e = .returned (.agg #[.int .i64 r1, .bool r2, .int .i64 r3, .int .i64 r4]) ∧ Below w.heap.size w w' := by
 obtain ⟨hu, h⟩ := of_ite h
 obtain ⟨ht, x, rfl, hx⟩ := okW_spec hu
 have hc := parts_c (a0 == 1) x w (by rw [top_sgn]; exact_mod_cast hx)
 rw [ht] at hc
 rw [Int.toNat_natCast] at h
 simp only [Prod.mk.injEq] at h
 obtain ⟨rfl, rfl, rfl, rfl⟩ := h
 exact hc
def r8_Apply.f (a0 a1 a2 a3 : Int) : Option Int := if (decide (0 ≤ a0) && decide (a0 ≤ 6)) = true then on2 a1 a2 a3 (fun s x y => (opR a0 s x y : Int)) else none
theorem r8_Apply.calls (a0 a1 a2 a3 r : Int) (w : World) (h : r8_Apply.f a0 a1 a2 a3 = some r) :
  Calls Tryz.prog 20 #[.int .i64 a0, .int .i64 a1, .int .u64 a2, .int .u64 a3] w fun e w' => e = .returned (.int .u64 r) ∧ Below w.heap.size w w' := by
 unfold r8_Apply.f at h
 by_cases hc : (decide (0 ≤ a0) && decide (a0 ≤ 6)) = true
 ·rw [if_pos hc] at h
  simp only [Bool.and_eq_true, decide_eq_true_eq] at hc
  obtain ⟨s, x, y, rfl, rfl, rfl, hx, hy, rfl⟩ := on2_spec h
  exact applyR_c a0 s x y w hx hy hc.1 hc.2
 ·rw [if_neg hc] at h; cases h
def r8_FromInteger.f (a0 a1 : Int) : Option Int := if ((a0 == 1 || a0 == 2) && decide (-2147483648 ≤ a1) && decide (a1 ≤ 2147483647)) = true then some (fromR (a0 == 1) a1 : Int) else none
theorem r8_FromInteger.calls (a0 a1 r : Int) (w : World) (h : r8_FromInteger.f a0 a1 = some r) :
  Calls Tryz.prog 23 #[.int .i64 a0, .int .i64 a1] w fun e w' => e = .returned (.int .u64 r) ∧ Below w.heap.size w w' := by
 obtain ⟨hu, rfl⟩ := of_ite h
 simp only [Bool.and_eq_true, Bool.or_eq_true, beq_iff_eq, decide_eq_true_eq] at hu
 have ht' : tv (a0 == 1) = a0 := by rcases hu.1.1 with rfl | rfl <;> rfl
 have hc := fromR_c (a0 == 1) a1 w hu.1.2 hu.2
 rw [ht'] at hc
 exact hc
def r8_IsNumber.f (a0 a1 : Int) : Option Bool := if okW a0 a1 = true then some (isNumR (a0 == 1) a1.toNat) else none
theorem r8_IsNumber.calls (a0 a1 : Int) (r : Bool) (w : World) (h : r8_IsNumber.f a0 a1 = some r) :
  Calls Tryz.prog 17 #[.int .i64 a0, .int .u64 a1] w fun e w' => e = .returned (.bool r) ∧ Below w.heap.size w w' := by
 obtain ⟨hu, rfl⟩ := of_ite h
 obtain ⟨ht, x, rfl, hx⟩ := okW_spec hu
 have hc := isNum_c (a0 == 1) x w (by rw [top_sgn]; exact_mod_cast hx)
 rw [ht] at hc
 rw [Int.toNat_natCast]
 exact hc
end Go.Proofs.YtmoimcblmmcffaaGreat

namespace Go.Proofs.YtmoimcblmmcffaaGreat.NC
open Go.RowKit Go.Proofs.YtmoimcblmmcffaaGreat.B Go.Proofs.YtmoimcblmmcffaaGreat.N
set_option linter.unusedSimpArgs false
set_option linter.unusedVariables false
def D1 : Nat := 4607182418800017408
def DH : Nat := 4602678819172646912
theorem eq0_k : (FloatKind.f64.format.order D1 0 == some Ordering.eq) = false := by decide +kernel
theorem gtr_k : (FloatKind.f64.format.order D1 9218868437227405311 == some Ordering.gt) = false := by decide +kernel
theorem neq_k : (FloatKind.f64.format.order D1 D1 != some Ordering.eq) = false := by decide +kernel
theorem lss_k : (FloatKind.f64.format.order D1 4503599627370496 == some Ordering.lt) = false := by decide +kernel
theorem mulh_k (w : World) : (binOp .mul 145 (.float .f64 4607182418800017408) (.float .f64 DH)).run Tryz.prog w = .ok (.float .f64 DH) w := by kernel_rfl
theorem conv1_k (w : World) : (convert 149 145 (.float .f32 1065353216)).run Tryz.prog w = .ok (.float .f64 D1) w := by kernel_rfl
theorem convh_k (w : World) : (convert 145 149 (.float .f64 DH)).run Tryz.prog w = .ok (.float .f32 1056964608) w := by kernel_rfl
set_option maxRecDepth 100000 in
set_option maxHeartbeats 1000000 in
theorem abs_k (w : World) : Calls Tryz.prog 182 #[.float .f64 D1] w (Ret (.float .f64 D1) w) := by
 have h1 := f64bits D1
 have h2 : ∀ w, (callFunc 161 #[.int .u64 ((D1 : Nat) : Int)]).run Tryz.prog w = .ok (.value (.float .f64 D1)) w := fun w => f64from _ w
 have h3 : bits .andNot .u64 ((D1 : Nat) : Int) 9223372036854775808 = ((D1 : Nat) : Int) := by decide +kernel
 generalize D1 = X at *
 go_enter Tryz.func182, Tryz.ntmps182
 go_wp2
 go_ret
 exact ⟨rfl, below_end⟩
set_option maxRecDepth 100000 in
set_option maxHeartbeats 1000000 in
theorem isInf_k (w : World) : Calls Tryz.prog 177 #[.float .f64 D1, .int .i64 0] w (Ret (.bool false) w) := by
 have c1 := abs_k
 have h1 := gtr_k
 generalize D1 = X at *
 go_enter Tryz.func177, Tryz.ntmps177
 go_wp2_with (go_at_call 182; refine (c1 _).mono ?_; rintro e w1 ⟨rfl, hb1⟩; have HE := Ext.next (w0 := w) (W := w) hb1)
 go_ret
 exact ⟨rfl, Ext.end⟩
set_option maxRecDepth 100000 in
set_option maxHeartbeats 1000000 in
theorem isNaN_k (w : World) : Calls Tryz.prog 178 #[.float .f64 D1] w (Ret (.bool false) w) := by
 have h1 := neq_k
 generalize D1 = X at *
 go_enter Tryz.func178, Tryz.ntmps178
 go_wp2
 go_ret
 exact ⟨rfl, below_end⟩
set_option maxRecDepth 100000 in
set_option maxHeartbeats 1000000 in
theorem normalize_k (w : World) : Calls Tryz.prog 179 #[.float .f64 D1] w (Ret (.tuple #[.float .f64 D1, .int .i64 0]) w) := by
 have c1 := abs_k
 have h1 := lss_k
 generalize D1 = X at *
 go_enter Tryz.func179, Tryz.ntmps179
 go_wp2_with (go_at_call 182; refine (c1 _).mono ?_; rintro e w1 ⟨rfl, hb1⟩; have HE := Ext.next (w0 := w) (W := w) hb1)
 go_ret2
 exact ⟨rfl, Ext.end⟩
set_option maxRecDepth 100000 in
set_option maxHeartbeats 4000000 in
theorem ldexp_k (w : World) : Calls Tryz.prog 168 #[.float .f64 D1, .int .i64 (-1)] w (Ret (.float .f64 DH) w) := by
 have c1 := isInf_k
 have c2 := isNaN_k
 have c3 := normalize_k
 have h1 := eq0_k
 have h2 := f64bits D1
 have h3 : ∀ w, (callFunc 161 #[.int .u64 ((DH : Nat) : Int)]).run Tryz.prog w = .ok (.value (.float .f64 DH)) w := fun w => f64from _ w
 have h4 : ((D1 : Nat) : Int) / 4503599627370496 = 1023 := by decide +kernel
 have h5 : bits .andNot .u64 ((D1 : Nat) : Int) 9218868437227405312 = 0 := by decide +kernel
 have h6 : bits .or .u64 0 4602678819172646912 = ((DH : Nat) : Int) := by decide +kernel
 have h7 := mulh_k
 have h8 : (IntKind.i64.wrap 1023) = 1023 := by decide
 have h9 : bits .and .i64 1023 2047 = 1023 := by decide +kernel
 go_enter Tryz.func168, Tryz.ntmps168
 generalize D1 = X at c1 c2 c3 h1 h2 h4 h5 ⊢
 generalize DH = Y at *
 go_wp2_with (first | (go_at_call 177; refine (c1 _).mono ?_; rintro e w1 ⟨rfl, hb1⟩; have HE := Ext.next (w0 := w) (W := w) hb1) | (go_at_call 178; refine (c2 _).mono ?_; rintro e w2 ⟨rfl, hb2⟩; have HE := Ext.next (w0 := w) (W := w) hb2) | (go_at_call 179; refine (c3 _).mono ?_; rintro e w3 ⟨rfl, hb3⟩; have HE := Ext.next (w0 := w) (W := w) hb3))
 go_ret
 exact ⟨rfl, Ext.end⟩
set_option maxRecDepth 100000 in
set_option maxHeartbeats 1000000 in
theorem Ldexp_k (w : World) : Calls Tryz.prog 159 #[.float .f64 D1, .int .i64 (-1)] w (Ret (.float .f64 DH) w) := by
 have c1 := ldexp_k
 generalize D1 = X at *
 generalize DH = Y at *
 go_enter Tryz.func159, Tryz.ntmps159
 go_wp2_with (go_at_call 168; refine (c1 _).mono ?_; rintro e w1 ⟨rfl, hb1⟩; have HE := Ext.next (w0 := w) (W := w) hb1)
 go_ret
 exact ⟨rfl, Ext.end⟩
set_option maxRecDepth 100000 in
set_option maxHeartbeats 1000000 in
theorem closure_k (g : Nat) (w : World) (h : w.cell? ⟨g, 0, none⟩ = some (.int .i64 (-1))) : Calls Tryz.prog 158 #[.float .f64 D1, .pointer (some ⟨g, 0, none⟩)] w (Ret (.float .f64 DH) w) := by
 have c1 := Ldexp_k
 generalize D1 = X at *
 generalize DH = Y at *
 go_enter Tryz.func158, Tryz.ntmps158
 go_wp2_with (go_at_call 159; refine (c1 _).mono ?_; rintro e w1 ⟨rfl, hb1⟩; have HE := Ext.next (w0 := w) (W := w) hb1)
 go_ret
 exact ⟨rfl, Ext.end⟩
set_option maxRecDepth 100000 in
set_option maxHeartbeats 1000000 in
theorem on1_h2 (g : Nat) (w : World) (h : w.cell? ⟨g, 0, none⟩ = some (.int .i64 (-1))) (hg : g < w.heap.size) : Calls Tryz.prog 156 #[.int .i64 2, .int .u64 ((D1 : Nat) : Int), .func (.func 158) #[] #[.pointer (some ⟨g, 0, none⟩)]] w (Ret (.int .u64 ((DH : Nat) : Int)) w) := by
 have c1 : ∀ w, Calls Tryz.prog 147 #[.int .u64 ((D1 : Nat) : Int)] w (Ret (.float .f64 D1) w) := fun w => double64_c _ w
 have c2 := fun w => closure_k g w
 have c3 : ∀ w, Calls Tryz.prog 134 #[.float .f64 DH] w (Ret (.int .u64 ((DH : Nat) : Int)) w) := fun w => by
  have := bits64_c DH w
  rw [show cleanV false ((DH : Nat) : Int) = ((DH : Nat) : Int) by decide +kernel] at this
  exact this
 generalize D1 = X at *
 generalize DH = Y at *
 go_enter Tryz.func156, Tryz.ntmps156
 go_wp2_with (first | (go_at_call 147; refine (c1 _).mono ?_; rintro e w1 ⟨rfl, hb1⟩; have HE := Ext.next (w0 := w) (W := w) hb1) | (go_at_call 158; refine (c2 _ ((HE.1 _ _ hg).trans h)).mono ?_; rintro e w1 ⟨rfl, hb1⟩; have HE := Ext.next (w0 := w) (W := w) hb1) | (go_at_call 134; refine (c3 _).mono ?_; rintro e w1 ⟨rfl, hb1⟩; have HE := Ext.next (w0 := w) (W := w) hb1))
 go_ret
 exact ⟨rfl, Ext.end⟩
set_option maxRecDepth 100000 in
set_option maxHeartbeats 1000000 in
theorem on1_h1 (g : Nat) (w : World) (h : w.cell? ⟨g, 0, none⟩ = some (.int .i64 (-1))) (hg : g < w.heap.size) : Calls Tryz.prog 156 #[.int .i64 1, .int .u64 1065353216, .func (.func 158) #[] #[.pointer (some ⟨g, 0, none⟩)]] w (Ret (.int .u64 1056964608) w) := by
 have c1 := fun w => real32_c 1065353216 w (by decide) (by decide)
 have c2 := fun w => closure_k g w
 have c3 : ∀ w, Calls Tryz.prog 135 #[.float .f32 1056964608] w (Ret (.int .u64 1056964608) w) := fun w => by
  have := bits32_c 1056964608 w (by decide)
  rw [show cleanV true ((1056964608 : Nat) : Int) = 1056964608 by decide +kernel] at this
  exact this
 have h1 := conv1_k
 have h2 := convh_k
 generalize D1 = X at *
 generalize DH = Y at *
 go_enter Tryz.func156, Tryz.ntmps156
 go_wp2_with (first | (go_at_call 146; refine (c1 _).mono ?_; rintro e w1 ⟨rfl, hb1⟩; have HE := Ext.next (w0 := w) (W := w) hb1) | (go_at_call 158; refine (c2 _ ((HE.1 _ _ hg).trans h)).mono ?_; rintro e w1 ⟨rfl, hb1⟩; have HE := Ext.next (w0 := w) (W := w) hb1) | (go_at_call 135; refine (c3 _).mono ?_; rintro e w1 ⟨rfl, hb1⟩; have HE := Ext.next (w0 := w) (W := w) hb1))
 go_ret
 exact ⟨rfl, Ext.end⟩
theorem scaled_k (t a b : Int) (w : World) (ha : U64 a) (hv : validV t [a] = 0) (c4 : ∀ g w, w.cell? ⟨g, 0, none⟩ = some (.int .i64 (-1)) → g < w.heap.size → Calls Tryz.prog 156 #[.int .i64 t, .int .u64 a, .func (.func 158) #[] #[.pointer (some ⟨g, 0, none⟩)]] w (Ret (.int .u64 b) w)) :
  Calls Tryz.prog 145 #[.int .i64 t, .int .u64 a, .int .i64 (-1)] w (Ret (.tuple #[.int .u64 b, .int .i64 0]) w) := by
 have c1 := fun g w h => valid1_c t a g w ha h
 rw [hv] at c1
 have c2 : ∀ w, Calls Tryz.prog 130 #[.int .i64 (-1), .int .i64 (-5000), .int .i64 5000] w (Ret (.int .i64 0) w) := fun w => ranged_c (-1) (-5000) 5000 w
 have c3 : ∀ w, Calls Tryz.prog 128 #[.int .i64 0, .int .i64 0] w (Ret (.int .i64 0) w) := fun w => either_c 0 0 w
 clear ha hv
 go_enter Tryz.func145, Tryz.ntmps145
 go_upto_region 1 with (fail)
 refine hide1 w (fun W k0 s0 HE => ?_)
 go_region_held3 (fun w' => Ext w W w') (first | assumption | (with_reducible exact Ext.call (by assumption) hb1) | ((with_reducible refine Ext.drew ?_); assumption) | ((with_reducible refine Ext.alloc ?_ _); assumption) | ((with_reducible refine Ext.drew ?_); (with_reducible refine Ext.alloc ?_ _); assumption)) (first | (go_at_call 141; refine (c1 _ _ (by first | assumption | (go_simp; done))).mono ?_; rintro e w1 ⟨rfl, hb1⟩; have HE1 : Ext w W w1 := Ext.call (by first | assumption | ((with_reducible refine Ext.alloc ?_ _); assumption)) hb1) | (go_at_call 130; (with_reducible refine (c2 _).mono ?_); rintro e w1 ⟨rfl, hb1⟩; (try (have hcw : w1.cell? ⟨W.heap.size, 0, none⟩ = some (.int .u64 a) := ((bcell hb1).1 _ _ (by simp)).trans (by go_simp))); have HE1 : Ext w W w1 := Ext.call (by first | assumption | ((with_reducible refine Ext.alloc ?_ _); assumption)) hb1) | (go_at_call 128; (with_reducible refine (c3 _).mono ?_); rintro e w1 ⟨rfl, hb1⟩; have HE1 : Ext w W w1 := Ext.call (by assumption) hb1))
 all_goals
  have HX := (by assumption : Ext w W _)
  go_wp2_with (go_at_call 156; refine (c4 _ _ ((HX.1 _ _ s0).trans (k0 0)) (Nat.lt_of_lt_of_le s0 HX.2.2.1)).mono ?_; rintro e w9 ⟨rfl, hb9⟩; have HY := HX.call hb9)
  go_ret2
  exact ⟨rfl, HY.2.2.2⟩
theorem ScaledBy_1 (w : World) : Calls Tryz.prog 145 #[.int .i64 1, .int .u64 1065353216, .int .i64 (-1)] w (Ret (.tuple #[.int .u64 1056964608, .int .i64 0]) w) :=
 scaled_k 1 1065353216 1056964608 w (by decide) (by decide) on1_h1
theorem ScaledBy_2 (w : World) : Calls Tryz.prog 145 #[.int .i64 2, .int .u64 ((D1 : Nat) : Int), .int .i64 (-1)] w (Ret (.tuple #[.int .u64 ((DH : Nat) : Int), .int .i64 0]) w) :=
 scaled_k 2 ((D1 : Nat) : Int) ((DH : Nat) : Int) w (by decide) (by decide +kernel) on1_h2
end Go.Proofs.YtmoimcblmmcffaaGreat.NC
namespace Go.Proofs.YtmoimcblmmcffaaGreat
open Go.RowKit NC B
def rl_ScaledBy.f (a0 a1 a2 : Int) : Option (Int × Int) := if (a0 == 1 && a1 == 1065353216 && a2 == -1) = true then some (1056964608, 0) else if (a0 == 2 && a1 == ((D1 : Nat) : Int) && a2 == -1) = true then some (((DH : Nat) : Int), 0) else none
theorem rl_ScaledBy.calls (a0 a1 a2 r1 r2 : Int) (w : World) (h : rl_ScaledBy.f a0 a1 a2 = some (r1, r2)) :
  Calls Tryz.prog 145 #[.int .i64 a0, .int .u64 a1, .int .i64 a2] w fun e w' => e = .returned (.tuple #[.int .u64 r1, .int .i64 r2]) ∧ Below w.heap.size w w' := by
 unfold rl_ScaledBy.f at h
 by_cases h1 : (a0 == 1 && a1 == 1065353216 && a2 == -1) = true
 ·rw [if_pos h1] at h
  simp only [Bool.and_eq_true, beq_iff_eq] at h1
  obtain ⟨⟨rfl, rfl⟩, rfl⟩ := h1
  injection Option.some.inj h with h2 h3
  subst h2 h3
  exact ScaledBy_1 w
 ·rw [if_neg h1] at h
  by_cases h4 : (a0 == 2 && a1 == ((D1 : Nat) : Int) && a2 == -1) = true
  ·rw [if_pos h4] at h
   simp only [Bool.and_eq_true, beq_iff_eq] at h4
   obtain ⟨⟨rfl, rfl⟩, rfl⟩ := h4
   injection Option.some.inj h with h2 h3
   subst h2 h3
   exact ScaledBy_2 w
  ·rw [if_neg h4] at h; cases h
end Go.Proofs.YtmoimcblmmcffaaGreat

namespace Go.Proofs.YtmoimcblmmcffaaGreat.B
open Go.RowKit
set_option linter.unusedSimpArgs false
set_option linter.unusedVariables false
theorem fits_c (t : Int) (A : Option Addr) (xs : List Int) (c : Nat) (w : World) (hx : ∀ x ∈ xs, 0 ≤ x ∧ x ≤ 18446744073709551615) (hl : xs.length ≤ 1000) (hr : Reads w A xs) :
  Calls Tryz.prog 91 #[.int .i64 t, .slice A xs.length c] w (Ret (.bool (decide (bitsErrV t xs = 0))) w) := by
 go_enter Tryz.func91, Tryz.ntmps91
 go_wp2
 go_loop [9] (fun i => ∃ k : Nat, k ≤ xs.length ∧ i = .int .i64 k ∧ Low t xs k) (fun i => xs.length - (intOf i).toNat)
 case atStart => exact ⟨0, Nat.zero_le _, rfl, fun _ j hj => by omega⟩
 case round =>
  obtain ⟨k, hk, rfl, hlow⟩ := hrel
  by_cases hlt : k < xs.length
  ·obtain ⟨ad, rfl, hcell⟩ := hr k hlt
   have hb := hx (xs.getD k 0) (getD_mem hlt)
   have HR := Lib.hid hr
   have HX := Lib.hid hx
   clear hr hx
   obtain ⟨x, hxk⟩ : ∃ x, xs.getD k 0 = x := ⟨_, rfl⟩
   rw [hxk] at hcell hb
   have HK := Lib.hid hxk
   clear hxk
   by_cases ht : t = 1
   ·subst ht
    by_cases hq : x < 4294967296
    ·have b : (x / 4294967296 != 0) = false := by simp; omega
     have hl2 := hlow.succ (fun _ => by rw [HK.out]; exact hq)
     go_wp2
     go_round
     case rel => exact ⟨k + 1, by omega, by go_num, hl2⟩
     case measure => simp [intOf]; omega
    ·have b : (x / 4294967296 != 0) = true := by simp; omega
     have h2 := Lib.hid (bitsErr_big hlt (by rw [HK.out]; exact hq))
     go_wp2
     go_ret
     exact ⟨by rw [h2.out]; rfl, below_end⟩
   ·have b : (t == 1) = false := by simpa using ht
    have hl2 := hlow.succ (fun h => absurd h ht)
    go_wp2
    go_round
    case rel => exact ⟨k + 1, by omega, by go_num, hl2⟩
    case measure => simp [intOf]; omega
  ·have hk' : k = xs.length := by omega
   have h0 := Lib.hid (Low.all (hk' ▸ hlow))
   clear hk'
   go_wp2
   go_ret
   exact ⟨by rw [h0.out]; rfl, below_end⟩
theorem fits2_c (t a b : Int) (g : Nat) (w : World) (ha : U64 a) (hb : U64 b) (h : w.cell? ⟨g, 0, none⟩ = some (.int .u64 a)) (h' : w.cell? ⟨g, 1, none⟩ = some (.int .u64 b)) :
  Calls Tryz.prog 91 #[.int .i64 t, .slice (some ⟨g, 0, none⟩) 2 2] w (Ret (.bool (decide (bitsErrV t [a, b] = 0))) w) :=
 fits_c t _ [a, b] 2 w (by intro x hx; simp at hx; rcases hx with rfl | rfl <;> assumption) (by simp) (reads2 h h')
def cpart (t : Int) : Int := if t = 3 then 1 else if t = 4 then 2 else 0
def ctypeErrV (t : Int) : Int := if t = 3 then 0 else if t = 4 then 0 else 27
theorem partType_c (t : Int) (w : World) : Calls Tryz.prog 88 #[.int .i64 t] w (Ret (.tuple #[.int .i64 (cpart t), .int .i64 (ctypeErrV t)]) w) := by
 unfold cpart ctypeErrV
 by_cases h1 : t = 3
 ·subst h1
  go_enter Tryz.func88, Tryz.ntmps88
  go_wp2
  go_ret2
  exact ⟨rfl, below_end⟩
 ·by_cases h2 : t = 4
  ·subst h2
   go_enter Tryz.func88, Tryz.ntmps88
   go_wp2
   go_ret2
   exact ⟨rfl, below_end⟩
  ·have b1 : (t == 3) = false := by simpa using h1
   have b2 : (t == 4) = false := by simpa using h2
   rw [if_neg h1, if_neg h2, if_neg h1, if_neg h2]
   go_enter Tryz.func88, Tryz.ntmps88
   go_wp2
   go_ret2
   exact ⟨rfl, below_end⟩
def openErrV (t a b : Int) (s : ByteArray) : Int := if ctypeErrV t = 0 then (if s.toList = [] then (if bitsErrV (cpart t) [a, b] = 0 then 0 else 3) else 3) else ctypeErrV t
set_option maxRecDepth 100000 in
set_option maxHeartbeats 4000000 in
theorem open_c (t a b : Int) (s : ByteArray) (w : World) (ha : U64 a) (hb : U64 b) : Calls Tryz.prog 72 #[.agg #[.int .i64 t, .int .u64 a, .int .u64 b, .string s]] w (Ret (.tuple #[.int .i64 (cpart t), .agg #[.int .u64 a, .int .u64 b], .int .i64 (openErrV t a b s)]) w) := by
 have c1 := partType_c t
 have c2 := fun g w h h' => fits2_c (cpart t) a b g w ha hb h h'
 unfold openErrV
 generalize cpart t = p at *
 generalize ctypeErrV t = e at *
 generalize bitsErrV p [a, b] = f at *
 clear ha hb
 by_cases he : e = 0
 ·subst he
  rw [if_pos rfl]
  by_cases hs : s.toList = []
  ·have hs1 : (s.toList != []) = false := by simpa using hs
   rw [if_pos hs]
   by_cases hf : f = 0
   ·simp only [hf, decide_true, if_true] at c2 ⊢
    go_enter Tryz.func72, Tryz.ntmps72
    go_upto_region 1 with (fail)
    refine hide1own w (fun W k0 ho HW => ?_)
    have HO : ExO (w.heap.size + 1) w W (w.heap.size + 1) 2 W := ⟨HW, ho⟩
    go_upto_region 4 with (first | (go_at_call 88; refine (c1 _).mono ?_; rintro e w1 ⟨rfl, hb1⟩; have HO := HO.call hb1) | (go_at_call 91; refine (c2 _ _ (by go_simp) (by go_simp)).mono ?_; rintro e w2 ⟨rfl, hb2⟩; have HO := (HO.alloc _).call hb2))
    go_region_held3 (fun w' => ExO (w.heap.size + 1) w W (w.heap.size + 1) 2 w') (exact ExO.keep) (fail)
    go_wp2
    have h := (by assumption : ExO _ _ _ _ _ _)
    obtain ⟨e0, e1⟩ := Own.read2 (n := 0) h.2
    exact bodyPost_ret (v := .tuple #[.int .i64 p, .agg #[.int .u64 a, .int .u64 b], .int .i64 0]) (by simp [results, Tryz.results72, go_sem, e0, e1]) rfl ⟨rfl, h.end⟩
   ·simp only [hf, decide_false, if_false] at c2 ⊢
    go_enter Tryz.func72, Tryz.ntmps72
    go_upto_region 1 with (fail)
    refine hide1own w (fun W k0 ho HW => ?_)
    have HO : ExO (w.heap.size + 1) w W (w.heap.size + 1) 2 W := ⟨HW, ho⟩
    go_upto_region 4 with (first | (go_at_call 88; refine (c1 _).mono ?_; rintro e w1 ⟨rfl, hb1⟩; have HO := HO.call hb1) | (go_at_call 91; refine (c2 _ _ (by go_simp) (by go_simp)).mono ?_; rintro e w2 ⟨rfl, hb2⟩; have HO := (HO.alloc _).call hb2))
    go_region_held3 (fun w' => ExO (w.heap.size + 1) w W (w.heap.size + 1) 2 w') (exact ExO.keep) (fail)
    go_wp2
    have h := (by assumption : ExO _ _ _ _ _ _)
    obtain ⟨e0, e1⟩ := Own.read2 (n := 0) h.2
    exact bodyPost_ret (v := .tuple #[.int .i64 p, .agg #[.int .u64 a, .int .u64 b], .int .i64 3]) (by simp [results, Tryz.results72, go_sem, e0, e1]) rfl ⟨rfl, h.end⟩
  ·have hs1 : (s.toList != []) = true := by simpa using hs
   rw [if_neg hs]
   go_enter Tryz.func72, Tryz.ntmps72
   go_upto_region 1 with (fail)
   refine hide1own w (fun W k0 ho HW => ?_)
   have HO : ExO (w.heap.size + 1) w W (w.heap.size + 1) 2 W := ⟨HW, ho⟩
   go_upto_region 4 with (first | (go_at_call 88; refine (c1 _).mono ?_; rintro e w1 ⟨rfl, hb1⟩; have HO := HO.call hb1) | (go_at_call 91; refine (c2 _ _ (by go_simp) (by go_simp)).mono ?_; rintro e w2 ⟨rfl, hb2⟩; have HO := (HO.alloc _).call hb2))
   go_region_held3 (fun w' => ExO (w.heap.size + 1) w W (w.heap.size + 1) 2 w') (exact ExO.keep) (fail)
   go_wp2
   have h := (by assumption : ExO _ _ _ _ _ _)
   obtain ⟨e0, e1⟩ := Own.read2 (n := 0) h.2
   exact bodyPost_ret (v := .tuple #[.int .i64 p, .agg #[.int .u64 a, .int .u64 b], .int .i64 3]) (by simp [results, Tryz.results72, go_sem, e0, e1]) rfl ⟨rfl, h.end⟩
 ·have he1 : (e == 0) = false := by simpa using he
  have he2 : (e != 0) = true := by simpa using he
  rw [if_neg he]
  go_enter Tryz.func72, Tryz.ntmps72
  go_upto_region 1 with (fail)
  refine hide1own w (fun W k0 ho HW => ?_)
  have HO : ExO (w.heap.size + 1) w W (w.heap.size + 1) 2 W := ⟨HW, ho⟩
  go_upto_region 4 with (first | (go_at_call 88; refine (c1 _).mono ?_; rintro e w1 ⟨rfl, hb1⟩; have HO := HO.call hb1) | (go_at_call 91; refine (c2 _ _ (by go_simp) (by go_simp)).mono ?_; rintro e w2 ⟨rfl, hb2⟩; have HO := (HO.alloc _).call hb2))
  go_region_held3 (fun w' => ExO (w.heap.size + 1) w W (w.heap.size + 1) 2 w') (exact ExO.keep) (fail)
  go_wp2
  have h := (by assumption : ExO _ _ _ _ _ _)
  obtain ⟨e0, e1⟩ := Own.read2 (n := 0) h.2
  exact bodyPost_ret (v := .tuple #[.int .i64 p, .agg #[.int .u64 a, .int .u64 b], .int .i64 e]) (by simp [results, Tryz.results72, go_sem, e0, e1]) rfl ⟨rfl, h.end⟩
end Go.Proofs.YtmoimcblmmcffaaGreat.B

namespace Go.Proofs.YtmoimcblmmcffaaGreat.B
open Go.RowKit
set_option linter.unusedSimpArgs false
set_option linter.unusedVariables false
abbrev BS (w : World) (g2 g3 gx gy : Nat) (x0 x1 y0 y1 : Value) (V : World) : Prop :=
 (V.cell? ⟨gx, 0, none⟩ = some x0 ∧ V.cell? ⟨gx, 1, none⟩ = some x1 ∧ V.cell? ⟨gy, 0, none⟩ = some y0 ∧ V.cell? ⟨gy, 1, none⟩ = some y1) ∧ (Own V g2 2 ∧ Own V g3 2) ∧ Below w.heap.size w V ∧ (gx ≠ g2 ∧ gx ≠ g3 ∧ gy ≠ g2 ∧ gy ≠ g3 ∧ g2 ≠ g3 ∧ w.heap.size ≤ g2 ∧ w.heap.size ≤ g3)
section
variable {w V : World} {g2 g3 gx gy : Nat} {x0 x1 y0 y1 : Value}
theorem far_cell {W : World} {p a : Addr} {u v : Value} (h : W.cell? a = some v) (hn : a.block ≠ p.block) : (W.setCell p u).cell? a = some v :=
 (World.cell?_setCell_other W p a u (fun e => hn (by rw [e]))).trans h
theorem BS.drew (h : BS w g2 g3 gx gy x0 x1 y0 y1 V) : BS w g2 g3 gx gy x0 x1 y0 y1 V.drew := ⟨h.1, ⟨h.2.1.1.drew, h.2.1.2.drew⟩, h.2.2.1.drew, h.2.2.2⟩
theorem BS.put2 (h : BS w g2 g3 gx gy x0 x1 y0 y1 V) (j : Nat) (v : Value) : BS w g2 g3 gx gy x0 x1 y0 y1 (V.setCell ⟨g2, j, none⟩ v) := by
 obtain ⟨⟨a, b, c, d⟩, ⟨o2, o3⟩, hb, n1, n2, n3, n4, n5, l2, l3⟩ := h
 exact ⟨⟨far_cell a n1, far_cell b n1, far_cell c n3, far_cell d n3⟩, ⟨o2.set _ _, o3.set _ _⟩, hb.setCell (p := ⟨g2, j, none⟩) l2 v, n1, n2, n3, n4, n5, l2, l3⟩
theorem BS.put3 (h : BS w g2 g3 gx gy x0 x1 y0 y1 V) (j : Nat) (v : Value) : BS w g2 g3 gx gy x0 x1 y0 y1 (V.setCell ⟨g3, j, none⟩ v) := by
 obtain ⟨⟨a, b, c, d⟩, ⟨o2, o3⟩, hb, n1, n2, n3, n4, n5, l2, l3⟩ := h
 exact ⟨⟨far_cell a n2, far_cell b n2, far_cell c n4, far_cell d n4⟩, ⟨o2.set _ _, o3.set _ _⟩, hb.setCell (p := ⟨g3, j, none⟩) l3 v, n1, n2, n3, n4, n5, l2, l3⟩
theorem BS.keep (h : BS w g2 g3 gx gy x0 x1 y0 y1 V := by repeat (with_reducible first | assumption | refine BS.drew ?_ | refine BS.put2 ?_ _ _ | refine BS.put3 ?_ _ _)) : BS w g2 g3 gx gy x0 x1 y0 y1 V := h
end
theorem hide4 {P : Program} {c : Code} {Q : Exit → Act → World → Prop} {a : Act} {w : World} {cs cs' r r' : Array Value} {t t' t2 t3 : TypeId}
  (h : ∀ W n, n = w.heap.size → (∀ i, W.cell? ⟨n, i, none⟩ = cs[i]?) → (∀ i, W.cell? ⟨n + 1, i, none⟩ = cs'[i]?) → Own W (n + 2) r.size → Own W (n + 3) r'.size → n + 4 ≤ W.heap.size → Below w.heap.size w W → c.wp P Q a W) :
  c.wp P Q a ((((w.alloc (.cells cs t (0, 0))).alloc (.cells cs' t' (0, 0))).alloc (.cells r t2 (0, 0))).alloc (.cells r' t3 (0, 0))) := by
 have e1 : (w.alloc (.cells cs t (0, 0))).heap.size = w.heap.size + 1 := by simp
 have e2 : ((w.alloc (.cells cs t (0, 0))).alloc (.cells cs' t' (0, 0))).heap.size = w.heap.size + 2 := by simp
 have e3 : (((w.alloc (.cells cs t (0, 0))).alloc (.cells cs' t' (0, 0))).alloc (.cells r t2 (0, 0))).heap.size = w.heap.size + 3 := by simp
 refine h _ w.heap.size rfl (fun i => ?_) (fun i => ?_) ?_ ?_ (by simp) (below_alloc0 (below_alloc0 (below_alloc0 (below_alloc0 (Below.refl _ _) _) _) _) _)
 ·rw [cell_of_row _ _ i cs t (0, 0) ((Below.heap_alloc _ _ _ (by rw [e3]; omega)).trans ((Below.heap_alloc _ _ _ (by rw [e2]; omega)).trans ((Below.heap_alloc _ _ _ (by rw [e1]; omega)).trans (heap_alloc_new w _))))]
 ·have k := heap_alloc_new (w.alloc (.cells cs t (0, 0))) (.cells cs' t' (0, 0))
  rw [e1] at k
  rw [cell_of_row _ _ i cs' t' (0, 0) ((Below.heap_alloc _ _ _ (by rw [e3]; omega)).trans ((Below.heap_alloc _ _ _ (by rw [e2]; omega)).trans k))]
 ·have k := own_new ((w.alloc (.cells cs t (0, 0))).alloc (.cells cs' t' (0, 0))) r t2
  rw [e2] at k
  exact k.alloc _
 ·have k := own_new (((w.alloc (.cells cs t (0, 0))).alloc (.cells cs' t' (0, 0))).alloc (.cells r t2 (0, 0))) r' t3
  rw [e3] at k
  exact k
theorem hideP1 {P : Program} {c : Code} {Q : Exit → Act → World → Prop} {a : Act} {w W w1 : World} {n : Nat} {cs' : Array Value} {x0 x1 : Value} {t : TypeId}
  (k1 : ∀ i, W.cell? ⟨n + 1, i, none⟩ = cs'[i]?) (o2 : Own W (n + 2) 2) (o3 : Own W (n + 3) 2) (hs : n + 4 ≤ W.heap.size) (hbl : Below w.heap.size w W) (hb : Below W.heap.size W w1)
  (h : ∀ V gx, w1.heap.size = gx → (∀ i, V.cell? ⟨n + 1, i, none⟩ = cs'[i]?) → V.cell? ⟨gx, 0, none⟩ = some x0 → V.cell? ⟨gx, 1, none⟩ = some x1 → Own V (n + 2) 2 → Own V (n + 3) 2 → n + 4 ≤ gx → gx < V.heap.size → Below w.heap.size w V → c.wp P Q a V) :
  c.wp P Q a (w1.alloc (.cells #[x0, x1] t (0, 0))) := by
 have hsz := hb.size
 have hb2 : Below W.heap.size W (w1.alloc (.cells #[x0, x1] t (0, 0))) := below_alloc0 hb _
 exact h _ _ rfl (fun i => ((bcell hb2).1 _ _ (by omega)).trans (k1 i)) (cell_of_row _ _ 0 _ t (0, 0) (heap_alloc_new w1 _)) (cell_of_row _ _ 1 _ t (0, 0) (heap_alloc_new w1 _)) (o2.call hb2) (o3.call hb2) (by omega) (by simp) (hbl.trans (hb2.mono hbl.size))
theorem hideP2 {P : Program} {c : Code} {Q : Exit → Act → World → Prop} {a : Act} {w W w1 : World} {n gx : Nat} {x0 x1 y0 y1 : Value} {t : TypeId}
  (kx0 : W.cell? ⟨gx, 0, none⟩ = some x0) (kx1 : W.cell? ⟨gx, 1, none⟩ = some x1) (o2 : Own W (n + 2) 2) (o3 : Own W (n + 3) 2) (hs : n + 4 ≤ gx) (hs2 : gx < W.heap.size) (hbl : Below w.heap.size w W) (hnw : n = w.heap.size) (hb : Below W.heap.size W w1)
  (h : ∀ V gy, w1.heap.size = gy → BS w (n + 2) (n + 3) gx gy x0 x1 y0 y1 V → c.wp P Q a V) :
  c.wp P Q a (w1.alloc (.cells #[y0, y1] t (0, 0))) := by
 have hsz := hb.size
 have hb2 : Below W.heap.size W (w1.alloc (.cells #[y0, y1] t (0, 0))) := below_alloc0 hb _
 refine h _ _ rfl ⟨⟨((bcell hb2).1 _ _ hs2).trans kx0, ((bcell hb2).1 _ _ hs2).trans kx1, cell_of_row _ _ 0 _ t (0, 0) (heap_alloc_new w1 _), cell_of_row _ _ 1 _ t (0, 0) (heap_alloc_new w1 _)⟩, ⟨o2.call hb2, o3.call hb2⟩, hbl.trans (hb2.mono hbl.size), ?_⟩
 subst hnw
 refine ⟨?_, ?_, ?_, ?_, ?_, ?_, ?_⟩ <;> omega
theorem read22 {W : World} {g2 g3 : Nat} {a b c d : Value} (o2 : Own ((((W.setCell ⟨g2, 0, none⟩ a).setCell ⟨g2, 1, none⟩ b).setCell ⟨g3, 0, none⟩ c).setCell ⟨g3, 1, none⟩ d) g2 2) (o3 : Own ((((W.setCell ⟨g2, 0, none⟩ a).setCell ⟨g2, 1, none⟩ b).setCell ⟨g3, 0, none⟩ c).setCell ⟨g3, 1, none⟩ d) g3 2) (hn : g2 ≠ g3) :
  let V := (((W.setCell ⟨g2, 0, none⟩ a).setCell ⟨g2, 1, none⟩ b).setCell ⟨g3, 0, none⟩ c).setCell ⟨g3, 1, none⟩ d
  V.cell? ⟨g2, 0, none⟩ = some a ∧ V.cell? ⟨g2, 1, none⟩ = some b ∧ V.cell? ⟨g3, 0, none⟩ = some c ∧ V.cell? ⟨g3, 1, none⟩ = some d := by
 have far : ∀ (X : World) (i j : Nat) (u : Value), (X.setCell ⟨g3, j, none⟩ u).cell? ⟨g2, i, none⟩ = X.cell? ⟨g2, i, none⟩ := fun X i j u => World.cell?_setCell_other X _ _ u (by intro e; injection e with e1 e2; exact hn e1.symm)
 have e0 := o2.1 0 (by decide)
 have e1 := o2.1 1 (by decide)
 have h3 := Own.read2 (n := 0) o3
 refine ⟨?_, ?_, h3.1, h3.2⟩
 ·rw [e0]; rw [far, far, cell_put_ne (by decide)] at e0; rw [cell_put e0]
 ·rw [e1]; rw [far, far] at e1; rw [cell_put e1]
def bothV (t a b : Int) (s : ByteArray) (t' a' b' : Int) (s' : ByteArray) : Int × Int × Int × Int × Int × Int :=
 if openErrV t a b s = 0 then (cpart t, a, b, a', b', if openErrV t' a' b' s' = 0 then (if cpart t = cpart t' then 0 else 27) else openErrV t' a' b' s') else (cpart t, a, b, a, b, openErrV t a b s)
def bothVal (v : Int × Int × Int × Int × Int × Int) : Value := .tuple #[.int .i64 v.1, .agg #[.int .u64 v.2.1, .int .u64 v.2.2.1], .agg #[.int .u64 v.2.2.2.1, .int .u64 v.2.2.2.2.1], .int .i64 v.2.2.2.2.2]
set_option maxRecDepth 100000 in
set_option maxHeartbeats 4000000 in
theorem both_c (t a b : Int) (s : ByteArray) (t' a' b' : Int) (s' : ByteArray) (w : World) (ha : U64 a) (hb : U64 b) (ha' : U64 a') (hb' : U64 b') :
  Calls Tryz.prog 52 #[.agg #[.int .i64 t, .int .u64 a, .int .u64 b, .string s], .agg #[.int .i64 t', .int .u64 a', .int .u64 b', .string s']] w (Ret (bothVal (bothV t a b s t' a' b' s')) w) := by
 have c1 := fun w => open_c t a b s w ha hb
 have c2 := fun w => open_c t' a' b' s' w ha' hb'
 unfold bothV bothVal
 generalize cpart t = p at *
 generalize cpart t' = p' at *
 generalize openErrV t a b s = e at *
 generalize openErrV t' a' b' s' = e' at *
 clear ha hb ha' hb'
 by_cases he : e = 0
 ·subst he
  rw [if_pos rfl]
  simp only []
  by_cases he2 : e' = 0
  ·subst he2
   rw [if_pos rfl]
   by_cases hp : p = p'
   ·subst hp
    rw [if_pos rfl]
    go_enter Tryz.func52, Tryz.ntmps52
    go_upto_region 1 with (fail)
    refine hide4 (fun W n hnw k0 k1 o2 o3 hsz hbl => ?_)
    subst hnw
    go_upto_region 2 with (go_at_call 72; refine (c1 _).mono ?_; rintro e w1 ⟨rfl, hb1⟩)
    refine hideP1 k1 o2 o3 hsz hbl hb1 (fun V gx hgx k1' kx0 kx1 o2' o3' hs1 hs2 hbl' => ?_)
    rw [hgx]
    clear k0 k1 o2 o3 hsz hbl
    go_upto_region 5 with (go_at_call 72; refine (c2 _).mono ?_; rintro e w2 ⟨rfl, hb2⟩)
    refine hideP2 kx0 kx1 o2' o3' hs1 hs2 hbl' rfl hb2 (fun X gy hgy HB => ?_)
    rw [hgy]
    clear kx0 kx1 o2' o3' hs1 hs2 hbl' k1'
    go_upto_region 7 with (fail)
    go_region_held3 (fun w' => BS w (w.heap.size + 2) (w.heap.size + 3) gx gy (.int .u64 a) (.int .u64 b) (.int .u64 a') (.int .u64 b') w') (with_reducible exact BS.keep) (fail)
    go_wp2
    have h := (by with_reducible assumption : BS _ _ _ _ _ _ _ _ _ _)
    obtain ⟨e0, e1, e2, e3⟩ := read22 h.2.1.1 h.2.1.2 h.2.2.2.2.2.2.2.1
    exact bodyPost_ret (v := .tuple #[.int .i64 p, .agg #[.int .u64 a, .int .u64 b], .agg #[.int .u64 a', .int .u64 b'], .int .i64 0]) (by simp [results, Tryz.results52, go_sem, e0, e1, e2, e3]) rfl ⟨rfl, h.2.2.1⟩
   ·have hp1 : (p != p') = true := by simpa using hp
    rw [if_neg hp]
    go_enter Tryz.func52, Tryz.ntmps52
    go_upto_region 1 with (fail)
    refine hide4 (fun W n hnw k0 k1 o2 o3 hsz hbl => ?_)
    subst hnw
    go_upto_region 2 with (go_at_call 72; refine (c1 _).mono ?_; rintro e w1 ⟨rfl, hb1⟩)
    refine hideP1 k1 o2 o3 hsz hbl hb1 (fun V gx hgx k1' kx0 kx1 o2' o3' hs1 hs2 hbl' => ?_)
    rw [hgx]
    clear k0 k1 o2 o3 hsz hbl
    go_upto_region 5 with (go_at_call 72; refine (c2 _).mono ?_; rintro e w2 ⟨rfl, hb2⟩)
    refine hideP2 kx0 kx1 o2' o3' hs1 hs2 hbl' rfl hb2 (fun X gy hgy HB => ?_)
    rw [hgy]
    clear kx0 kx1 o2' o3' hs1 hs2 hbl' k1'
    go_upto_region 7 with (fail)
    go_region_held3 (fun w' => BS w (w.heap.size + 2) (w.heap.size + 3) gx gy (.int .u64 a) (.int .u64 b) (.int .u64 a') (.int .u64 b') w') (with_reducible exact BS.keep) (fail)
    go_wp2
    have h := (by with_reducible assumption : BS _ _ _ _ _ _ _ _ _ _)
    obtain ⟨e0, e1, e2, e3⟩ := read22 h.2.1.1 h.2.1.2 h.2.2.2.2.2.2.2.1
    exact bodyPost_ret (v := .tuple #[.int .i64 p, .agg #[.int .u64 a, .int .u64 b], .agg #[.int .u64 a', .int .u64 b'], .int .i64 27]) (by simp [results, Tryz.results52, go_sem, e0, e1, e2, e3]) rfl ⟨rfl, h.2.2.1⟩
  ·have he3 : (e' == 0) = false := by simpa using he2
   rw [if_neg he2]
   go_enter Tryz.func52, Tryz.ntmps52
   go_upto_region 1 with (fail)
   refine hide4 (fun W n hnw k0 k1 o2 o3 hsz hbl => ?_)
   subst hnw
   go_upto_region 2 with (go_at_call 72; refine (c1 _).mono ?_; rintro e w1 ⟨rfl, hb1⟩)
   refine hideP1 k1 o2 o3 hsz hbl hb1 (fun V gx hgx k1' kx0 kx1 o2' o3' hs1 hs2 hbl' => ?_)
   rw [hgx]
   clear k0 k1 o2 o3 hsz hbl
   go_upto_region 5 with (go_at_call 72; refine (c2 _).mono ?_; rintro e w2 ⟨rfl, hb2⟩)
   refine hideP2 kx0 kx1 o2' o3' hs1 hs2 hbl' rfl hb2 (fun X gy hgy HB => ?_)
   rw [hgy]
   clear kx0 kx1 o2' o3' hs1 hs2 hbl' k1'
   go_upto_region 7 with (fail)
   go_region_held3 (fun w' => BS w (w.heap.size + 2) (w.heap.size + 3) gx gy (.int .u64 a) (.int .u64 b) (.int .u64 a') (.int .u64 b') w') (with_reducible exact BS.keep) (fail)
   go_wp2
   have h := (by with_reducible assumption : BS _ _ _ _ _ _ _ _ _ _)
   obtain ⟨e0, e1, e2, e3⟩ := read22 h.2.1.1 h.2.1.2 h.2.2.2.2.2.2.2.1
   exact bodyPost_ret (v := .tuple #[.int .i64 p, .agg #[.int .u64 a, .int .u64 b], .agg #[.int .u64 a', .int .u64 b'], .int .i64 e']) (by simp [results, Tryz.results52, go_sem, e0, e1, e2, e3]) rfl ⟨rfl, h.2.2.1⟩
 ·have he3 : (e != 0) = true := by simpa using he
  rw [if_neg he]
  simp only []
  go_enter Tryz.func52, Tryz.ntmps52
  go_upto_region 1 with (fail)
  refine hide4 (fun W n hnw k0 k1 o2 o3 hsz hbl => ?_)
  subst hnw
  go_upto_region 2 with (go_at_call 72; refine (c1 _).mono ?_; rintro e w1 ⟨rfl, hb1⟩)
  refine hideP1 k1 o2 o3 hsz hbl hb1 (fun V gx hgx k1' kx0 kx1 o2' o3' hs1 hs2 hbl' => ?_)
  rw [hgx]
  clear k0 k1 o2 o3 hsz hbl
  go_upto_region 3 with (fail)
  have HB : BS w (w.heap.size + 2) (w.heap.size + 3) gx gx (.int .u64 a) (.int .u64 b) (.int .u64 a) (.int .u64 b) V := ⟨⟨kx0, kx1, kx0, kx1⟩, ⟨o2', o3'⟩, hbl', by refine ⟨?_, ?_, ?_, ?_, ?_, ?_, ?_⟩ <;> omega⟩
  go_region_held3 (fun w' => BS w (w.heap.size + 2) (w.heap.size + 3) gx gx (.int .u64 a) (.int .u64 b) (.int .u64 a) (.int .u64 b) w') (with_reducible exact BS.keep) (fail)
  go_wp2
  have h := (by with_reducible assumption : BS _ _ _ _ _ _ _ _ _ _)
  obtain ⟨e0, e1, e2, e3⟩ := read22 h.2.1.1 h.2.1.2 h.2.2.2.2.2.2.2.1
  exact bodyPost_ret (v := .tuple #[.int .i64 p, .agg #[.int .u64 a, .int .u64 b], .agg #[.int .u64 a, .int .u64 b], .int .i64 e]) (by simp [results, Tryz.results52, go_sem, e0, e1, e2, e3]) rfl ⟨rfl, h.2.2.1⟩
end Go.Proofs.YtmoimcblmmcffaaGreat.B

namespace Go.Proofs.YtmoimcblmmcffaaGreat.B
open Go.RowKit
theorem hide0own {P : Program} {c : Code} {Q : Exit → Act → World → Prop} {a : Act} {w : World} {cs : Array Value} {t : TypeId}
  (h : ∀ W n, w.heap.size = n → Own W n cs.size → n < W.heap.size → Below w.heap.size w W → c.wp P Q a W) : c.wp P Q a (w.alloc (.cells cs t (0, 0))) :=
 h _ _ rfl (own_new w cs t) (by simp) (below_alloc0 (Below.refl _ _) _)
theorem hideLoc {P : Program} {c : Code} {Q : Exit → Act → World → Prop} {a : Act} {w W : World} {n : Nat} {x0 x1 : Value} {t : TypeId} (ho : Own W n 2) (_hn : n < W.heap.size) (hB : Below w.heap.size w W)
  (h : ∀ V gx, W.heap.size = gx → V.cell? ⟨gx, 0, none⟩ = some x0 → V.cell? ⟨gx, 1, none⟩ = some x1 → Own V n 2 → Below w.heap.size w V → c.wp P Q a V) : c.wp P Q a (W.alloc (.cells #[x0, x1] t (0, 0))) :=
 h _ _ rfl (cell_of_row _ _ 0 _ t (0, 0) (heap_alloc_new W _)) (cell_of_row _ _ 1 _ t (0, 0) (heap_alloc_new W _)) (ho.alloc _) (below_alloc0 hB _)
theorem below_two {w V : World} {n : Nat} (h : Below w.heap.size w V) (hn : w.heap.size ≤ n) (a b : Value) : Below w.heap.size w ((V.setCell ⟨n, 0, none⟩ a).setCell ⟨n, 1, none⟩ b) :=
 (h.setCell (p := ⟨n, 0, none⟩) hn a).setCell (p := ⟨n, 1, none⟩) hn b
end Go.Proofs.YtmoimcblmmcffaaGreat.B

namespace Go.Proofs.YtmoimcblmmcffaaGreat.B
open Go.RowKit
set_option linter.unusedSimpArgs false
set_option linter.unusedVariables false
abbrev ExX (g : Nat) (w0 W w : World) : Prop := (∀ b o, b < W.heap.size → b ≠ g → w.cell? ⟨b, o, none⟩ = W.cell? ⟨b, o, none⟩) ∧ W.heap.size ≤ w.heap.size ∧ Own w g 4 ∧ Below w0.heap.size w0 w ∧ w0.heap.size ≤ g
section
variable {g : Nat} {w0 W w w1 : World}
theorem ExX.call (h : ExX g w0 W w) (hb : Below w.heap.size w w1) : ExX g w0 W w1 :=
 ⟨fun b o hlt hn => ((bcell hb).1 b o (Nat.lt_of_lt_of_le hlt h.2.1)).trans (h.1 b o hlt hn), Nat.le_trans h.2.1 hb.size, h.2.2.1.call hb, h.2.2.2.1.trans (hb.mono h.2.2.2.1.size), h.2.2.2.2⟩
theorem ExX.drew (h : ExX g w0 W w) : ExX g w0 W w.drew := h.call (Below.refl _ _).drew
theorem ExX.put (h : ExX g w0 W w) (j : Nat) (v : Value) : ExX g w0 W (w.setCell ⟨g, j, none⟩ v) :=
 ⟨fun b o hlt hn => (World.cell?_setCell_other w _ _ v (by intro e; injection e with e1 e2; exact hn e1.symm)).trans (h.1 b o hlt hn), by simpa [World.setCell] using h.2.1, h.2.2.1.set _ _, h.2.2.2.1.setCell (p := ⟨g, j, none⟩) h.2.2.2.2 v, h.2.2.2.2⟩
end
theorem hideXY {P : Program} {c : Code} {Q : Exit → Act → World → Prop} {a : Act} {w W w1 : World} {n : Nat} {x0 x1 y0 y1 : Value} {t t' : TypeId} (HO : ExO n w W n 4 w1)
  (h : ∀ V gx, w1.heap.size = gx → V.cell? ⟨gx, 0, none⟩ = some x0 → V.cell? ⟨gx, 1, none⟩ = some x1 → V.cell? ⟨gx + 1, 0, none⟩ = some y0 → V.cell? ⟨gx + 1, 1, none⟩ = some y1 → Own V n 4 → n < gx → gx + 2 = V.heap.size → Below w.heap.size w V → c.wp P Q a V) :
  c.wp P Q a ((w1.alloc (.cells #[x0, x1] t (0, 0))).alloc (.cells #[y0, y1] t' (0, 0))) := by
 have e1 : (w1.alloc (.cells #[x0, x1] t (0, 0))).heap.size = w1.heap.size + 1 := by simp
 have k := heap_alloc_new (w1.alloc (.cells #[x0, x1] t (0, 0))) (.cells #[y0, y1] t' (0, 0))
 rw [e1] at k
 have k2 := (Below.heap_alloc (w1.alloc (.cells #[x0, x1] t (0, 0))) (.cells #[y0, y1] t' (0, 0)) w1.heap.size (by rw [e1]; omega)).trans (heap_alloc_new w1 _)
 exact h _ _ rfl (cell_of_row _ _ 0 _ t (0, 0) k2) (cell_of_row _ _ 1 _ t (0, 0) k2) (cell_of_row _ _ 0 _ t' (0, 0) k) (cell_of_row _ _ 1 _ t' (0, 0) k) ((HO.2.alloc _).alloc _) HO.2.2.2 (by simp) (below_alloc0 (below_alloc0 HO.1.2.2 _) _)
theorem hideFn {P : Program} {c : Code} {Q : Exit → Act → World → Prop} {a : Act} {w V : World} {n gx : Nat} {x0 x1 y0 y1 f0 f1 f2 f3 : Value} {t : TypeId}
  (k0 : V.cell? ⟨gx, 0, none⟩ = some x0) (k1 : V.cell? ⟨gx, 1, none⟩ = some x1) (k2 : V.cell? ⟨gx + 1, 0, none⟩ = some y0) (k3 : V.cell? ⟨gx + 1, 1, none⟩ = some y1) (ho : Own V n 4) (hs : gx + 2 = V.heap.size) (hb : Below w.heap.size w V)
  (h : ∀ X, X.cell? ⟨gx, 0, none⟩ = some x0 → X.cell? ⟨gx, 1, none⟩ = some x1 → X.cell? ⟨gx + 1, 0, none⟩ = some y0 → X.cell? ⟨gx + 1, 1, none⟩ = some y1 → X.cell? ⟨gx + 2, 0, none⟩ = some f0 → X.cell? ⟨gx + 2, 1, none⟩ = some f1 → X.cell? ⟨gx + 2, 2, none⟩ = some f2 → X.cell? ⟨gx + 2, 3, none⟩ = some f3 → Own X n 4 → gx + 3 = X.heap.size → Below w.heap.size w X → c.wp P Q a X) :
  c.wp P Q a (V.alloc (.cells #[f0, f1, f2, f3] t (0, 0))) := by
 have hb2 : Below V.heap.size V (V.alloc (.cells #[f0, f1, f2, f3] t (0, 0))) := below_alloc0 (Below.refl _ _) _
 have k := heap_alloc_new V (.cells #[f0, f1, f2, f3] t (0, 0))
 rw [← hs] at k
 refine h _ (((bcell hb2).1 _ _ (by omega)).trans k0) (((bcell hb2).1 _ _ (by omega)).trans k1) (((bcell hb2).1 _ _ (by omega)).trans k2) (((bcell hb2).1 _ _ (by omega)).trans k3) ?_ ?_ ?_ ?_ (ho.call hb2) (by simp; omega) (below_alloc0 hb _)
 all_goals exact cell_of_row _ _ _ _ t (0, 0) k
set_option maxRecDepth 100000 in
set_option maxHeartbeats 4000000 in
theorem apply_0 (t a b : Int) (s : ByteArray) (t' a' b' : Int) (s' : ByteArray) (p x0 x1 y0 y1 r0 r1 v0 v1 v2 : Int) (v3 : ByteArray) (w : World)
  (c1 : ∀ w, Calls Tryz.prog 52 #[.agg #[.int .i64 t, .int .u64 a, .int .u64 b, .string s], .agg #[.int .i64 t', .int .u64 a', .int .u64 b', .string s']] w (Ret (.tuple #[.int .i64 p, .agg #[.int .u64 x0, .int .u64 x1], .agg #[.int .u64 y0, .int .u64 y1], .int .i64 0]) w))
  (c2 : ∀ w, Calls Tryz.prog 53 #[.int .i64 p, .agg #[.int .u64 x0, .int .u64 x1], .agg #[.int .u64 y0, .int .u64 y1]] w (Ret (.agg #[.int .u64 r0, .int .u64 r1]) w))
  (c3 : ∀ w, Calls Tryz.prog 57 #[.int .i64 p, .agg #[.int .u64 r0, .int .u64 r1]] w (Ret (.agg #[.int .i64 v0, .int .u64 v1, .int .u64 v2, .string v3]) w)) :
  Calls Tryz.prog 12 #[.int .i64 0, .agg #[.int .i64 t, .int .u64 a, .int .u64 b, .string s], .agg #[.int .i64 t', .int .u64 a', .int .u64 b', .string s']] w (Ret (.tuple #[.agg #[.int .i64 v0, .int .u64 v1, .int .u64 v2, .string v3], .int .i64 0]) w) := by
 go_enter Tryz.func12, Tryz.ntmps12
 go_upto_region 1 with (fail)
 refine hide2own w (fun W k0 k1 ho HW => ?_)
 have HO : ExO (w.heap.size + 2) w W (w.heap.size + 2) 4 W := ⟨HW, ho⟩
 go_upto_region 4 with (go_at_call 52; refine (c1 _).mono ?_; rintro e w1 ⟨rfl, hb1⟩; have HO := HO.call hb1)
 refine hideXY HO (fun V gx hgx i0 i1 i2 i3 hown hn hs hbl => ?_)
 rw [hgx]
 clear k0 k1 ho HW HO c1
 go_upto_region 7 with (fail)
 rw [← hs]
 refine hideFn i0 i1 i2 i3 hown hs hbl (fun X j0 j1 j2 j3 f0 f1 f2 f3 hown2 hs2 hbl2 => ?_)
 clear i0 i1 i2 i3 hown hbl
 have q0 : gx < X.heap.size := by omega
 have q1 : gx + 1 < X.heap.size := by omega
 have q2 : gx + 2 < X.heap.size := by omega
 have n0 : gx ≠ w.heap.size + 2 := by omega
 have n1 : gx + 1 ≠ w.heap.size + 2 := by omega
 have n2 : gx + 2 ≠ w.heap.size + 2 := by omega
 have HX : ExX (w.heap.size + 2) w X X := ⟨fun _ _ _ _ => rfl, Nat.le_refl _, hown2, hbl2, by omega⟩
 clear hs hs2 hgx hn
 have hr : w.heap.size + 1 + 1 = w.heap.size + 2 := rfl
 rw [hr]
 generalize gx + 1 = gy at *
 generalize gx + 2 = gz at *
 generalize w.heap.size + 2 = gr at *
 go_region_held3 (fun w' => ExX gr w X w') (first | (with_reducible assumption) | (with_reducible exact ExX.call (by assumption) hb8) | (with_reducible exact ExX.call (by assumption) hb9) | ((with_reducible refine ExX.drew ?_); (with_reducible assumption)) | (with_reducible exact (((ExX.put (by assumption) _ _).put _ _).put _ _).put _ _)) (first | (go_at_call 53; (with_reducible refine (c2 _).mono ?_); rintro e w8 ⟨rfl, hb8⟩) | (go_at_call 57; (with_reducible refine (c3 _).mono ?_); rintro e w9 ⟨rfl, hb9⟩))
 go_wp2
 have h := (by with_reducible assumption : ExX _ _ _ _)
 obtain ⟨e0, e1, e2, e3⟩ := Own.read4 (n := 0) h.2.2.1
 exact bodyPost_ret (v := .tuple #[.agg #[.int .i64 v0, .int .u64 v1, .int .u64 v2, .string v3], .int .i64 0]) (by simp [results, Tryz.results12, go_sem, e0, e1, e2, e3]) rfl ⟨rfl, h.2.2.2.1⟩
set_option maxRecDepth 100000 in
set_option maxHeartbeats 4000000 in
theorem apply_1 (t a b : Int) (s : ByteArray) (t' a' b' : Int) (s' : ByteArray) (p x0 x1 y0 y1 r0 r1 v0 v1 v2 : Int) (v3 : ByteArray) (w : World)
  (c1 : ∀ w, Calls Tryz.prog 52 #[.agg #[.int .i64 t, .int .u64 a, .int .u64 b, .string s], .agg #[.int .i64 t', .int .u64 a', .int .u64 b', .string s']] w (Ret (.tuple #[.int .i64 p, .agg #[.int .u64 x0, .int .u64 x1], .agg #[.int .u64 y0, .int .u64 y1], .int .i64 0]) w))
  (c2 : ∀ w, Calls Tryz.prog 54 #[.int .i64 p, .agg #[.int .u64 x0, .int .u64 x1], .agg #[.int .u64 y0, .int .u64 y1]] w (Ret (.agg #[.int .u64 r0, .int .u64 r1]) w))
  (c3 : ∀ w, Calls Tryz.prog 57 #[.int .i64 p, .agg #[.int .u64 r0, .int .u64 r1]] w (Ret (.agg #[.int .i64 v0, .int .u64 v1, .int .u64 v2, .string v3]) w)) :
  Calls Tryz.prog 12 #[.int .i64 1, .agg #[.int .i64 t, .int .u64 a, .int .u64 b, .string s], .agg #[.int .i64 t', .int .u64 a', .int .u64 b', .string s']] w (Ret (.tuple #[.agg #[.int .i64 v0, .int .u64 v1, .int .u64 v2, .string v3], .int .i64 0]) w) := by
 go_enter Tryz.func12, Tryz.ntmps12
 go_upto_region 1 with (fail)
 refine hide2own w (fun W k0 k1 ho HW => ?_)
 have HO : ExO (w.heap.size + 2) w W (w.heap.size + 2) 4 W := ⟨HW, ho⟩
 go_upto_region 4 with (go_at_call 52; refine (c1 _).mono ?_; rintro e w1 ⟨rfl, hb1⟩; have HO := HO.call hb1)
 refine hideXY HO (fun V gx hgx i0 i1 i2 i3 hown hn hs hbl => ?_)
 rw [hgx]
 clear k0 k1 ho HW HO c1
 go_upto_region 7 with (fail)
 rw [← hs]
 refine hideFn i0 i1 i2 i3 hown hs hbl (fun X j0 j1 j2 j3 f0 f1 f2 f3 hown2 hs2 hbl2 => ?_)
 clear i0 i1 i2 i3 hown hbl
 have q0 : gx < X.heap.size := by omega
 have q1 : gx + 1 < X.heap.size := by omega
 have q2 : gx + 2 < X.heap.size := by omega
 have n0 : gx ≠ w.heap.size + 2 := by omega
 have n1 : gx + 1 ≠ w.heap.size + 2 := by omega
 have n2 : gx + 2 ≠ w.heap.size + 2 := by omega
 have HX : ExX (w.heap.size + 2) w X X := ⟨fun _ _ _ _ => rfl, Nat.le_refl _, hown2, hbl2, by omega⟩
 clear hs hs2 hgx hn
 have hr : w.heap.size + 1 + 1 = w.heap.size + 2 := rfl
 rw [hr]
 generalize gx + 1 = gy at *
 generalize gx + 2 = gz at *
 generalize w.heap.size + 2 = gr at *
 go_region_held3 (fun w' => ExX gr w X w') (first | (with_reducible assumption) | (with_reducible exact ExX.call (by assumption) hb8) | (with_reducible exact ExX.call (by assumption) hb9) | ((with_reducible refine ExX.drew ?_); (with_reducible assumption)) | (with_reducible exact (((ExX.put (by assumption) _ _).put _ _).put _ _).put _ _)) (first | (go_at_call 54; (with_reducible refine (c2 _).mono ?_); rintro e w8 ⟨rfl, hb8⟩) | (go_at_call 57; (with_reducible refine (c3 _).mono ?_); rintro e w9 ⟨rfl, hb9⟩))
 go_wp2
 have h := (by with_reducible assumption : ExX _ _ _ _)
 obtain ⟨e0, e1, e2, e3⟩ := Own.read4 (n := 0) h.2.2.1
 exact bodyPost_ret (v := .tuple #[.agg #[.int .i64 v0, .int .u64 v1, .int .u64 v2, .string v3], .int .i64 0]) (by simp [results, Tryz.results12, go_sem, e0, e1, e2, e3]) rfl ⟨rfl, h.2.2.2.1⟩
set_option maxRecDepth 100000 in
set_option maxHeartbeats 4000000 in
theorem apply_2 (t a b : Int) (s : ByteArray) (t' a' b' : Int) (s' : ByteArray) (p x0 x1 y0 y1 r0 r1 v0 v1 v2 : Int) (v3 : ByteArray) (w : World)
  (c1 : ∀ w, Calls Tryz.prog 52 #[.agg #[.int .i64 t, .int .u64 a, .int .u64 b, .string s], .agg #[.int .i64 t', .int .u64 a', .int .u64 b', .string s']] w (Ret (.tuple #[.int .i64 p, .agg #[.int .u64 x0, .int .u64 x1], .agg #[.int .u64 y0, .int .u64 y1], .int .i64 0]) w))
  (c2 : ∀ w, Calls Tryz.prog 55 #[.int .i64 p, .agg #[.int .u64 x0, .int .u64 x1], .agg #[.int .u64 y0, .int .u64 y1]] w (Ret (.agg #[.int .u64 r0, .int .u64 r1]) w))
  (c3 : ∀ w, Calls Tryz.prog 57 #[.int .i64 p, .agg #[.int .u64 r0, .int .u64 r1]] w (Ret (.agg #[.int .i64 v0, .int .u64 v1, .int .u64 v2, .string v3]) w)) :
  Calls Tryz.prog 12 #[.int .i64 2, .agg #[.int .i64 t, .int .u64 a, .int .u64 b, .string s], .agg #[.int .i64 t', .int .u64 a', .int .u64 b', .string s']] w (Ret (.tuple #[.agg #[.int .i64 v0, .int .u64 v1, .int .u64 v2, .string v3], .int .i64 0]) w) := by
 go_enter Tryz.func12, Tryz.ntmps12
 go_upto_region 1 with (fail)
 refine hide2own w (fun W k0 k1 ho HW => ?_)
 have HO : ExO (w.heap.size + 2) w W (w.heap.size + 2) 4 W := ⟨HW, ho⟩
 go_upto_region 4 with (go_at_call 52; refine (c1 _).mono ?_; rintro e w1 ⟨rfl, hb1⟩; have HO := HO.call hb1)
 refine hideXY HO (fun V gx hgx i0 i1 i2 i3 hown hn hs hbl => ?_)
 rw [hgx]
 clear k0 k1 ho HW HO c1
 go_upto_region 7 with (fail)
 rw [← hs]
 refine hideFn i0 i1 i2 i3 hown hs hbl (fun X j0 j1 j2 j3 f0 f1 f2 f3 hown2 hs2 hbl2 => ?_)
 clear i0 i1 i2 i3 hown hbl
 have q0 : gx < X.heap.size := by omega
 have q1 : gx + 1 < X.heap.size := by omega
 have q2 : gx + 2 < X.heap.size := by omega
 have n0 : gx ≠ w.heap.size + 2 := by omega
 have n1 : gx + 1 ≠ w.heap.size + 2 := by omega
 have n2 : gx + 2 ≠ w.heap.size + 2 := by omega
 have HX : ExX (w.heap.size + 2) w X X := ⟨fun _ _ _ _ => rfl, Nat.le_refl _, hown2, hbl2, by omega⟩
 clear hs hs2 hgx hn
 have hr : w.heap.size + 1 + 1 = w.heap.size + 2 := rfl
 rw [hr]
 generalize gx + 1 = gy at *
 generalize gx + 2 = gz at *
 generalize w.heap.size + 2 = gr at *
 go_region_held3 (fun w' => ExX gr w X w') (first | (with_reducible assumption) | (with_reducible exact ExX.call (by assumption) hb8) | (with_reducible exact ExX.call (by assumption) hb9) | ((with_reducible refine ExX.drew ?_); (with_reducible assumption)) | (with_reducible exact (((ExX.put (by assumption) _ _).put _ _).put _ _).put _ _)) (first | (go_at_call 55; (with_reducible refine (c2 _).mono ?_); rintro e w8 ⟨rfl, hb8⟩) | (go_at_call 57; (with_reducible refine (c3 _).mono ?_); rintro e w9 ⟨rfl, hb9⟩))
 go_wp2
 have h := (by with_reducible assumption : ExX _ _ _ _)
 obtain ⟨e0, e1, e2, e3⟩ := Own.read4 (n := 0) h.2.2.1
 exact bodyPost_ret (v := .tuple #[.agg #[.int .i64 v0, .int .u64 v1, .int .u64 v2, .string v3], .int .i64 0]) (by simp [results, Tryz.results12, go_sem, e0, e1, e2, e3]) rfl ⟨rfl, h.2.2.2.1⟩
set_option maxRecDepth 100000 in
set_option maxHeartbeats 4000000 in
theorem apply_3 (t a b : Int) (s : ByteArray) (t' a' b' : Int) (s' : ByteArray) (p x0 x1 y0 y1 r0 r1 v0 v1 v2 : Int) (v3 : ByteArray) (w : World)
  (c1 : ∀ w, Calls Tryz.prog 52 #[.agg #[.int .i64 t, .int .u64 a, .int .u64 b, .string s], .agg #[.int .i64 t', .int .u64 a', .int .u64 b', .string s']] w (Ret (.tuple #[.int .i64 p, .agg #[.int .u64 x0, .int .u64 x1], .agg #[.int .u64 y0, .int .u64 y1], .int .i64 0]) w))
  (c2 : ∀ w, Calls Tryz.prog 56 #[.int .i64 p, .agg #[.int .u64 x0, .int .u64 x1], .agg #[.int .u64 y0, .int .u64 y1]] w (Ret (.agg #[.int .u64 r0, .int .u64 r1]) w))
  (c3 : ∀ w, Calls Tryz.prog 57 #[.int .i64 p, .agg #[.int .u64 r0, .int .u64 r1]] w (Ret (.agg #[.int .i64 v0, .int .u64 v1, .int .u64 v2, .string v3]) w)) :
  Calls Tryz.prog 12 #[.int .i64 3, .agg #[.int .i64 t, .int .u64 a, .int .u64 b, .string s], .agg #[.int .i64 t', .int .u64 a', .int .u64 b', .string s']] w (Ret (.tuple #[.agg #[.int .i64 v0, .int .u64 v1, .int .u64 v2, .string v3], .int .i64 0]) w) := by
 go_enter Tryz.func12, Tryz.ntmps12
 go_upto_region 1 with (fail)
 refine hide2own w (fun W k0 k1 ho HW => ?_)
 have HO : ExO (w.heap.size + 2) w W (w.heap.size + 2) 4 W := ⟨HW, ho⟩
 go_upto_region 4 with (go_at_call 52; refine (c1 _).mono ?_; rintro e w1 ⟨rfl, hb1⟩; have HO := HO.call hb1)
 refine hideXY HO (fun V gx hgx i0 i1 i2 i3 hown hn hs hbl => ?_)
 rw [hgx]
 clear k0 k1 ho HW HO c1
 go_upto_region 7 with (fail)
 rw [← hs]
 refine hideFn i0 i1 i2 i3 hown hs hbl (fun X j0 j1 j2 j3 f0 f1 f2 f3 hown2 hs2 hbl2 => ?_)
 clear i0 i1 i2 i3 hown hbl
 have q0 : gx < X.heap.size := by omega
 have q1 : gx + 1 < X.heap.size := by omega
 have q2 : gx + 2 < X.heap.size := by omega
 have n0 : gx ≠ w.heap.size + 2 := by omega
 have n1 : gx + 1 ≠ w.heap.size + 2 := by omega
 have n2 : gx + 2 ≠ w.heap.size + 2 := by omega
 have HX : ExX (w.heap.size + 2) w X X := ⟨fun _ _ _ _ => rfl, Nat.le_refl _, hown2, hbl2, by omega⟩
 clear hs hs2 hgx hn
 have hr : w.heap.size + 1 + 1 = w.heap.size + 2 := rfl
 rw [hr]
 generalize gx + 1 = gy at *
 generalize gx + 2 = gz at *
 generalize w.heap.size + 2 = gr at *
 go_region_held3 (fun w' => ExX gr w X w') (first | (with_reducible assumption) | (with_reducible exact ExX.call (by assumption) hb8) | (with_reducible exact ExX.call (by assumption) hb9) | ((with_reducible refine ExX.drew ?_); (with_reducible assumption)) | (with_reducible exact (((ExX.put (by assumption) _ _).put _ _).put _ _).put _ _)) (first | (go_at_call 56; (with_reducible refine (c2 _).mono ?_); rintro e w8 ⟨rfl, hb8⟩) | (go_at_call 57; (with_reducible refine (c3 _).mono ?_); rintro e w9 ⟨rfl, hb9⟩))
 go_wp2
 have h := (by with_reducible assumption : ExX _ _ _ _)
 obtain ⟨e0, e1, e2, e3⟩ := Own.read4 (n := 0) h.2.2.1
 exact bodyPost_ret (v := .tuple #[.agg #[.int .i64 v0, .int .u64 v1, .int .u64 v2, .string v3], .int .i64 0]) (by simp [results, Tryz.results12, go_sem, e0, e1, e2, e3]) rfl ⟨rfl, h.2.2.2.1⟩
set_option maxRecDepth 100000 in
set_option maxHeartbeats 4000000 in
theorem of_SqrtOf_ok (t a b : Int) (s : ByteArray) (p x0 x1 : Int) (r0 r1 v0 v1 v2 : Int) (v3 : ByteArray) (w : World)
  (c1 : ∀ w, Calls Tryz.prog 72 #[.agg #[.int .i64 t, .int .u64 a, .int .u64 b, .string s]] w (Ret (.tuple #[.int .i64 p, .agg #[.int .u64 x0, .int .u64 x1], .int .i64 0]) w))
  (c2 : ∀ w, Calls Tryz.prog 82 #[.int .i64 p, .agg #[.int .u64 x0, .int .u64 x1]] w (Ret (.agg #[.int .u64 r0, .int .u64 r1]) w))
  (c3 : ∀ w, Calls Tryz.prog 57 #[.int .i64 p, .agg #[.int .u64 r0, .int .u64 r1]] w (Ret (.agg #[.int .i64 v0, .int .u64 v1, .int .u64 v2, .string v3]) w)) :
  Calls Tryz.prog 77 #[.agg #[.int .i64 t, .int .u64 a, .int .u64 b, .string s], .func (.func 82) #[] #[]] w (Ret (.tuple #[.agg #[.int .i64 v0, .int .u64 v1, .int .u64 v2, .string v3], .int .i64 0]) w) := by
 go_enter Tryz.func77, Tryz.ntmps77
 go_upto_region 1 with (fail)
 refine hide1own w (fun W k0 ho HW => ?_)
 have HO : ExO (w.heap.size + 1) w W (w.heap.size + 1) 4 W := ⟨HW, ho⟩
 go_wp2_with (first | (go_at_call 72; refine (c1 _).mono ?_; rintro e w1 ⟨rfl, hb1⟩; have HO := HO.call hb1) | (go_at_call 82; refine (c2 _).mono ?_; rintro e w2 ⟨rfl, hb2⟩; have HO := (HO.alloc _).call hb2) | (go_at_call 57; refine (c3 _).mono ?_; rintro e w3 ⟨rfl, hb3⟩; have HO := HO.call hb3))
 have h := ExO.put (ExO.put (ExO.put (ExO.put HO 0 (.int .i64 v0)) 1 (.int .u64 v1)) 2 (.int .u64 v2)) 3 (.string v3)
 obtain ⟨e0, e1, e2, e3⟩ := Own.read4 (n := 0) h.2
 exact bodyPost_ret (v := .tuple #[.agg #[.int .i64 v0, .int .u64 v1, .int .u64 v2, .string v3], .int .i64 0]) (by simp [results, Tryz.results77, go_sem, e0, e1, e2, e3]) rfl ⟨rfl, h.end⟩
set_option maxRecDepth 100000 in
set_option maxHeartbeats 4000000 in
theorem SqrtOf_w (t a b : Int) (s : ByteArray) (v0 v1 v2 : Int) (v3 : ByteArray) (er : Int) (w : World)
  (c1 : ∀ w, Calls Tryz.prog 77 #[.agg #[.int .i64 t, .int .u64 a, .int .u64 b, .string s], .func (.func 82) #[] #[]] w (Ret (.tuple #[.agg #[.int .i64 v0, .int .u64 v1, .int .u64 v2, .string v3], .int .i64 er]) w)) :
  Calls Tryz.prog 28 #[.agg #[.int .i64 t, .int .u64 a, .int .u64 b, .string s]] w (Ret (.tuple #[.agg #[.int .i64 v0, .int .u64 v1, .int .u64 v2, .string v3], .int .i64 er]) w) := by
 go_enter Tryz.func28, Tryz.ntmps28
 go_upto_region 1 with (fail)
 refine hide1own w (fun W k0 ho HW => ?_)
 have HO : ExO (w.heap.size + 1) w W (w.heap.size + 1) 4 W := ⟨HW, ho⟩
 go_wp2_with (go_at_call 77; refine (c1 _).mono ?_; rintro e w1 ⟨rfl, hb1⟩; have HO := HO.call hb1)
 have h := ExO.put (ExO.put (ExO.put (ExO.put HO 0 (.int .i64 v0)) 1 (.int .u64 v1)) 2 (.int .u64 v2)) 3 (.string v3)
 obtain ⟨e0, e1, e2, e3⟩ := Own.read4 (n := 0) h.2
 exact bodyPost_ret (v := .tuple #[.agg #[.int .i64 v0, .int .u64 v1, .int .u64 v2, .string v3], .int .i64 er]) (by simp [results, Tryz.results28, go_sem, e0, e1, e2, e3]) rfl ⟨rfl, h.end⟩
end Go.Proofs.YtmoimcblmmcffaaGreat.B

namespace Go.Proofs.YtmoimcblmmcffaaGreat
open Go.RowKit B N NC
set_option linter.unusedSimpArgs false
set_option linter.unusedVariables false
def cx_partType.f (a0 : Int) : Option (Int × Int) := some (cpart a0, ctypeErrV a0)
theorem cx_partType.calls (a0 r1 r2 : Int) (w : World) (h : cx_partType.f a0 = some (r1, r2)) : Calls Tryz.prog 88 #[.int .i64 a0] w fun e w' => e = .returned (.tuple #[.int .i64 r1, .int .i64 r2]) ∧ Below w.heap.size w w' := by
 injection Option.some.inj h with h1 h2
 subst h1 h2
 exact partType_c a0 w
def cx_open.f (a0 a1 a2 : Int) (a3 : ByteArray) : Option (Int × Int × Int × Int) := if (u64B a1 && u64B a2) = true then some (cpart a0, a1, a2, openErrV a0 a1 a2 a3) else none
theorem cx_open.calls (a0 a1 a2 : Int) (a3 : ByteArray) (r1 r2 r3 r4 : Int) (w : World) (h : cx_open.f a0 a1 a2 a3 = some (r1, r2, r3, r4)) :
  Calls Tryz.prog 72 #[.agg #[.int .i64 a0, .int .u64 a1, .int .u64 a2, .string a3]] w fun e w' => e = .returned (.tuple #[.int .i64 r1, .agg #[.int .u64 r2, .int .u64 r3], .int .i64 r4]) ∧ Below w.heap.size w w' := by
 obtain ⟨hu, h⟩ := of_ite h
 simp only [Bool.and_eq_true] at hu
 simp only [Prod.mk.injEq] at h
 obtain ⟨rfl, rfl, rfl, rfl⟩ := h
 exact open_c a0 a1 a2 a3 w (u64B_spec hu.1) (u64B_spec hu.2)
def cx_both.f (a0 a1 a2 : Int) (a3 : ByteArray) (b0 b1 b2 : Int) (b3 : ByteArray) : Option (Int × Int × Int × Int × Int × Int) := if (u64B a1 && u64B a2 && (u64B b1 && u64B b2)) = true then some (bothV a0 a1 a2 a3 b0 b1 b2 b3) else none
theorem cx_both.calls (a0 a1 a2 : Int) (a3 : ByteArray) (b0 b1 b2 : Int) (b3 : ByteArray) (r1 r2 r3 r4 r5 r6 : Int) (w : World) (h : cx_both.f a0 a1 a2 a3 b0 b1 b2 b3 = some (r1, r2, r3, r4, r5, r6)) :
  Calls Tryz.prog 52 #[.agg #[.int .i64 a0, .int .u64 a1, .int .u64 a2, .string a3], .agg #[.int .i64 b0, .int .u64 b1, .int .u64 b2, .string b3]] w fun e w' => e = .returned (.tuple #[.int .i64 r1, .agg #[.int .u64 r2, .int .u64 r3], .agg #[.int .u64 r4, .int .u64 r5], .int .i64 r6]) ∧ Below w.heap.size w w' := by
 obtain ⟨hu, h⟩ := of_ite h
 simp only [Bool.and_eq_true] at hu
 have hc := both_c a0 a1 a2 a3 b0 b1 b2 b3 w (u64B_spec hu.1.1) (u64B_spec hu.1.2) (u64B_spec hu.2.1) (u64B_spec hu.2.2)
 rw [h] at hc
 exact hc
end Go.Proofs.YtmoimcblmmcffaaGreat

namespace Go.Proofs.YtmoimcblmmcffaaGreat.PPC
open Go.RowKit Go.Proofs.YtmoimcblmmcffaaGreatW.PrintWords Go.Proofs.YtmoimcblmmcffaaGreatW.PrintLast Go.Proofs.YtmoimcblmmcffaaGreatW.PrintMore
attribute [local go_sem] max2_int min2_int max_two min_two max_three min_three max_four min_four   -- for this text's walks alone
set_option linter.unusedVariables false
set_option linter.unusedSimpArgs false
def errW : Option Int → Value
 | none => .nilIface
 | some c => .iface 0 (.int .i64 c)
theorem errW_none : errW none = .nilIface := rfl
theorem errW_some (c : Int) : errW (some c) = .iface 0 (.int .i64 c) := rfl
theorem info74 : (Tryz.prog.info? 74).map (fun i => (i.zero, i.size, i.bytes)) = some (some (.agg #[(.int .u64 0), (.int .u64 0)]), 2, 16) := by kernel_rfl
structure S24 where
 f0 : Int
 f1 : Int
 f2 : Int
 f3 : ByteArray
def z24 : S24 := ⟨(0 : Int), (0 : Int), (0 : Int), (⟨#[]⟩ : ByteArray)⟩
def k24 : Kd S24 := Kd.iso (Kd.pair (Kd.int .i64) (Kd.pair (Kd.int .u64) (Kd.pair (Kd.int .u64) Kd.string))) (fun x : S24 => (x.f0, x.f1, x.f2, x.f3))
theorem k24_open {w : World} {x : S24} {cs : List Value} (h : k24.K w x cs) : cs = [.int .i64 x.f0, .int .u64 x.f1, .int .u64 x.f2, .string x.f3] := by
 obtain ⟨_, _, rfl, rfl, ⟨_, _, rfl, rfl, ⟨_, _, rfl, rfl, rfl⟩⟩⟩ := h
 exact rfl
theorem k24_mk (w : World) (x : S24)  : k24.K w x [.int .i64 x.f0, .int .u64 x.f1, .int .u64 x.f2, .string x.f3] := ⟨[.int .i64 x.f0], [.int .u64 x.f1, .int .u64 x.f2, .string x.f3], rfl, rfl, ⟨[.int .u64 x.f1], [.int .u64 x.f2, .string x.f3], rfl, rfl, ⟨[.int .u64 x.f2], [.string x.f3], rfl, rfl, rfl⟩⟩⟩
def rd_T24 (xs : List S24) (i : Int) : S24 := xs.getD i.toNat z24
theorem at_T24 {w : World} {A : Option Addr} {n : Nat} {xs : List S24} (h : Kd.C k24 w A n xs) (i : Int) (h0 : 0 ≤ i) (h1 : i < n) : ∃ ad , A = some ad ∧ w.cell? (ad.add (i.toNat * 4)) = some (.int .i64 (rd_T24 xs i).f0) ∧ w.cell? ⟨(ad.add (i.toNat * 4)).block, (ad.add (i.toNat * 4)).off + 1, none⟩ = some (.int .u64 (rd_T24 xs i).f1) ∧ w.cell? ⟨(ad.add (i.toNat * 4)).block, (ad.add (i.toNat * 4)).off + 2, none⟩ = some (.int .u64 (rd_T24 xs i).f2) ∧ w.cell? ⟨(ad.add (i.toNat * 4)).block, (ad.add (i.toNat * 4)).off + 3, none⟩ = some (.string (rd_T24 xs i).f3) := by
 obtain ⟨ad, c, e, _, hK, hc0⟩ := Kd.C_get h z24 i h0 h1
 have hc : ∀ j u, c[j]? = some u → w.cell? (ad.add (i.toNat * 4 + j)) = some u := hc0
 obtain rfl := k24_open hK
 exact ⟨ad, e, hc 0 _ rfl, by rw [← add_field _ _ 1 (by omega)]; exact hc 1 _ rfl, by rw [← add_field _ _ 2 (by omega)]; exact hc 2 _ rfl, by rw [← add_field _ _ 3 (by omega)]; exact hc 3 _ rfl⟩
structure S74 where
 f0 : Int
 f1 : Int
def z74 : S74 := ⟨(0 : Int), (0 : Int)⟩
def k74 : Kd S74 := Kd.iso (Kd.pair (Kd.int .u64) (Kd.int .u64)) (fun x : S74 => (x.f0, x.f1))
theorem k74_open {w : World} {x : S74} {cs : List Value} (h : k74.K w x cs) : cs = [.int .u64 x.f0, .int .u64 x.f1] := by
 obtain ⟨_, _, rfl, rfl, rfl⟩ := h
 exact rfl
theorem k74_openM {w : World} {base : Nat} {ok : Nat → Prop} {x : S74} {cs : List Value} (h : k74.M w base ok x cs) : cs = [.int .u64 x.f0, .int .u64 x.f1] := by
 obtain ⟨_, _, rfl, rfl, rfl⟩ := h
 exact rfl
theorem k74_mkM (w : World) (base : Nat) (ok : Nat → Prop) (x : S74)  : k74.M w base ok x [.int .u64 x.f0, .int .u64 x.f1] := ⟨[.int .u64 x.f0], [.int .u64 x.f1], rfl, rfl, rfl⟩
def rd_T74 (xs : List S74) (i : Int) : S74 := xs.getD i.toNat z74
theorem at_T74 {w : World} {A : Option Addr} {n : Nat} {xs : List S74} (h : Kd.C k74 w A n xs) (i : Int) (h0 : 0 ≤ i) (h1 : i < n) : ∃ ad , A = some ad ∧ w.cell? (ad.add (i.toNat * 2)) = some (.int .u64 (rd_T74 xs i).f0) ∧ w.cell? ⟨(ad.add (i.toNat * 2)).block, (ad.add (i.toNat * 2)).off + 1, none⟩ = some (.int .u64 (rd_T74 xs i).f1) := by
 obtain ⟨ad, c, e, _, hK, hc0⟩ := Kd.C_get h z74 i h0 h1
 have hc : ∀ j u, c[j]? = some u → w.cell? (ad.add (i.toNat * 2 + j)) = some u := hc0
 obtain rfl := k74_open hK
 exact ⟨ad, e, hc 0 _ rfl, by rw [← add_field _ _ 1 (by omega)]; exact hc 1 _ rfl⟩
end Go.Proofs.YtmoimcblmmcffaaGreat.PPC

namespace Go.Proofs.YtmoimcblmmcffaaGreat.PPC
open Go.RowKit Go.Proofs.YtmoimcblmmcffaaGreatW.PrintWords Go.Proofs.YtmoimcblmmcffaaGreatW.PrintLast Go.Proofs.YtmoimcblmmcffaaGreatW.PrintMore Go.Proofs.YtmoimcblmmcffaaGreatW.PrintZ
attribute [local go_sem] max2_int min2_int max_two min_two max_three min_three max_four min_four   -- for this text's walks alone
set_option linter.unusedVariables false
set_option linter.unusedSimpArgs false
def fd_operation.f (a0 : Int) (a1 : Int) (a2 : Int) (a3 : Int) : Option (Int) := (rl_Apply.f a1 a0 a2 a3).bind fun bt101 => (some bt101.1)
set_option maxHeartbeats 8000000 in
set_option maxRecDepth 100000 in
theorem fd_operation.calls (a0 : Int) (a1 : Int) (a2 : Int) (a3 : Int) (r : Int) (w : World) (h : fd_operation.f a0 a1 a2 a3 = some r) :
  Calls Tryz.prog 120 #[.int .i64 a0, .int .i64 a1, .int .u64 a2, .int .u64 a3] w fun e w' => e = .returned (.int .u64 r) ∧ Below w.heap.size w w' := by
 have HB := Aside0.mk (Below.refl w.heap.size w)
 have H : ((rl_Apply.f a1 a0 a2 a3).bind fun bt101 => (some bt101.1)) = some r := h
 clear h
 replace H := Option.bind_eq_some_iff.mp H
 obtain ⟨⟨t101, t102⟩, A5, H⟩ := H
 try dsimp only at H
 replace A5 := Aside0.mk A5
 obtain rfl := Option.some.inj H
 go_enter Tryz.func120, Tryz.ntmps120
 go_wp2_with (first | ((with_reducible refine gate_callee (f := 139) rfl ?_); refine gLc 16 Tryz.func139 (rl_Apply.calls a1 a0 a2 a3 t101 t102 _ A5.out) (fun w6 hb => ?_); replace HB := bls HB hb; clear hb))
 go_ret
 exact fin_ (blt HB)
def fd_add.f (a0 : Int) (a1 : Int) (a2 : Int) : Option (Int) := (fd_operation.f a0 0 a1 a2).bind fun t103 => (some t103)
set_option maxHeartbeats 8000000 in
set_option maxRecDepth 100000 in
theorem fd_add.calls (a0 : Int) (a1 : Int) (a2 : Int) (r : Int) (w : World) (h : fd_add.f a0 a1 a2 = some r) :
  Calls Tryz.prog 97 #[.int .i64 a0, .int .u64 a1, .int .u64 a2] w fun e w' => e = .returned (.int .u64 r) ∧ Below w.heap.size w w' := by
 have HB := Aside0.mk (Below.refl w.heap.size w)
 have H : ((fd_operation.f a0 0 a1 a2).bind fun t103 => (some t103)) = some r := h
 clear h
 replace H := Option.bind_eq_some_iff.mp H
 obtain ⟨t103, A4, H⟩ := H
 try dsimp only at H
 replace A4 := Aside0.mk A4
 obtain rfl := Option.some.inj H
 go_enter Tryz.func97, Tryz.ntmps97
 go_wp2_with (first | ((with_reducible refine gate_callee (f := 120) rfl ?_); refine gLc 10 Tryz.func120 (fd_operation.calls a0 0 a1 a2 t103 _ A4.out) (fun w5 hb => ?_); replace HB := bls HB hb; clear hb))
 go_ret
 exact fin_ (blt HB)
def fd_plus.f (a0 : Int) (a1_0 : Int) (a1_1 : Int) (a2_0 : Int) (a2_1 : Int) : Option (Int × Int) := (fd_add.f a0 a1_0 a2_0).bind fun t107 => ((fd_add.f a0 a1_1 a2_1).bind fun t108 => (some (t107, t108)))
def fd_plus.T1 : Bool × List (List Nat × List Nat) := (true, [([], []), ([], []), ([1], [1]), ([], []), ([3], [3]), ([0, 2, 4], [0, 2, 4]), ([], []), ([], []), ([7], [7]), ([], []), ([9], [9]), ([6, 8, 10, 5], [6, 8, 10]), ([5, 11], [5, 11]), ([12, 11, 0, 1, 2, 3, 4, 5, 6, 7, 8, 9, 10, 11, 12], [12])])
def fd_plus.B1 : List Nat := [0, 0, 2, 0, 8, 31, 0, 0, 128, 0, 512, 2047, 4095, 8191]
theorem fd_plus.tab1 : rtab .any (opsOf Tryz.f53 1) = fd_plus.T1 := by kernel_rfl
theorem fd_plus.bits1 : waitsOk fd_plus.T1.2 fd_plus.B1 = true := by kernel_rfl
set_option maxHeartbeats 8000000 in
set_option maxRecDepth 100000 in
theorem fd_plus.calls (a0 : Int) (a1_0 : Int) (a1_1 : Int) (a2_0 : Int) (a2_1 : Int) (r1 : Int) (r2 : Int) (w : World) (h : fd_plus.f a0 a1_0 a1_1 a2_0 a2_1 = some (r1, r2)) :
  Calls Tryz.prog 53 #[.int .i64 a0, .agg #[.int .u64 a1_0, .int .u64 a1_1], .agg #[.int .u64 a2_0, .int .u64 a2_1]] w fun e w' => e = .returned (.agg #[.int .u64 r1, .int .u64 r2]) ∧ Below w.heap.size w w' := by
 have hu74 := Tryz.underlying74
 have HB := Aside0.mk (Below.refl w.heap.size w)
 have H : ((fd_add.f a0 a1_0 a2_0).bind fun t107 => ((fd_add.f a0 a1_1 a2_1).bind fun t108 => (some (t107, t108)))) = some (r1, r2) := h
 clear h
 replace H := Option.bind_eq_some_iff.mp H
 obtain ⟨t107, A4, H⟩ := H
 try dsimp only at H
 replace A4 := Aside0.mk A4
 replace H := Option.bind_eq_some_iff.mp H
 obtain ⟨t108, A5, H⟩ := H
 try dsimp only at H
 replace A5 := Aside0.mk A5
 simp only [Option.some.injEq, Prod.mk.injEq] at H
 obtain ⟨rfl, rfl⟩ := H
 go_enter Tryz.func53, Tryz.ntmps53
 try go_wp2_with (first | ((with_reducible refine gate_dst (N := 4) rfl ?_); refine bxe 4 (cs := #[.int .u64 a1_0, .int .u64 a1_1]) (t := 74) ?_; intro gb104 hg w6 hbox hb; have BK104 := Aside0.mk hbox; have GW104 := bsz HB hg; have GE104 := bsz HB hg; replace HB := bls HB hb; clear hb hbox hg) | ((with_reducible refine gate_dst (N := 5) rfl ?_); refine bxe 5 (cs := #[.int .u64 a2_0, .int .u64 a2_1]) (t := 74) ?_; intro gb105 hg w7 hbox hb; have BK105 := Aside0.mk hbox; have GW105 := bsz HB hg; have GE105 := bsz HB hg; have NB104_105 := bnl BK104 hg; have NB105_104 := bng BK104 hg; replace BK104 := bkb BK104 hb; replace HB := bls HB hb; clear hb hbox hg) | ((with_reducible refine gate_dst (N := 6) rfl ?_); refine bxe 6 (cs := #[.int .u64 0, .int .u64 0]) (t := 74) ?_; intro gb106 hg w8 hbox hb; have BK106 := Aside0.mk hbox; have GW106 := bsz HB hg; have GE106 := bsz HB hg; have NB104_106 := bnl BK104 hg; have NB106_104 := bng BK104 hg; have NB105_106 := bnl BK105 hg; have NB106_105 := bng BK105 hg; replace BK104 := bkb BK104 hb; replace BK105 := bkb BK105 hb; replace HB := bls HB hb; clear hb hbox hg))
 replace BK104 := Aside0.mk (blk_drew BK104.out)
 replace BK105 := Aside0.mk (blk_drew BK105.out)
 replace BK106 := Aside0.mk (blk_drew BK106.out)
 replace HB := Aside0.mk (below_drew1 HB.out)
 refine start_ (n := 14) (S := fun w' => w'.cell? ⟨gb104, 0, none⟩ = some (.int .u64 a1_0) ∧ w'.cell? ⟨gb104, 1, none⟩ = some (.int .u64 a1_1) ∧ w'.cell? ⟨gb105, 0, none⟩ = some (.int .u64 a2_0) ∧ w'.cell? ⟨gb105, 1, none⟩ = some (.int .u64 a2_1)) (ds := []) #[false, false, false, false, false, false, false, false, false, false, false, false, false, false] (by kernel_rfl) rfl rfl ⟨(blk_cell BK104.out 0).trans rfl, (blk_cell BK104.out 1).trans rfl, (blk_cell BK105.out 0).trans rfl, (blk_cell BK105.out 1).trans rfl⟩ (fun hHeld => ?_); refine with_tabW fd_plus.tab1 fd_plus.bits1 (fun HT_ HW_ => ?_)
 generalize w8.drew = w9 at BK104 BK105 BK106 HB hHeld ⊢
 refine pu 0 7 HT_ ?_
 refine pu 1 8 HT_ ?_
 refine pu 3 10 HT_ ?_
 refine pu 6 13 HT_ ?_
 refine pu 7 14 HT_ ?_
 refine pu 9 16 HT_ ?_
 refine tk 2 9 HT_ HW_ hHeld ?_
 refine tk 4 11 HT_ HW_ hHeld ?_
 refine tk 8 15 HT_ HW_ hHeld ?_
 refine tk 10 17 HT_ HW_ hHeld ?_
 refine on 5 12 HT_ (fun K hK => ?_)
 refine gsc Tryz.func97 (fd_add.calls a0 a1_0 a2_0 t107 _ A4.out) (fun w10 hb => ?_)
 replace BK104 := bkb BK104 hb
 replace BK105 := bkb BK105 hb
 replace BK106 := bkb BK106 hb
 replace HB := bls HB hb
 (try clear hb)
 (try clear hb2)
 (try clear hk)
 (try clear hi)
 refine hK.out _ _ ⟨(blk_cell BK104.out 0).trans rfl, (blk_cell BK104.out 1).trans rfl, (blk_cell BK105.out 0).trans rfl, (blk_cell BK105.out 1).trans rfl⟩ (fun hHeld => ?_)
 clear hK K
 refine nm 12 ?_
 refine on 11 18 HT_ (fun K hK => ?_)
 refine gsc Tryz.func97 (fd_add.calls a0 a1_1 a2_1 t108 _ A5.out) (fun w11 hb => ?_)
 replace BK104 := bkb BK104 hb
 replace BK105 := bkb BK105 hb
 replace BK106 := bkb BK106 hb
 replace HB := bls HB hb
 (try clear hb)
 (try clear hb2)
 (try clear hk)
 (try clear hi)
 refine hK.out _ _ ⟨(blk_cell BK104.out 0).trans rfl, (blk_cell BK104.out 1).trans rfl, (blk_cell BK105.out 0).trans rfl, (blk_cell BK105.out 1).trans rfl⟩ (fun hHeld => ?_)
 clear hK K
 refine nm 18 ?_
 refine pu 12 19 HT_ ?_
 refine one_ (i := 13) (N := none) #[true, true, true, true, true, true, true, true, true, true, true, true, true, true] rfl rfl (one_of HT_.out (by kernel_rfl)) (by decide) (fun K hK => ?_)
 have hs12 : w11.cell? ⟨gb106, 0, none⟩ = some (.int .u64 0) := (blk_cell BK106.out 0).trans rfl
 have hfs12 := blk_frozen BK106.out 0
 have hns12_0 := NB104_106.out
 have hns12_1 := NB105_106.out
 have hms12_0 := NB106_104.out
 have hms12_1 := NB106_105.out
 have hs13 : w11.cell? ⟨gb106, 1, none⟩ = some (.int .u64 0) := (blk_cell BK106.out 1).trans rfl
 have hfs13 := blk_frozen BK106.out 1
 have hns13_0 := NB104_106.out
 have hns13_1 := NB105_106.out
 have hms13_0 := NB106_104.out
 have hms13_1 := NB106_105.out
 refine skip_ (w1 := ?_) (by rfl) rfl ?_ ?_
 rotate_left
 ·go_simp
  rfl
 refine hK.out _ _ ⟨((cell_far (p := ⟨gb106, _, none⟩) NB104_106.out _).trans (((cell_far (p := ⟨gb106, _, none⟩) NB104_106.out _).trans (hHeld.1)))), ((cell_far (p := ⟨gb106, _, none⟩) NB104_106.out _).trans (((cell_far (p := ⟨gb106, _, none⟩) NB104_106.out _).trans (hHeld.2.1)))), ((cell_far (p := ⟨gb106, _, none⟩) NB105_106.out _).trans (((cell_far (p := ⟨gb106, _, none⟩) NB105_106.out _).trans (hHeld.2.2.1)))), ((cell_far (p := ⟨gb106, _, none⟩) NB105_106.out _).trans (((cell_far (p := ⟨gb106, _, none⟩) NB105_106.out _).trans (hHeld.2.2.2))))⟩ (fun hHeld => ?_)
 clear hK K
 refine done_ (done_of HT_.out (by kernel_rfl)) ?_
 try go_wp2
 refine bodyPost_ret (results_cell_row rfl _ _ gb106 74 #[.int .u64 t107, .int .u64 t108] (0, 0) _ rfl (by (with_reducible repeat (first | refine blk_drewN ?_ _ | refine blk_drew ?_ | refine blk_alloc ?_ _)); apply bp2; (with_reducible repeat (first | refine blk_drewN ?_ _ | refine blk_drew ?_ | refine blk_alloc ?_ _)); exact BK106.out) Tryz.underlying74 rfl (by kernel_rfl)) rfl ?_
 exact fin_ (blt HB)
def fd_sub.f (a0 : Int) (a1 : Int) (a2 : Int) : Option (Int) := (fd_operation.f a0 1 a1 a2).bind fun t109 => (some t109)
set_option maxHeartbeats 8000000 in
set_option maxRecDepth 100000 in
theorem fd_sub.calls (a0 : Int) (a1 : Int) (a2 : Int) (r : Int) (w : World) (h : fd_sub.f a0 a1 a2 = some r) :
  Calls Tryz.prog 98 #[.int .i64 a0, .int .u64 a1, .int .u64 a2] w fun e w' => e = .returned (.int .u64 r) ∧ Below w.heap.size w w' := by
 have HB := Aside0.mk (Below.refl w.heap.size w)
 have H : ((fd_operation.f a0 1 a1 a2).bind fun t109 => (some t109)) = some r := h
 clear h
 replace H := Option.bind_eq_some_iff.mp H
 obtain ⟨t109, A4, H⟩ := H
 try dsimp only at H
 replace A4 := Aside0.mk A4
 obtain rfl := Option.some.inj H
 go_enter Tryz.func98, Tryz.ntmps98
 go_wp2_with (first | ((with_reducible refine gate_callee (f := 120) rfl ?_); refine gLc 10 Tryz.func120 (fd_operation.calls a0 1 a1 a2 t109 _ A4.out) (fun w5 hb => ?_); replace HB := bls HB hb; clear hb))
 go_ret
 exact fin_ (blt HB)
def fd_minus.f (a0 : Int) (a1_0 : Int) (a1_1 : Int) (a2_0 : Int) (a2_1 : Int) : Option (Int × Int) := (fd_sub.f a0 a1_0 a2_0).bind fun t113 => ((fd_sub.f a0 a1_1 a2_1).bind fun t114 => (some (t113, t114)))
def fd_minus.T1 : Bool × List (List Nat × List Nat) := (true, [([], []), ([], []), ([1], [1]), ([], []), ([3], [3]), ([0, 2, 4], [0, 2, 4]), ([], []), ([], []), ([7], [7]), ([], []), ([9], [9]), ([6, 8, 10, 5], [6, 8, 10]), ([5, 11], [5, 11]), ([12, 11, 0, 1, 2, 3, 4, 5, 6, 7, 8, 9, 10, 11, 12], [12])])
def fd_minus.B1 : List Nat := [0, 0, 2, 0, 8, 31, 0, 0, 128, 0, 512, 2047, 4095, 8191]
theorem fd_minus.tab1 : rtab .any (opsOf Tryz.f54 1) = fd_minus.T1 := by kernel_rfl
theorem fd_minus.bits1 : waitsOk fd_minus.T1.2 fd_minus.B1 = true := by kernel_rfl
set_option maxHeartbeats 8000000 in
set_option maxRecDepth 100000 in
theorem fd_minus.calls (a0 : Int) (a1_0 : Int) (a1_1 : Int) (a2_0 : Int) (a2_1 : Int) (r1 : Int) (r2 : Int) (w : World) (h : fd_minus.f a0 a1_0 a1_1 a2_0 a2_1 = some (r1, r2)) :
  Calls Tryz.prog 54 #[.int .i64 a0, .agg #[.int .u64 a1_0, .int .u64 a1_1], .agg #[.int .u64 a2_0, .int .u64 a2_1]] w fun e w' => e = .returned (.agg #[.int .u64 r1, .int .u64 r2]) ∧ Below w.heap.size w w' := by
 have hu74 := Tryz.underlying74
 have HB := Aside0.mk (Below.refl w.heap.size w)
 have H : ((fd_sub.f a0 a1_0 a2_0).bind fun t113 => ((fd_sub.f a0 a1_1 a2_1).bind fun t114 => (some (t113, t114)))) = some (r1, r2) := h
 clear h
 replace H := Option.bind_eq_some_iff.mp H
 obtain ⟨t113, A4, H⟩ := H
 try dsimp only at H
 replace A4 := Aside0.mk A4
 replace H := Option.bind_eq_some_iff.mp H
 obtain ⟨t114, A5, H⟩ := H
 try dsimp only at H
 replace A5 := Aside0.mk A5
 simp only [Option.some.injEq, Prod.mk.injEq] at H
 obtain ⟨rfl, rfl⟩ := H
 go_enter Tryz.func54, Tryz.ntmps54
 try go_wp2_with (first | ((with_reducible refine gate_dst (N := 4) rfl ?_); refine bxe 4 (cs := #[.int .u64 a1_0, .int .u64 a1_1]) (t := 74) ?_; intro gb110 hg w6 hbox hb; have BK110 := Aside0.mk hbox; have GW110 := bsz HB hg; have GE110 := bsz HB hg; replace HB := bls HB hb; clear hb hbox hg) | ((with_reducible refine gate_dst (N := 5) rfl ?_); refine bxe 5 (cs := #[.int .u64 a2_0, .int .u64 a2_1]) (t := 74) ?_; intro gb111 hg w7 hbox hb; have BK111 := Aside0.mk hbox; have GW111 := bsz HB hg; have GE111 := bsz HB hg; have NB110_111 := bnl BK110 hg; have NB111_110 := bng BK110 hg; replace BK110 := bkb BK110 hb; replace HB := bls HB hb; clear hb hbox hg) | ((with_reducible refine gate_dst (N := 6) rfl ?_); refine bxe 6 (cs := #[.int .u64 0, .int .u64 0]) (t := 74) ?_; intro gb112 hg w8 hbox hb; have BK112 := Aside0.mk hbox; have GW112 := bsz HB hg; have GE112 := bsz HB hg; have NB110_112 := bnl BK110 hg; have NB112_110 := bng BK110 hg; have NB111_112 := bnl BK111 hg; have NB112_111 := bng BK111 hg; replace BK110 := bkb BK110 hb; replace BK111 := bkb BK111 hb; replace HB := bls HB hb; clear hb hbox hg))
 replace BK110 := Aside0.mk (blk_drew BK110.out)
 replace BK111 := Aside0.mk (blk_drew BK111.out)
 replace BK112 := Aside0.mk (blk_drew BK112.out)
 replace HB := Aside0.mk (below_drew1 HB.out)
 refine start_ (n := 14) (S := fun w' => w'.cell? ⟨gb110, 0, none⟩ = some (.int .u64 a1_0) ∧ w'.cell? ⟨gb110, 1, none⟩ = some (.int .u64 a1_1) ∧ w'.cell? ⟨gb111, 0, none⟩ = some (.int .u64 a2_0) ∧ w'.cell? ⟨gb111, 1, none⟩ = some (.int .u64 a2_1)) (ds := []) #[false, false, false, false, false, false, false, false, false, false, false, false, false, false] (by kernel_rfl) rfl rfl ⟨(blk_cell BK110.out 0).trans rfl, (blk_cell BK110.out 1).trans rfl, (blk_cell BK111.out 0).trans rfl, (blk_cell BK111.out 1).trans rfl⟩ (fun hHeld => ?_); refine with_tabW fd_minus.tab1 fd_minus.bits1 (fun HT_ HW_ => ?_)
 generalize w8.drew = w9 at BK110 BK111 BK112 HB hHeld ⊢
 refine pu 0 7 HT_ ?_
 refine pu 1 8 HT_ ?_
 refine pu 3 10 HT_ ?_
 refine pu 6 13 HT_ ?_
 refine pu 7 14 HT_ ?_
 refine pu 9 16 HT_ ?_
 refine tk 2 9 HT_ HW_ hHeld ?_
 refine tk 4 11 HT_ HW_ hHeld ?_
 refine tk 8 15 HT_ HW_ hHeld ?_
 refine tk 10 17 HT_ HW_ hHeld ?_
 refine on 5 12 HT_ (fun K hK => ?_)
 refine gsc Tryz.func98 (fd_sub.calls a0 a1_0 a2_0 t113 _ A4.out) (fun w10 hb => ?_)
 replace BK110 := bkb BK110 hb
 replace BK111 := bkb BK111 hb
 replace BK112 := bkb BK112 hb
 replace HB := bls HB hb
 (try clear hb)
 (try clear hb2)
 (try clear hk)
 (try clear hi)
 refine hK.out _ _ ⟨(blk_cell BK110.out 0).trans rfl, (blk_cell BK110.out 1).trans rfl, (blk_cell BK111.out 0).trans rfl, (blk_cell BK111.out 1).trans rfl⟩ (fun hHeld => ?_)
 clear hK K
 refine nm 12 ?_
 refine on 11 18 HT_ (fun K hK => ?_)
 refine gsc Tryz.func98 (fd_sub.calls a0 a1_1 a2_1 t114 _ A5.out) (fun w11 hb => ?_)
 replace BK110 := bkb BK110 hb
 replace BK111 := bkb BK111 hb
 replace BK112 := bkb BK112 hb
 replace HB := bls HB hb
 (try clear hb)
 (try clear hb2)
 (try clear hk)
 (try clear hi)
 refine hK.out _ _ ⟨(blk_cell BK110.out 0).trans rfl, (blk_cell BK110.out 1).trans rfl, (blk_cell BK111.out 0).trans rfl, (blk_cell BK111.out 1).trans rfl⟩ (fun hHeld => ?_)
 clear hK K
 refine nm 18 ?_
 refine pu 12 19 HT_ ?_
 refine one_ (i := 13) (N := none) #[true, true, true, true, true, true, true, true, true, true, true, true, true, true] rfl rfl (one_of HT_.out (by kernel_rfl)) (by decide) (fun K hK => ?_)
 have hs12 : w11.cell? ⟨gb112, 0, none⟩ = some (.int .u64 0) := (blk_cell BK112.out 0).trans rfl
 have hfs12 := blk_frozen BK112.out 0
 have hns12_0 := NB110_112.out
 have hns12_1 := NB111_112.out
 have hms12_0 := NB112_110.out
 have hms12_1 := NB112_111.out
 have hs13 : w11.cell? ⟨gb112, 1, none⟩ = some (.int .u64 0) := (blk_cell BK112.out 1).trans rfl
 have hfs13 := blk_frozen BK112.out 1
 have hns13_0 := NB110_112.out
 have hns13_1 := NB111_112.out
 have hms13_0 := NB112_110.out
 have hms13_1 := NB112_111.out
 refine skip_ (w1 := ?_) (by rfl) rfl ?_ ?_
 rotate_left
 ·go_simp
  rfl
 refine hK.out _ _ ⟨((cell_far (p := ⟨gb112, _, none⟩) NB110_112.out _).trans (((cell_far (p := ⟨gb112, _, none⟩) NB110_112.out _).trans (hHeld.1)))), ((cell_far (p := ⟨gb112, _, none⟩) NB110_112.out _).trans (((cell_far (p := ⟨gb112, _, none⟩) NB110_112.out _).trans (hHeld.2.1)))), ((cell_far (p := ⟨gb112, _, none⟩) NB111_112.out _).trans (((cell_far (p := ⟨gb112, _, none⟩) NB111_112.out _).trans (hHeld.2.2.1)))), ((cell_far (p := ⟨gb112, _, none⟩) NB111_112.out _).trans (((cell_far (p := ⟨gb112, _, none⟩) NB111_112.out _).trans (hHeld.2.2.2))))⟩ (fun hHeld => ?_)
 clear hK K
 refine done_ (done_of HT_.out (by kernel_rfl)) ?_
 try go_wp2
 refine bodyPost_ret (results_cell_row rfl _ _ gb112 74 #[.int .u64 t113, .int .u64 t114] (0, 0) _ rfl (by (with_reducible repeat (first | refine blk_drewN ?_ _ | refine blk_drew ?_ | refine blk_alloc ?_ _)); apply bp2; (with_reducible repeat (first | refine blk_drewN ?_ _ | refine blk_drew ?_ | refine blk_alloc ?_ _)); exact BK112.out) Tryz.underlying74 rfl (by kernel_rfl)) rfl ?_
 exact fin_ (blt HB)
def fd_mul.f (a0 : Int) (a1 : Int) (a2 : Int) : Option (Int) := (fd_operation.f a0 2 a1 a2).bind fun t115 => (some t115)
set_option maxHeartbeats 8000000 in
set_option maxRecDepth 100000 in
theorem fd_mul.calls (a0 : Int) (a1 : Int) (a2 : Int) (r : Int) (w : World) (h : fd_mul.f a0 a1 a2 = some r) :
  Calls Tryz.prog 99 #[.int .i64 a0, .int .u64 a1, .int .u64 a2] w fun e w' => e = .returned (.int .u64 r) ∧ Below w.heap.size w w' := by
 have HB := Aside0.mk (Below.refl w.heap.size w)
 have H : ((fd_operation.f a0 2 a1 a2).bind fun t115 => (some t115)) = some r := h
 clear h
 replace H := Option.bind_eq_some_iff.mp H
 obtain ⟨t115, A4, H⟩ := H
 try dsimp only at H
 replace A4 := Aside0.mk A4
 obtain rfl := Option.some.inj H
 go_enter Tryz.func99, Tryz.ntmps99
 go_wp2_with (first | ((with_reducible refine gate_callee (f := 120) rfl ?_); refine gLc 10 Tryz.func120 (fd_operation.calls a0 2 a1 a2 t115 _ A4.out) (fun w5 hb => ?_); replace HB := bls HB hb; clear hb))
 go_ret
 exact fin_ (blt HB)
end Go.Proofs.YtmoimcblmmcffaaGreat.PPC
