/- PROVED: formularylaw10.ComplexesSums returns true for every input, and leaves its arguments as they were: the sum of several values, and the product of two lists, are as specified, or the errors. CONDITIONS: the row's own; nothing else. -/
import Derived.Test.YtmoimcblmmcffaaGreatQComplexesSumsA
import Derived.Test.YtmoimcblmmcffaaGreatQComplexesSumsI
import Derived.Test.YtmoimcblmmcffaaGreatQComplexesSumsJ
import Derived.Test.YtmoimcblmmcffaaGreatRows
import Derived.WalkKit
import Derived.ProofKit
import Derived.OpenShut
import Derived.ShutString
import Derived.ChangeOld
import Derived.Below
import Derived.SizedLaws
import Derived.Lib.SmallJoins
import Derived.Deep.Slices
import Derived.Deep.Fields
import Derived.ChangeSame

namespace Go.Proofs.YtmoimcblmmcffaaGreat.PLS
open Go.RowKit Go.Proofs.YtmoimcblmmcffaaGreat.PPC Go.Proofs.YtmoimcblmmcffaaGreat.PRA Go.Proofs.YtmoimcblmmcffaaGreat.PN Go.Proofs.YtmoimcblmmcffaaGreatW.PrintWords Go.Proofs.YtmoimcblmmcffaaGreatW.PrintLast Go.Proofs.YtmoimcblmmcffaaGreatW.PrintMore Go.Proofs.YtmoimcblmmcffaaGreatW.PrintZ
attribute [local go_sem] max2_int min2_int max_two min_two max_three min_three max_four min_four   -- for this text's walks alone
attribute [local go_sem high] Go.Proofs.YtmoimcblmmcffaaGreat.NC.fld0
set_option linter.unusedVariables false
set_option linter.unusedSimpArgs false
attribute [local go_sem high] eqA24

mutual
def l10_ComplexesSums.j0 : Nat → Int → List (S24) → List (S24) → Bool → Option (Bool)
 | 0, _, _, _, _ => none
 | k + 1, x0, x1, x2, x26 => if x26 = true then (some true) else (l10_ComplexesSums.l0 k x0 x1 x2 0)
def l10_ComplexesSums.l0 : Nat → Int → List (S24) → List (S24) → Int → Option (Bool)
 | 0, _, _, _, _ => none
 | k + 1, x0, x1, x2, x7 => if x7 < (x1.length : Int) then (if 0 ≤ x7 then ((l10_brief.f ((rd_T24 x1 x7).f0) ((rd_T24 x1 x7).f1) ((rd_T24 x1 x7).f2) ((rd_T24 x1 x7).f3)).bind fun t211 => (if t211 = true then (l10_ComplexesSums.l0 k x0 x1 x2 (wrap64 (x7 + 1))) else (some true))) else (none)) else (l10_ComplexesSums.l1 k x0 x1 x2 0)
def l10_ComplexesSums.l1 : Nat → Int → List (S24) → List (S24) → Int → Option (Bool)
 | 0, _, _, _, _ => none
 | k + 1, x0, x1, x2, x8 => if x8 < (x2.length : Int) then (if 0 ≤ x8 then ((l10_brief.f ((rd_T24 x2 x8).f0) ((rd_T24 x2 x8).f1) ((rd_T24 x2 x8).f2) ((rd_T24 x2 x8).f3)).bind fun t213 => (if t213 = true then (l10_ComplexesSums.l1 k x0 x1 x2 (wrap64 (x8 + 1))) else (some true))) else (none)) else ((bs_CopyValues.f x1).bind fun t214 => ((cx_SumOf.f k x0 t214).bind fun bt217 => ((bs_CopyValues.f x1).bind fun t223 => ((bs_CopyValues.f x2).bind fun t226 => ((cx_DotOf.f k x0 t223 t226).bind fun bt229 => ((r10_TypeErr.f x0).bind fun t236 => (if t236 = 0 then ((r10_ListErr.f k x0 x1).bind fun t237 => (if (x1.length : Int) > 40 then (l10_ComplexesSums.j3 k x0 x1 x2 bt217.2.2.2.2 bt229.2.2.2.2 8 bt217.1 bt217.2.1 bt217.2.2.1 bt217.2.2.2.1 bt229.1 bt229.2.1 bt229.2.2.1 bt229.2.2.2.1 0 0 0 (⟨#[]⟩ : ByteArray)) else (l10_ComplexesSums.j3 k x0 x1 x2 bt217.2.2.2.2 bt229.2.2.2.2 t237 bt217.1 bt217.2.1 bt217.2.2.1 bt217.2.2.2.1 bt229.1 bt229.2.1 bt229.2.2.1 bt229.2.2.2.1 0 0 0 (⟨#[]⟩ : ByteArray)))) else (if bt217.2.2.2.2 = t236 then (if (bt217.1 == 0 && (bt217.2.1 == 0 && (bt217.2.2.1 == 0 && (bt217.2.2.2.1.toList == ([] : List UInt8))))) = true then (if bt229.2.2.2.2 = t236 then (some (bt229.1 == 0 && (bt229.2.1 == 0 && (bt229.2.2.1 == 0 && (bt229.2.2.2.1.toList == ([] : List UInt8)))))) else (some false)) else (some false)) else (some false)))))))))
def l10_ComplexesSums.j3 : Nat → Int → List (S24) → List (S24) → Int → Int → Int → Int → Int → Int → ByteArray → Int → Int → Int → ByteArray → Int → Int → Int → ByteArray → Option (Bool)
 | 0, _, _, _, _, _, _, _, _, _, _, _, _, _, _, _, _, _, _ => none
 | k + 1, x0, x1, x2, x10, x12, x16, x223000, x223001, x223002, x223003, x235000, x235001, x235002, x235003, x236000, x236001, x236002, x236003 => if x16 = 0 then (if x10 = 0 then ((r10_Sum.f k x0 x1).bind fun bt238 => (l10_ComplexesSums.j4 k x0 x1 x2 x12 x16 (!(x223000 == bt238.1) || (!(x223001 == bt238.2.1) || (!(x223002 == bt238.2.2.1) || (!(x223003.toList == bt238.2.2.2.toList))))) x235000 x235001 x235002 x235003 x236000 x236001 x236002 x236003)) else (l10_ComplexesSums.j4 k x0 x1 x2 x12 x16 true x235000 x235001 x235002 x235003 x236000 x236001 x236002 x236003)) else (if x10 = x16 then (if (!(x223000 == x236000) || (!(x223001 == x236001) || (!(x223002 == x236002) || (!(x223003.toList == x236003.toList))))) = true then (l10_ComplexesSums.j4 k x0 x1 x2 x12 x16 true x235000 x235001 x235002 x235003 x236000 x236001 x236002 x236003) else (l10_ComplexesSums.j4 k x0 x1 x2 x12 x16 false x235000 x235001 x235002 x235003 x236000 x236001 x236002 x236003)) else (l10_ComplexesSums.j4 k x0 x1 x2 x12 x16 true x235000 x235001 x235002 x235003 x236000 x236001 x236002 x236003))
def l10_ComplexesSums.j4 : Nat → Int → List (S24) → List (S24) → Int → Int → Bool → Int → Int → Int → ByteArray → Int → Int → Int → ByteArray → Option (Bool)
 | 0, _, _, _, _, _, _, _, _, _, _, _, _, _, _ => none
 | k + 1, x0, x1, x2, x12, x16, x123, x235000, x235001, x235002, x235003, x236000, x236001, x236002, x236003 => if x123 = true then (some false) else (if (x1.length : Int) = (x2.length : Int) then (if x16 = 0 then ((r10_ListErr.f k x0 x2).bind fun t242 => (if t242 = 0 then (if x12 = 0 then ((r10_Dot.f k x0 x1 x2).bind fun bt243 => (some (x235000 == bt243.1 && (x235001 == bt243.2.1 && (x235002 == bt243.2.2.1 && (x235003.toList == bt243.2.2.2.toList)))))) else (some false)) else (if x12 = t242 then (some (x235000 == x236000 && (x235001 == x236001 && (x235002 == x236002 && (x235003.toList == x236003.toList))))) else (some false)))) else (if x12 = x16 then (some (x235000 == x236000 && (x235001 == x236001 && (x235002 == x236002 && (x235003.toList == x236003.toList))))) else (some false))) else (if 10 = 0 then (if x12 = 0 then ((r10_Dot.f k x0 x1 x2).bind fun bt247 => (some (x235000 == bt247.1 && (x235001 == bt247.2.1 && (x235002 == bt247.2.2.1 && (x235003.toList == bt247.2.2.2.toList)))))) else (some false)) else (if x12 = 10 then (some (x235000 == x236000 && (x235001 == x236001 && (x235002 == x236002 && (x235003.toList == x236003.toList))))) else (some false))))
end
def l10_ComplexesSums.f (k : Nat) (a0 : Int) (l1 : List (S24)) (l2 : List (S24)) : Option (Bool) := (l10_awake.f).bind fun t209 => (if t209 = true then (if (l1.length : Int) > 42 then (l10_ComplexesSums.j0 k a0 l1 l2 true) else (l10_ComplexesSums.j0 k a0 l1 l2 (decide ((l2.length : Int) > 42)))) else (some false))
def l10_ComplexesSums.T25 : Bool × List (List Nat × List Nat) := (true, [([], []), ([0], [0]), ([1], [1]), ([2], [2]), ([2], [2]), ([3, 4, 2], [2, 3, 4]), ([5, 2, 2], [2, 5]), ([6], [6]), ([6], [6]), ([7, 8, 6], [6, 7, 8]), ([6, 9, 2], [2, 6, 9]), ([2, 10], [2, 10]), ([11, 6], [11]), ([12], [12]), ([13, 12], [12, 13]), ([14, 12, 12], [12, 14]), ([15], [15]), ([16, 15], [15, 16]), ([17, 15, 15], [15, 17]), ([18], [18]), ([18], [18]), ([18], [18]), ([20, 21, 18, 18], [18, 20, 21]), ([19, 22, 18], [18, 19, 22]), ([18, 23, 15], [15, 18, 23]), ([15, 24, 12], [12, 15, 24]), ([12, 25], [12, 25])])
def l10_ComplexesSums.B25 : List Nat := [0, 1, 3, 7, 7, 31, 63, 127, 127, 511, 1023, 2047, 4095, 8191, 16383, 32767, 65535, 131071, 262143, 524287, 524287, 524287, 3670015, 8388607, 16777215, 33554431, 67108863]
theorem l10_ComplexesSums.tab25 : rtab .any (opsOf Tryz.f7 25) = l10_ComplexesSums.T25 := by kernel_rfl
theorem l10_ComplexesSums.bits25 : waitsOk l10_ComplexesSums.T25.2 l10_ComplexesSums.B25 = true := by kernel_rfl
def l10_ComplexesSums.T33 : Bool × List (List Nat × List Nat) := (true, [([], []), ([0], [0]), ([1], [1]), ([2], [2]), ([2], [2]), ([2], [2]), ([2], [2]), ([4, 5, 6, 2, 2], [2, 4, 5, 6]), ([3, 7, 2], [2, 3, 7]), ([2, 8], [2, 8]), ([9, 7, 0, 1, 2, 3, 4, 5, 6, 7, 8, 9], [9])])
def l10_ComplexesSums.B33 : List Nat := [0, 1, 3, 7, 7, 7, 7, 119, 255, 511, 1023]
theorem l10_ComplexesSums.tab33 : rtab .any (opsOf Tryz.f7 33) = l10_ComplexesSums.T33 := by kernel_rfl
theorem l10_ComplexesSums.bits33 : waitsOk l10_ComplexesSums.T33.2 l10_ComplexesSums.B33 = true := by kernel_rfl
set_option maxHeartbeats 8000000 in
set_option maxRecDepth 100000 in
theorem l10_ComplexesSums.calls (k : Nat) (a0 : Int) (A1 : Option Addr) (c1 : Nat) (l1 : List (S24)) (A2 : Option Addr) (c2 : Nat) (l2 : List (S24)) (w : World) (hr1 : Kd.C k24 w A1 l1.length l1) (hc1 : l1.length ≤ c1) (hr2 : Kd.C k24 w A2 l2.length l2) (hc2 : l2.length ≤ c2) (h : l10_ComplexesSums.f k a0 l1 l2 = some true) :
  Calls Tryz.prog 7 #[.int .i64 a0, .slice A1 l1.length c1, .slice A2 l2.length c2] w fun e w' => e = .returned (.bool true) ∧ Below w.heap.size w w' := by
 have hu24 := Tryz.underlying24
 have HR1 := Zs.mk hr1
 have HC1 := Zs.mk hc1
 clear hr1 hc1
 have HR2 := Zs.mk hr2
 have HC2 := Zs.mk hc2
 clear hr2 hc2
 have HB := Zs.mk (Below.refl w.heap.size w)
 have H : ((l10_awake.f).bind fun t209 => (if t209 = true then (if (l1.length : Int) > 42 then (l10_ComplexesSums.j0 k a0 l1 l2 true) else (l10_ComplexesSums.j0 k a0 l1 l2 (decide ((l2.length : Int) > 42)))) else (some false))) = some true := h
 clear h
 replace H := Option.bind_eq_some_iff.mp H
 obtain ⟨t209, A4, H⟩ := H
 try dsimp only at H
 replace A4 := Zs.mk A4
 by_cases c5 : t209 = true
 ·subst c5
  rw [if_pos rfl] at H
  have HC6 := Zs.mk H
  clear H
  go_enter Tryz.func7, Tryz.ntmps7
  go_upto_region 3 with (first | ((with_reducible refine gc_ (f := 10) rfl ?_); refine gLc 17 Tryz.func10 (l10_awake.calls  true _ A4.out) (fun w7 hb => ?_); replace HB := bls HB hb; clear hb))
  (try simp only [Act.put, List.setIfInBounds_toArray, List.set_cons_zero, List.set_cons_succ])
  go_cut [26] (fun v26 wc => ∃ (kq : Nat) (x26_5 : Bool), v26 = .bool x26_5 ∧ Zs (l10_ComplexesSums.j0 kq a0 l1 l2 x26_5 = some true) ∧ Zs (kq ≤ k) ∧ Zs (Below w.heap.size w wc))
  case first =>
   have H := HC6.out
   clear HC6
   by_cases c8 : (l1.length : Int) > 42
   ·rw [if_pos c8] at H
    have c8b0 : decide (42 < (l1.length : Int)) = true := decide_eq_true c8
    have c8b1 : decide (42 < l1.length) = true := decide_eq_true (by omega)
    clear c8
    (first | rw [c8b0] | (simp only [i64_w, i32_w]; rw [c8b0]) | skip)
    have H' := Zs.mk H
    clear H
    go_wp2
    go_meet
    case rel => exact ⟨_, (true), (by first | rfl | (simp; done) | (simp [*]; done)), H', ⟨by first | omega | exact Nat.le_refl _⟩, blt HB⟩
   ·rw [if_neg c8] at H
    have c8b0 : decide (42 < (l1.length : Int)) = false := decide_eq_false c8
    have c8b1 : decide (42 < l1.length) = false := decide_eq_false (by omega)
    clear c8
    (first | rw [c8b0] | (simp only [i64_w, i32_w]; rw [c8b0]) | skip)
    have H' := Zs.mk H
    clear H
    go_wp2
    go_meet
    case rel => exact ⟨_, (decide ((l2.length : Int) > 42)), (by first | rfl | (simp; done) | (simp [*]; done)), H', ⟨by first | omega | exact Nat.le_refl _⟩, blt HB⟩
  case rest =>
   clear HC6
   try clear c1
   try clear c2
   try clear p2
   try clear c5
   try clear c7
   try clear c8
   try clear c8b0
   try clear c8b1
   obtain ⟨kq, x26_5, rfl, HA, HJ5, HB⟩ := hcut
   cases kq with
   | zero => exact absurd HA.out (by simp [l10_ComplexesSums.j0])
   | succ kj5 =>
    have H := HA.out
    clear HA
    simp only [l10_ComplexesSums.j0] at H
    by_cases c9 : x26_5 = true
    ·subst c9
     rw [if_pos rfl] at H
     have HR_ := Option.some.inj H
     clear H
     go_wp2
     go_ret
     exact ⟨by first | rfl | (rw [HR_]; done) | (rw [HRz_]; done) | (simp only [HR_]; done) | (simp [errW_none, errW_some] <;> rfl) | (simp [*, errW_none, errW_some] <;> rfl), (blt HB).out⟩
    ·replace c9 := Bool.eq_false_iff.mpr c9
     subst c9
     rw [if_neg (show ¬ (false = true) by decide)] at H
     have H' := Zs.mk H
     clear H
     go_wp2
     go_loopg [7] kj5 (fun kq v7 w' => ∃ (x7_2 : Int), v7 = .int .i64 x7_2 ∧ Zs (l10_ComplexesSums.l0 kq a0 l1 l2 x7_2 = some true) ∧ Zs (kq ≤ kj5) ∧ Zs (Below w.heap.size w w'))
     case atStart => exact ⟨(0), (by first | rfl | (simp; done) | (simp [*]; done)), H', ⟨Nat.le_refl _⟩, blt HB⟩
     case round =>
      clear H'
      try clear c1
      try clear c2
      try clear p2
      try clear c5
      try clear c7
      try clear c8
      try clear c8b0
      try clear c8b1
      try clear c9
      try clear p2
      obtain ⟨x7_2, rfl, HA, HK2, HB⟩ := hrel
      cases gk with
      | zero => exact absurd HA.out (by simp [l10_ComplexesSums.l0])
      | succ k2 =>
       have H := HA.out
       clear HA
       simp only [l10_ComplexesSums.l0] at H
       by_cases c10 : x7_2 < (l1.length : Int)
       ·rw [if_pos c10] at H
        have c10b0 : decide (x7_2 < (l1.length : Int)) = true := decide_eq_true c10
        clear c10
        by_cases c11 : 0 ≤ x7_2
        ·rw [if_pos c11] at H
         have c11b0 : decide (0 ≤ x7_2) = true := decide_eq_true c11
         clear c11
         replace H := Option.bind_eq_some_iff.mp H
         obtain ⟨t211, A12, H⟩ := H
         try dsimp only at H
         replace A12 := Zs.mk A12
         by_cases c13 : t211 = true
         ·subst c13
          rw [if_pos rfl] at H
          have H' := Zs.mk H
          clear H
          have p210 : 0 ≤ (x7_2 : Int) := of_decide_eq_true (by first | (with_reducible assumption) | assumption)
          have q210 : x7_2 < (l1.length : Int) := of_decide_eq_true (by first | (with_reducible assumption) | assumption)
          obtain ⟨ad210, e210, hx210_0, hx210_1, hx210_2, hx210_3⟩ := at_T24 HR1.out x7_2 p210 q210
          cases e210
          replace hx210_0 := (HB.out.cell (World.block_lt_of_cell? w _ hx210_0)).trans hx210_0
          replace hx210_1 := (HB.out.cell (World.block_lt_of_cell? w _ hx210_1)).trans hx210_1
          replace hx210_2 := (HB.out.cell (World.block_lt_of_cell? w _ hx210_2)).trans hx210_2
          replace hx210_3 := (HB.out.cell (World.block_lt_of_cell? w _ hx210_3)).trans hx210_3
          replace p210 := eq_true p210
          replace q210 := eq_true q210
          go_wp2_with (first | ((with_reducible refine gc_ (f := 11) rfl ?_); refine gLc 37 Tryz.func11 (l10_brief.calls ((rd_T24 l1 x7_2).f0) ((rd_T24 l1 x7_2).f1) ((rd_T24 l1 x7_2).f2) ((rd_T24 l1 x7_2).f3) true _ A12.out) (fun w14 hb => ?_); replace HB := bls HB hb; clear hb))
          go_roundg k2
          case measure => have := HJ5.out; have := HK2.out; omega
          case rel => exact ⟨(wrap64 (x7_2 + 1)), (by first | rfl | (simp; done) | (simp [*]; done)), H', ⟨by have := HJ5.out; have := HK2.out; omega⟩, blt HB⟩
         ·replace c13 := Bool.eq_false_iff.mpr c13
          subst c13
          rw [if_neg (show ¬ (false = true) by decide)] at H
          have HR_ := Option.some.inj H
          clear H
          have p210 : 0 ≤ (x7_2 : Int) := of_decide_eq_true (by first | (with_reducible assumption) | assumption)
          have q210 : x7_2 < (l1.length : Int) := of_decide_eq_true (by first | (with_reducible assumption) | assumption)
          obtain ⟨ad210, e210, hx210_0, hx210_1, hx210_2, hx210_3⟩ := at_T24 HR1.out x7_2 p210 q210
          cases e210
          replace hx210_0 := (HB.out.cell (World.block_lt_of_cell? w _ hx210_0)).trans hx210_0
          replace hx210_1 := (HB.out.cell (World.block_lt_of_cell? w _ hx210_1)).trans hx210_1
          replace hx210_2 := (HB.out.cell (World.block_lt_of_cell? w _ hx210_2)).trans hx210_2
          replace hx210_3 := (HB.out.cell (World.block_lt_of_cell? w _ hx210_3)).trans hx210_3
          replace p210 := eq_true p210
          replace q210 := eq_true q210
          go_wp2_with (first | ((with_reducible refine gc_ (f := 11) rfl ?_); refine gLc 37 Tryz.func11 (l10_brief.calls ((rd_T24 l1 x7_2).f0) ((rd_T24 l1 x7_2).f1) ((rd_T24 l1 x7_2).f2) ((rd_T24 l1 x7_2).f3) false _ A12.out) (fun w15 hb => ?_); replace HB := bls HB hb; clear hb))
          go_ret
          exact ⟨by first | rfl | (rw [HR_]; done) | (rw [HRz_]; done) | (simp only [HR_]; done) | (simp [errW_none, errW_some] <;> rfl) | (simp [*, errW_none, errW_some] <;> rfl), (blt HB).out⟩
        ·rw [if_neg c11] at H
         exact absurd H (by simp)
       ·rw [if_neg c10] at H
        have c10b0 : decide (x7_2 < (l1.length : Int)) = false := decide_eq_false c10
        clear c10
        have H' := Zs.mk H
        clear H
        go_wp2
        go_loopg [8] k2 (fun kq v8 w' => ∃ (x8_3 : Int), v8 = .int .i64 x8_3 ∧ Zs (l10_ComplexesSums.l1 kq a0 l1 l2 x8_3 = some true) ∧ Zs (kq ≤ k2) ∧ Zs (Below w.heap.size w w'))
        case atStart => exact ⟨(0), (by first | rfl | (simp; done) | (simp [*]; done)), H', ⟨Nat.le_refl _⟩, blt HB⟩
        case round =>
         clear H'
         try clear c1
         try clear c2
         try clear p2
         try clear q2
         try clear hx2
         try clear c5
         try clear p6
         try clear c7
         try clear c8
         try clear c8b0
         try clear c8b1
         try clear c9
         try clear c10
         try clear c10b0
         try clear c11
         try clear c11b0
         try clear c13
         try clear hx210_0
         try clear hx210_1
         try clear hx210_2
         try clear hx210_3
         try clear p2
         try clear p210
         try clear q210
         obtain ⟨x8_3, rfl, HA, HK3, HB⟩ := hrel
         cases gk with
         | zero => exact absurd HA.out (by simp [l10_ComplexesSums.l1])
         | succ k3 =>
          have H := HA.out
          clear HA
          simp only [l10_ComplexesSums.l1] at H
          by_cases c16 : x8_3 < (l2.length : Int)
          ·rw [if_pos c16] at H
           have c16b0 : decide (x8_3 < (l2.length : Int)) = true := decide_eq_true c16
           clear c16
           by_cases c17 : 0 ≤ x8_3
           ·rw [if_pos c17] at H
            have c17b0 : decide (0 ≤ x8_3) = true := decide_eq_true c17
            clear c17
            replace H := Option.bind_eq_some_iff.mp H
            obtain ⟨t213, A18, H⟩ := H
            try dsimp only at H
            replace A18 := Zs.mk A18
            by_cases c19 : t213 = true
            ·subst c19
             rw [if_pos rfl] at H
             have H' := Zs.mk H
             clear H
             have p212 : 0 ≤ (x8_3 : Int) := of_decide_eq_true (by first | (with_reducible assumption) | assumption)
             have q212 : x8_3 < (l2.length : Int) := of_decide_eq_true (by first | (with_reducible assumption) | assumption)
             obtain ⟨ad212, e212, hx212_0, hx212_1, hx212_2, hx212_3⟩ := at_T24 HR2.out x8_3 p212 q212
             cases e212
             replace hx212_0 := (HB.out.cell (World.block_lt_of_cell? w _ hx212_0)).trans hx212_0
             replace hx212_1 := (HB.out.cell (World.block_lt_of_cell? w _ hx212_1)).trans hx212_1
             replace hx212_2 := (HB.out.cell (World.block_lt_of_cell? w _ hx212_2)).trans hx212_2
             replace hx212_3 := (HB.out.cell (World.block_lt_of_cell? w _ hx212_3)).trans hx212_3
             replace p212 := eq_true p212
             replace q212 := eq_true q212
             go_wp2_with (first | ((with_reducible refine gc_ (f := 11) rfl ?_); refine gLc 49 Tryz.func11 (l10_brief.calls ((rd_T24 l2 x8_3).f0) ((rd_T24 l2 x8_3).f1) ((rd_T24 l2 x8_3).f2) ((rd_T24 l2 x8_3).f3) true _ A18.out) (fun w20 hb => ?_); replace HB := bls HB hb; clear hb))
             go_roundg k3
             case measure => have := HJ5.out; have := HK2.out; have := HK3.out; omega
             case rel => exact ⟨(wrap64 (x8_3 + 1)), (by first | rfl | (simp; done) | (simp [*]; done)), H', ⟨by have := HJ5.out; have := HK2.out; have := HK3.out; omega⟩, blt HB⟩
            ·replace c19 := Bool.eq_false_iff.mpr c19
             subst c19
             rw [if_neg (show ¬ (false = true) by decide)] at H
             have HR_ := Option.some.inj H
             clear H
             have p212 : 0 ≤ (x8_3 : Int) := of_decide_eq_true (by first | (with_reducible assumption) | assumption)
             have q212 : x8_3 < (l2.length : Int) := of_decide_eq_true (by first | (with_reducible assumption) | assumption)
             obtain ⟨ad212, e212, hx212_0, hx212_1, hx212_2, hx212_3⟩ := at_T24 HR2.out x8_3 p212 q212
             cases e212
             replace hx212_0 := (HB.out.cell (World.block_lt_of_cell? w _ hx212_0)).trans hx212_0
             replace hx212_1 := (HB.out.cell (World.block_lt_of_cell? w _ hx212_1)).trans hx212_1
             replace hx212_2 := (HB.out.cell (World.block_lt_of_cell? w _ hx212_2)).trans hx212_2
             replace hx212_3 := (HB.out.cell (World.block_lt_of_cell? w _ hx212_3)).trans hx212_3
             replace p212 := eq_true p212
             replace q212 := eq_true q212
             go_wp2_with (first | ((with_reducible refine gc_ (f := 11) rfl ?_); refine gLc 49 Tryz.func11 (l10_brief.calls ((rd_T24 l2 x8_3).f0) ((rd_T24 l2 x8_3).f1) ((rd_T24 l2 x8_3).f2) ((rd_T24 l2 x8_3).f3) false _ A18.out) (fun w21 hb => ?_); replace HB := bls HB hb; clear hb))
             go_ret
             exact ⟨by first | rfl | (rw [HR_]; done) | (rw [HRz_]; done) | (simp only [HR_]; done) | (simp [errW_none, errW_some] <;> rfl) | (simp [*, errW_none, errW_some] <;> rfl), (blt HB).out⟩
           ·rw [if_neg c17] at H
            exact absurd H (by simp)
          ·rw [if_neg c16] at H
           have c16b0 : decide (x8_3 < (l2.length : Int)) = false := decide_eq_false c16
           clear c16
           replace H := Option.bind_eq_some_iff.mp H
           obtain ⟨t214, A22, H⟩ := H
           try dsimp only at H
           replace A22 := Zs.mk A22
           replace H := Option.bind_eq_some_iff.mp H
           obtain ⟨⟨t217, t218, t219, t220, t221⟩, A23, H⟩ := H
           try dsimp only at H
           replace A23 := Zs.mk A23
           replace H := Option.bind_eq_some_iff.mp H
           obtain ⟨t223, A24, H⟩ := H
           try dsimp only at H
           replace A24 := Zs.mk A24
           replace H := Option.bind_eq_some_iff.mp H
           obtain ⟨t226, A25, H⟩ := H
           try dsimp only at H
           replace A25 := Zs.mk A25
           replace H := Option.bind_eq_some_iff.mp H
           obtain ⟨⟨t229, t230, t231, t232, t233⟩, A26, H⟩ := H
           try dsimp only at H
           replace A26 := Zs.mk A26
           replace H := Option.bind_eq_some_iff.mp H
           obtain ⟨t236, A27, H⟩ := H
           try dsimp only at H
           replace A27 := Zs.mk A27
           by_cases c28 : t236 = 0
           ·rw [if_pos c28] at H
            have c28b0 : (t236 == 0) = true := beq_iff_eq.mpr c28
            have c28b1 : (t236 != 0) = false := bne_eq_false_iff_eq.mpr c28
            clear c28
            replace H := Option.bind_eq_some_iff.mp H
            obtain ⟨t237, A29, H⟩ := H
            try dsimp only at H
            replace A29 := Zs.mk A29
            have HC30 := Zs.mk H
            clear H
            go_upto_if 96 with (first | ((with_reducible refine gc_ (f := 37) rfl ?_); refine gL 54 Tryz.func37 #[.slice A1 l1.length c1] ?_; (with_reducible refine (bs_CopyValues.calls _ _ l1 t214 _ ?side1 ?side2 A22.out).mono ?_); (case side1 => repeat (first | exact (Kd.C_below HR1.out HB.out) | (with_reducible refine Kd.C_alloc ?_ _) | (with_reducible refine Kd.C_drewN ?_ _) | (with_reducible refine Kd.C_drew ?_))); (case side2 => exact HC1.out); rintro e w31 ⟨v215, rfl, ho0, hb⟩; refine ⟨_, rfl, ?_⟩; have HO216 := Zs.mk (Kd.R_lower ho0 (below_size (blt HB).out)); replace HB := bls HB hb; (try clear hb); (try clear hb2); (try clear hk); (try clear hi); (try clear ho0); obtain ⟨Ao32, co32, eo32⟩ := Kd.R_slice HO216.out; subst eo32) | ((with_reducible refine gc_ (f := 36) rfl ?_); refine gL 55 Tryz.func36 #[.int .i64 a0, .slice Ao32 t214.length co32] ?_; (with_reducible refine (cx_SumOf.calls k3 a0 _ _ t214 t217 t218 t219 t220 t221 _ ?side1 ?side2 A23.out).mono ?_); (case side1 => repeat (first | exact (Kd.R_reads' HO216.out).2.2 | (with_reducible refine Kd.C_alloc ?_ _) | (with_reducible refine Kd.C_drewN ?_ _) | (with_reducible refine Kd.C_drew ?_))); (case side2 => exact (Kd.R_reads' HO216.out).2.1); rintro e w33 ⟨rfl, hb⟩; refine ⟨_, rfl, ?_⟩; replace HO216 := Zs.mk (Kd.R_below (by (with_reducible repeat (first | apply Kd.R_alloc | apply Kd.R_drewN | apply Kd.R_drew)); exact HO216.out) hb); replace HB := bls HB hb; clear hb) | ((with_reducible refine gd_ (N := 9) rfl ?_); (try (refine gate_guard (by rfl) ?_; dsimp only)); refine bxe 9 (cs := #[.int .i64 0, .int .u64 0, .int .u64 0, .string (⟨#[]⟩ : ByteArray)]) (t := 24) ?_; intro gb222 hg w34 hbox hb; have BK222 := Zs.mk hbox; have GW222 := bsz HB hg; have GE222 := bsz HB hg; replace HO216 := Zs.mk (Kd.R_below (Kd.R_elderB (by (with_reducible repeat (first | apply Kd.R_alloc | apply Kd.R_drewN | apply Kd.R_drew)); exact HO216.out) gb222 (Nat.le_of_eq hg.symm)) hb); replace HB := bls HB hb; clear hb hbox hg; obtain ⟨hcz35_0, hcz35_1, hcz35_2, hcz35_3, hfz35_0, hfz35_1, hfz35_2, hfz35_3⟩ := cf4 BK222) | ((with_reducible refine gc_ (f := 37) rfl ?_); refine gL 61 Tryz.func37 #[.slice A1 l1.length c1] ?_; (with_reducible refine (bs_CopyValues.calls _ _ l1 t223 _ ?side1 ?side2 A24.out).mono ?_); (case side1 => exact Kd.C_below HR1.out (blt HB).out); (case side2 => exact HC1.out); rintro e w36 ⟨v224, rfl, ho0, hb⟩; refine ⟨_, rfl, ?_⟩; have HO225 := Zs.mk (Kd.R_lower (Kd.R_newB (Kd.R_new' ho0 (Kd.R_lt (by (with_reducible repeat (first | apply Kd.R_alloc | apply Kd.R_drewN | apply Kd.R_drew)); exact (Kd.R_mono (Kd.R_far (p := ⟨gb222, 3, none⟩) (Kd.R_far (p := ⟨gb222, 2, none⟩) (Kd.R_far (p := ⟨gb222, 1, none⟩) (Kd.R_far (p := ⟨gb222, 0, none⟩) (Kd.R_mono HO216.out (fun k_ hk => (⟨hk, hk.2⟩ : _ ∧ k_ ≠ gb222))) (fun _ hk => hk.2) (.int .i64 t217)) (fun _ hk => hk.2) (.int .u64 t218)) (fun _ hk => hk.2) (.int .u64 t219)) (fun _ hk => hk.2) (.string t220)) (fun _ h_ => h_.1))))) (g := gb222) (o := .cells #[.int .i64 t217, .int .u64 t218, .int .u64 t219, .string t220] 24 (0, 0)) (by (with_reducible repeat (first | refine zn ?_ _ | refine zd ?_ | refine za ?_ _)); apply bp4; (with_reducible repeat (first | refine zn ?_ _ | refine zd ?_ | refine za ?_ _)); exact BK222.out)) (below_size (blt HB).out)); replace HO216 := Zs.mk (Kd.R_elder' (by (with_reducible repeat (first | apply Kd.R_alloc | apply Kd.R_drewN | apply Kd.R_drew)); exact (Kd.R_mono (Kd.R_far (p := ⟨gb222, 3, none⟩) (Kd.R_far (p := ⟨gb222, 2, none⟩) (Kd.R_far (p := ⟨gb222, 1, none⟩) (Kd.R_far (p := ⟨gb222, 0, none⟩) (Kd.R_mono HO216.out (fun k_ hk => (⟨hk, hk.2⟩ : _ ∧ k_ ≠ gb222))) (fun _ hk => hk.2) (.int .i64 t217)) (fun _ hk => hk.2) (.int .u64 t218)) (fun _ hk => hk.2) (.int .u64 t219)) (fun _ hk => hk.2) (.string t220)) (fun _ h_ => h_.1))) (Kd.R_base ho0) hb); replace BK222 := Zs.mk (blk_below (g := gb222) (o := .cells #[.int .i64 t217, .int .u64 t218, .int .u64 t219, .string t220] 24 (0, 0)) (by (with_reducible repeat (first | refine zn ?_ _ | refine zd ?_ | refine za ?_ _)); apply bp4; (with_reducible repeat (first | refine zn ?_ _ | refine zd ?_ | refine za ?_ _)); exact BK222.out) hb); replace HB := bls HB hb; (try clear hb); (try clear hb2); (try clear hk); (try clear hi); (try clear ho0)) | ((with_reducible refine gc_ (f := 37) rfl ?_); refine gL 63 Tryz.func37 #[.slice A2 l2.length c2] ?_; (with_reducible refine (bs_CopyValues.calls _ _ l2 t226 _ ?side1 ?side2 A25.out).mono ?_); (case side1 => repeat (first | exact (Kd.C_below HR2.out HB.out) | (with_reducible refine Kd.C_alloc ?_ _) | (with_reducible refine Kd.C_drewN ?_ _) | (with_reducible refine Kd.C_drew ?_))); (case side2 => exact HC2.out); rintro e w37 ⟨v227, rfl, ho0, hb⟩; refine ⟨_, rfl, ?_⟩; have HO228 := Zs.mk (Kd.R_lower (Kd.R_newB (Kd.R_new' (Kd.R_new' ho0 (Kd.R_lt (by (with_reducible repeat (first | apply Kd.R_alloc | apply Kd.R_drewN | apply Kd.R_drew)); exact HO216.out))) (Kd.R_lt (by (with_reducible repeat (first | apply Kd.R_alloc | apply Kd.R_drewN | apply Kd.R_drew)); exact HO225.out))) (g := gb222) (o := .cells #[.int .i64 t217, .int .u64 t218, .int .u64 t219, .string t220] 24 (0, 0)) (bks BK222).out) (below_size (blt HB).out)); replace HO216 := Zs.mk (Kd.R_elder' (by (with_reducible repeat (first | apply Kd.R_alloc | apply Kd.R_drewN | apply Kd.R_drew)); exact HO216.out) (Kd.R_base ho0) hb); replace HO225 := Zs.mk (Kd.R_elder' (by (with_reducible repeat (first | apply Kd.R_alloc | apply Kd.R_drewN | apply Kd.R_drew)); exact HO225.out) (Kd.R_base ho0) hb); replace BK222 := bkb BK222 hb; replace HB := bls HB hb; (try clear hb); (try clear hb2); (try clear hk); (try clear hi); (try clear ho0); obtain ⟨Ao38, co38, eo38⟩ := Kd.R_slice HO225.out; subst eo38; obtain ⟨Ao39, co39, eo39⟩ := Kd.R_slice HO228.out; subst eo39) | ((with_reducible refine gc_ (f := 38) rfl ?_); refine gL 64 Tryz.func38 #[.int .i64 a0, .slice Ao38 t223.length co38, .slice Ao39 t226.length co39] ?_; (with_reducible refine (cx_DotOf.calls k3 a0 _ _ t223 _ _ t226 t229 t230 t231 t232 t233 _ ?side1 ?side2 ?side3 ?side4 A26.out).mono ?_); (case side1 => repeat (first | exact (Kd.R_reads' HO225.out).2.2 | (with_reducible refine Kd.C_alloc ?_ _) | (with_reducible refine Kd.C_drewN ?_ _) | (with_reducible refine Kd.C_drew ?_))); (case side2 => exact (Kd.R_reads' HO225.out).2.1); (case side3 => repeat (first | exact (Kd.R_reads' HO228.out).2.2 | (with_reducible refine Kd.C_alloc ?_ _) | (with_reducible refine Kd.C_drewN ?_ _) | (with_reducible refine Kd.C_drew ?_))); (case side4 => exact (Kd.R_reads' HO228.out).2.1); rintro e w40 ⟨rfl, hb⟩; refine ⟨_, rfl, ?_⟩; replace HO216 := Zs.mk (Kd.R_below (by (with_reducible repeat (first | apply Kd.R_alloc | apply Kd.R_drewN | apply Kd.R_drew)); exact HO216.out) hb); replace HO225 := Zs.mk (Kd.R_below (by (with_reducible repeat (first | apply Kd.R_alloc | apply Kd.R_drewN | apply Kd.R_drew)); exact HO225.out) hb); replace HO228 := Zs.mk (Kd.R_below (by (with_reducible repeat (first | apply Kd.R_alloc | apply Kd.R_drewN | apply Kd.R_drew)); exact HO228.out) hb); replace BK222 := bkb BK222 hb; replace HB := bls HB hb; clear hb) | ((with_reducible refine gd_ (N := 11) rfl ?_); (try (refine gate_guard (by rfl) ?_; dsimp only)); refine bxe 11 (cs := #[.int .i64 0, .int .u64 0, .int .u64 0, .string (⟨#[]⟩ : ByteArray)]) (t := 24) ?_; intro gb234 hg w41 hbox hb; have BK234 := Zs.mk hbox; have GW234 := bsz HB hg; have GE234 := bsz HB hg; have NB222_234 := bnl BK222 hg; have NB234_222 := bng BK222 hg; replace HO216 := Zs.mk (Kd.R_below (Kd.R_elderB (by (with_reducible repeat (first | apply Kd.R_alloc | apply Kd.R_drewN | apply Kd.R_drew)); exact HO216.out) gb234 (Nat.le_of_eq hg.symm)) hb); replace HO225 := Zs.mk (Kd.R_below (Kd.R_elderB (by (with_reducible repeat (first | apply Kd.R_alloc | apply Kd.R_drewN | apply Kd.R_drew)); exact HO225.out) gb234 (Nat.le_of_eq hg.symm)) hb); replace HO228 := Zs.mk (Kd.R_below (Kd.R_elderB (by (with_reducible repeat (first | apply Kd.R_alloc | apply Kd.R_drewN | apply Kd.R_drew)); exact HO228.out) gb234 (Nat.le_of_eq hg.symm)) hb); replace BK222 := bkb BK222 hb; replace HB := bls HB hb; clear hb hbox hg; have hnb42 := NB234_222.out; have hnc42 := NB222_234.out; obtain ⟨hcz43_0, hcz43_1, hcz43_2, hcz43_3, hfz43_0, hfz43_1, hfz43_2, hfz43_3⟩ := cf4 BK234) | ((with_reducible refine gd_ (N := 13) rfl ?_); (try (refine gate_guard (by rfl) ?_; dsimp only)); refine bxe 13 (cs := #[.int .i64 0, .int .u64 0, .int .u64 0, .string (⟨#[]⟩ : ByteArray)]) (t := 24) ?_; intro gb235 hg w44 hbox hb; have BK235 := Zs.mk hbox; have GW235 := bsz HB hg; have GE235 := bsz HB hg; have NB222_235 := Zs.mk ((by rw [hg]; exact Nat.ne_of_lt (blk_lt (g := gb222) (o := .cells #[.int .i64 t217, .int .u64 t218, .int .u64 t219, .string t220] 24 (0, 0)) (bkf BK222).out) : gb222 ≠ gb235)); have NB235_222 := Zs.mk ((by rw [hg]; exact Nat.ne_of_gt (blk_lt (g := gb222) (o := .cells #[.int .i64 t217, .int .u64 t218, .int .u64 t219, .string t220] 24 (0, 0)) (bkf BK222).out) : gb235 ≠ gb222)); have NB234_235 := Zs.mk ((by rw [hg]; exact Nat.ne_of_lt (blk_lt (g := gb234) (o := .cells #[.int .i64 t229, .int .u64 t230, .int .u64 t231, .string t232] 24 (0, 0)) (by (with_reducible repeat (first | refine zn ?_ _ | refine zd ?_ | refine za ?_ _)); apply bp4; (with_reducible repeat (first | refine zn ?_ _ | refine zd ?_ | refine za ?_ _)); exact BK234.out)) : gb234 ≠ gb235)); have NB235_234 := Zs.mk ((by rw [hg]; exact Nat.ne_of_gt (blk_lt (g := gb234) (o := .cells #[.int .i64 t229, .int .u64 t230, .int .u64 t231, .string t232] 24 (0, 0)) (by (with_reducible repeat (first | refine zn ?_ _ | refine zd ?_ | refine za ?_ _)); apply bp4; (with_reducible repeat (first | refine zn ?_ _ | refine zd ?_ | refine za ?_ _)); exact BK234.out)) : gb235 ≠ gb234)); replace HO216 := Zs.mk (Kd.R_below (Kd.R_elderB (by (with_reducible repeat (first | apply Kd.R_alloc | apply Kd.R_drewN | apply Kd.R_drew)); exact (Kd.R_mono (Kd.R_far (p := ⟨gb234, 3, none⟩) (Kd.R_far (p := ⟨gb234, 2, none⟩) (Kd.R_far (p := ⟨gb234, 1, none⟩) (Kd.R_far (p := ⟨gb234, 0, none⟩) (Kd.R_mono HO216.out (fun k_ hk => (⟨hk, hk.2⟩ : _ ∧ k_ ≠ gb234))) (fun _ hk => hk.2) (.int .i64 t229)) (fun _ hk => hk.2) (.int .u64 t230)) (fun _ hk => hk.2) (.int .u64 t231)) (fun _ hk => hk.2) (.string t232)) (fun _ h_ => h_.1))) gb235 (Nat.le_of_eq hg.symm)) hb); replace HO225 := Zs.mk (Kd.R_below (Kd.R_elderB (by (with_reducible repeat (first | apply Kd.R_alloc | apply Kd.R_drewN | apply Kd.R_drew)); exact (Kd.R_mono (Kd.R_far (p := ⟨gb234, 3, none⟩) (Kd.R_far (p := ⟨gb234, 2, none⟩) (Kd.R_far (p := ⟨gb234, 1, none⟩) (Kd.R_far (p := ⟨gb234, 0, none⟩) (Kd.R_mono HO225.out (fun k_ hk => (⟨hk, hk.2⟩ : _ ∧ k_ ≠ gb234))) (fun _ hk => hk.2) (.int .i64 t229)) (fun _ hk => hk.2) (.int .u64 t230)) (fun _ hk => hk.2) (.int .u64 t231)) (fun _ hk => hk.2) (.string t232)) (fun _ h_ => h_.1))) gb235 (Nat.le_of_eq hg.symm)) hb); replace HO228 := Zs.mk (Kd.R_below (Kd.R_elderB (by (with_reducible repeat (first | apply Kd.R_alloc | apply Kd.R_drewN | apply Kd.R_drew)); exact (Kd.R_mono (Kd.R_far (p := ⟨gb234, 3, none⟩) (Kd.R_far (p := ⟨gb234, 2, none⟩) (Kd.R_far (p := ⟨gb234, 1, none⟩) (Kd.R_far (p := ⟨gb234, 0, none⟩) (Kd.R_mono HO228.out (fun k_ hk => (⟨hk, hk.2⟩ : _ ∧ k_ ≠ gb234))) (fun _ hk => hk.2) (.int .i64 t229)) (fun _ hk => hk.2) (.int .u64 t230)) (fun _ hk => hk.2) (.int .u64 t231)) (fun _ hk => hk.2) (.string t232)) (fun _ h_ => h_.1))) gb235 (Nat.le_of_eq hg.symm)) hb); replace BK222 := bkfb BK222 hb; replace BK234 := Zs.mk (blk_below (g := gb234) (o := .cells #[.int .i64 t229, .int .u64 t230, .int .u64 t231, .string t232] 24 (0, 0)) (by (with_reducible repeat (first | refine zn ?_ _ | refine zd ?_ | refine za ?_ _)); apply bp4; (with_reducible repeat (first | refine zn ?_ _ | refine zd ?_ | refine za ?_ _)); exact BK234.out) hb); replace HB := bls HB hb; clear hb hbox hg; have hnb45 := NB235_222.out; have hnc45 := NB222_235.out; have hnb46 := NB235_234.out; have hnc46 := NB234_235.out; obtain ⟨hcz47_0, hcz47_1, hcz47_2, hcz47_3, hfz47_0, hfz47_1, hfz47_2, hfz47_3⟩ := cf4 BK235) | ((with_reducible refine gc_ (f := 39) rfl ?_); refine gLc 69 Tryz.func39 (r10_TypeErr.calls a0 t236 _ A27.out) (fun _ h_ => ?_); obtain ⟨nd, rfl⟩ := h_) | ((with_reducible refine gc_ (f := 40) rfl ?_); refine gL 95 Tryz.func40 #[.int .i64 a0, .slice A1 l1.length c1] ?_; (with_reducible refine (r10_ListErr.calls k3 a0 _ _ l1 t237 _ ?side1 ?side2 A29.out).mono ?_); (case side1 => exact Kd.C_below HR1.out (blt HB).out); (case side2 => exact HC1.out); rintro e w48 ⟨rfl, hb⟩; refine ⟨_, rfl, ?_⟩; replace HO216 := Zs.mk (Kd.R_below (by (with_reducible repeat (first | apply Kd.R_alloc | apply Kd.R_drewN | apply Kd.R_drew)); exact (Kd.R_mono (Kd.R_far (p := ⟨gb235, 3, none⟩) (Kd.R_far (p := ⟨gb235, 2, none⟩) (Kd.R_far (p := ⟨gb235, 1, none⟩) (Kd.R_far (p := ⟨gb235, 0, none⟩) (Kd.R_mono HO216.out (fun k_ hk => (⟨hk, hk.2⟩ : _ ∧ k_ ≠ gb235))) (fun _ hk => hk.2) (.int .i64 0)) (fun _ hk => hk.2) (.int .u64 0)) (fun _ hk => hk.2) (.int .u64 0)) (fun _ hk => hk.2) (.string (⟨#[]⟩ : ByteArray))) (fun _ h_ => h_.1))) hb); replace HO225 := Zs.mk (Kd.R_below (by (with_reducible repeat (first | apply Kd.R_alloc | apply Kd.R_drewN | apply Kd.R_drew)); exact (Kd.R_mono (Kd.R_far (p := ⟨gb235, 3, none⟩) (Kd.R_far (p := ⟨gb235, 2, none⟩) (Kd.R_far (p := ⟨gb235, 1, none⟩) (Kd.R_far (p := ⟨gb235, 0, none⟩) (Kd.R_mono HO225.out (fun k_ hk => (⟨hk, hk.2⟩ : _ ∧ k_ ≠ gb235))) (fun _ hk => hk.2) (.int .i64 0)) (fun _ hk => hk.2) (.int .u64 0)) (fun _ hk => hk.2) (.int .u64 0)) (fun _ hk => hk.2) (.string (⟨#[]⟩ : ByteArray))) (fun _ h_ => h_.1))) hb); replace HO228 := Zs.mk (Kd.R_below (by (with_reducible repeat (first | apply Kd.R_alloc | apply Kd.R_drewN | apply Kd.R_drew)); exact (Kd.R_mono (Kd.R_far (p := ⟨gb235, 3, none⟩) (Kd.R_far (p := ⟨gb235, 2, none⟩) (Kd.R_far (p := ⟨gb235, 1, none⟩) (Kd.R_far (p := ⟨gb235, 0, none⟩) (Kd.R_mono HO228.out (fun k_ hk => (⟨hk, hk.2⟩ : _ ∧ k_ ≠ gb235))) (fun _ hk => hk.2) (.int .i64 0)) (fun _ hk => hk.2) (.int .u64 0)) (fun _ hk => hk.2) (.int .u64 0)) (fun _ hk => hk.2) (.string (⟨#[]⟩ : ByteArray))) (fun _ h_ => h_.1))) hb); replace BK222 := bkfb BK222 hb; replace BK234 := bkfb BK234 hb; replace BK235 := Zs.mk (blk_below (g := gb235) (o := .cells #[.int .i64 0, .int .u64 0, .int .u64 0, .string (⟨#[]⟩ : ByteArray)] 24 (0, 0)) (by (with_reducible repeat (first | refine zn ?_ _ | refine zd ?_ | refine za ?_ _)); apply bp4; (with_reducible repeat (first | refine zn ?_ _ | refine zd ?_ | refine za ?_ _)); exact BK235.out) hb); replace HB := bls HB hb; clear hb))
            (try simp only [Act.put, List.setIfInBounds_toArray, List.set_cons_zero, List.set_cons_succ])
            obtain ⟨lb_, hlb_⟩ : ∃ b_ : Bool, decide (40 < (l1.length : Int)) = b_ := ⟨_, rfl⟩
            rw [hlb_]
            go_cut [16] (fun v16 wc => ∃ (kq : Nat) (x16_29 : Int), v16 = .int .i64 x16_29 ∧ Zs (l10_ComplexesSums.j3 kq a0 l1 l2 t221 t233 x16_29 t217 t218 t219 t220 t229 t230 t231 t232 0 0 0 (⟨#[]⟩ : ByteArray) = some true) ∧ Zs (kq ≤ k3) ∧ Zs (wc.heap[gb222]? = some (.cells #[.int .i64 t217, .int .u64 t218, .int .u64 t219, .string t220] 24 (0, 0))) ∧ Zs (wc.heap[gb234]? = some (.cells #[.int .i64 t229, .int .u64 t230, .int .u64 t231, .string t232] 24 (0, 0))) ∧ Zs (wc.heap[gb235]? = some (.cells #[.int .i64 0, .int .u64 0, .int .u64 0, .string (⟨#[]⟩ : ByteArray)] 24 (0, 0))) ∧ Zs (Below w.heap.size w wc))
            case first =>
             have H := HC30.out
             clear HC30
             by_cases c49 : (l1.length : Int) > 40
             ·rw [if_pos c49] at H
              have c49b0 : decide (40 < (l1.length : Int)) = true := decide_eq_true c49
              have c49b1 : decide (40 < l1.length) = true := decide_eq_true (by omega)
              clear c49
              obtain rfl : lb_ = true := hlb_.symm.trans c49b0
              have H' := Zs.mk H
              clear H
              go_wp2
              go_meet
              case rel => exact ⟨_, (8), (by first | rfl | (simp; done) | (simp [*]; done)), H', ⟨by have := HJ5.out; have := HK2.out; have := HK3.out; first | omega | exact Nat.le_refl _⟩, bks BK222, bks BK234, bks BK235, blt HB⟩
             ·rw [if_neg c49] at H
              have c49b0 : decide (40 < (l1.length : Int)) = false := decide_eq_false c49
              have c49b1 : decide (40 < l1.length) = false := decide_eq_false (by omega)
              clear c49
              obtain rfl : lb_ = false := hlb_.symm.trans c49b0
              have H' := Zs.mk H
              clear H
              go_wp2
              go_meet
              case rel => exact ⟨_, (t237), (by first | rfl | (simp; done) | (simp [*]; done)), H', ⟨by have := HJ5.out; have := HK2.out; have := HK3.out; first | omega | exact Nat.le_refl _⟩, bks BK222, bks BK234, bks BK235, blt HB⟩
            case rest =>
             clear HC30
             try clear c1
             try clear c2
             try clear p2
             try clear q2
             try clear hx2
             try clear c3
             try clear c4
             try clear c5
             try clear p6
             try clear c7
             try clear c8
             try clear c8b0
             try clear c8b1
             try clear c9
             try clear c10
             try clear c10b0
             try clear c11
             try clear c11b0
             try clear c13
             try clear c16
             try clear c16b0
             try clear c17
             try clear c17b0
             try clear c19
             try clear p21
             try clear q21
             try clear hx21
             try clear c28
             try clear c28b0
             try clear c28b1
             try clear c36
             try clear c37
             try clear c38
             try clear c39
             try clear c40
             try clear c42
             try clear c45
             try clear c46
             try clear c49
             try clear c49b0
             try clear c49b1
             try clear hcz35_0
             try clear hcz35_1
             try clear hcz35_2
             try clear hcz35_3
             try clear hcz43_0
             try clear hcz43_1
             try clear hcz43_2
             try clear hcz43_3
             try clear hcz47_0
             try clear hcz47_1
             try clear hcz47_2
             try clear hcz47_3
             try clear hfz35_0
             try clear hfz35_1
             try clear hfz35_2
             try clear hfz35_3
             try clear hfz43_0
             try clear hfz43_1
             try clear hfz43_2
             try clear hfz43_3
             try clear hfz47_0
             try clear hfz47_1
             try clear hfz47_2
             try clear hfz47_3
             try clear hx210_0
             try clear hx210_1
             try clear hx210_2
             try clear hx210_3
             try clear hx212_0
             try clear hx212_1
             try clear hx212_2
             try clear hx212_3
             try clear p2
             try clear p210
             try clear p212
             try clear p6
             try clear q2
             try clear q210
             try clear q212
             obtain ⟨kq, x16_29, rfl, HA, HJ29, BK222, BK234, BK235, HB⟩ := hcut
             cases kq with
             | zero => exact absurd HA.out (by simp [l10_ComplexesSums.j3])
             | succ kj29 =>
              have H := HA.out
              clear HA
              simp only [l10_ComplexesSums.j3] at H
              have HC50 := Zs.mk H
              clear H
              go_upto_region 25 with (fail)
              go_cut [123] (fun v123 wc => ∃ (kq : Nat) (x123_49 : Bool), v123 = .bool x123_49 ∧ Zs (l10_ComplexesSums.j4 kq a0 l1 l2 t233 x16_29 x123_49 t229 t230 t231 t232 0 0 0 (⟨#[]⟩ : ByteArray) = some true) ∧ Zs (kq ≤ kj29) ∧ Zs (wc.heap[gb222]? = some (.cells #[.int .i64 t217, .int .u64 t218, .int .u64 t219, .string t220] 24 (0, 0))) ∧ Zs (wc.heap[gb234]? = some (.cells #[.int .i64 t229, .int .u64 t230, .int .u64 t231, .string t232] 24 (0, 0))) ∧ Zs (wc.heap[gb235]? = some (.cells #[.int .i64 0, .int .u64 0, .int .u64 0, .string (⟨#[]⟩ : ByteArray)] 24 (0, 0))) ∧ Zs (Below w.heap.size w wc))
              case first =>
               have H := HC50.out
               clear HC50
               by_cases c51 : x16_29 = 0
               ·rw [if_pos c51] at H
                have c51b0 : (x16_29 == 0) = true := beq_iff_eq.mpr c51
                have c51b1 : (x16_29 != 0) = false := bne_eq_false_iff_eq.mpr c51
                clear c51
                (first | rw [c51b0] | (simp only [i64_w, i32_w]; rw [c51b0]) | skip)
                by_cases c52 : t221 = 0
                ·rw [if_pos c52] at H
                 have c52b0 : (t221 == 0) = true := beq_iff_eq.mpr c52
                 have c52b1 : (t221 != 0) = false := bne_eq_false_iff_eq.mpr c52
                 clear c52
                 replace H := Option.bind_eq_some_iff.mp H
                 obtain ⟨⟨t238, t239, t240, t241⟩, A53, H⟩ := H
                 try dsimp only at H
                 replace A53 := Zs.mk A53
                 have H' := Zs.mk H
                 clear H
                 try go_wp2
                 replace BK222 := Zs.mk (zd BK222.out)
                 replace BK234 := Zs.mk (zd BK234.out)
                 replace BK235 := Zs.mk (zd BK235.out)
                 replace HB := Zs.mk (below_drew1 HB.out)
                 refine start_ (n := 27) (S := fun w' => w'.cell? ⟨gb222, 0, none⟩ = some (.int .i64 t217) ∧ w'.cell? ⟨gb222, 1, none⟩ = some (.int .u64 t218) ∧ w'.cell? ⟨gb222, 2, none⟩ = some (.int .u64 t219) ∧ w'.cell? ⟨gb222, 3, none⟩ = some (.string t220)) (ds := []) #[false, false, false, false, false, false, false, false, false, false, false, false, false, false, false, false, false, false, false, false, false, false, false, false, false, false, false] (by kernel_rfl) rfl rfl (cf4c BK222) (fun hHeld => ?_); refine with_tabW l10_ComplexesSums.tab25 l10_ComplexesSums.bits25 (fun HT_ HW_ => ?_)
                 generalize wc.drew = w54 at BK222 BK234 BK235 HB hHeld ⊢
                 refine pu 0 97 HT_ ?_
                 refine pu 1 98 HT_ ?_
                 refine pu 2 99 HT_ ?_
                 refine pn 3 100 HT_ ?_
                 refine pn 4 101 HT_ ?_
                 refine pn 5 102 HT_ ?_
                 refine pn 6 103 HT_ ?_
                 refine pn 7 104 HT_ ?_
                 refine pn 8 105 HT_ ?_
                 refine pn 9 106 HT_ ?_
                 refine pn 10 107 HT_ ?_
                 refine pu 11 108 HT_ ?_
                 refine pu 12 109 HT_ ?_
                 refine pu 13 110 HT_ ?_
                 refine pu 14 111 HT_ ?_
                 refine pu 15 112 HT_ ?_
                 refine pu 16 113 HT_ ?_
                 refine pu 17 114 HT_ ?_
                 refine pu 18 115 HT_ ?_
                 refine pu 20 117 HT_ ?_
                 refine pu 21 118 HT_ ?_
                 refine tk 19 116 HT_ HW_ hHeld ?_
                 refine on 22 119 HT_ (fun K hK => ?_)
                 refine goes_ Tryz.func41 (by kernel_rfl) rfl #[.int .i64 a0, .slice A1 l1.length c1] (by rfl) rfl rfl (by (try simp only [List.map_toArray, List.map_cons, List.map_nil]); first | done | rfl | (simp only [List.length_drop, List.length_take]; rfl)) ?_
                 with_reducible refine (r10_Sum.calls kj29 a0 _ _ l1 t238 t239 t240 t241 _ ?side1 ?side2 A53.out).mono ?_
                 (case side1 => repeat (first | exact (Kd.C_below HR1.out HB.out) | (with_reducible refine Kd.C_alloc ?_ _) | (with_reducible refine Kd.C_drewN ?_ _) | (with_reducible refine Kd.C_drew ?_)))
                 (case side2 => exact HC1.out)
                 rintro e w55 ⟨rfl, hb⟩
                 refine ⟨_, rfl, ?_⟩
                 replace BK222 := bkb BK222 hb
                 replace BK234 := bkb BK234 hb
                 replace BK235 := bkb BK235 hb
                 replace HB := bls HB hb
                 (try clear hb)
                 (try clear hb2)
                 (try clear hk)
                 (try clear hi)
                 refine hK.out _ _ (cf4c BK222) (fun hHeld => ?_)
                 clear hK K
                 refine nm 119 ?_
                 refine pu 23 120 HT_ ?_
                 refine pu 24 121 HT_ ?_
                 refine pu 25 122 HT_ ?_
                 refine pu 26 123 HT_ ?_
                 refine done_ (done_of HT_.out (by kernel_rfl)) ?_
                 try go_wp2
                 go_meet
                 case rel => exact ⟨_, ((!(t217 == t238) || (!(t218 == t239) || (!(t219 == t240) || (!(t220.toList == t241.toList)))))), (by first | rfl | (simp; done) | (simp [*]; done)), H', ⟨by have := HJ5.out; have := HK2.out; have := HK3.out; have := HJ29.out; first | omega | exact Nat.le_refl _⟩, bks BK222, bks BK234, bks BK235, blt HB⟩
                ·rw [if_neg c52] at H
                 have c52b0 : (t221 == 0) = false := beq_eq_false_iff_ne.mpr c52
                 have c52b1 : (t221 != 0) = true := bne_iff_ne.mpr c52
                 exact absurd H (by first | decide | (cases kj29 <;> simp [l10_ComplexesSums.j0, l10_ComplexesSums.l0, l10_ComplexesSums.l1, l10_ComplexesSums.j3, l10_ComplexesSums.j4]))
               ·rw [if_neg c51] at H
                have c51b0 : (x16_29 == 0) = false := beq_eq_false_iff_ne.mpr c51
                have c51b1 : (x16_29 != 0) = true := bne_iff_ne.mpr c51
                (first | rw [c51b0] | (simp only [i64_w, i32_w]; rw [c51b0]) | skip)
                by_cases c56 : t221 = x16_29
                ·rw [if_pos c56] at H
                 have c56b0 : (t221 == x16_29) = true := beq_iff_eq.mpr c56
                 have c56b1 : (t221 != x16_29) = false := bne_eq_false_iff_eq.mpr c56
                 clear c56
                 by_cases c57 : (!(t217 == 0) || (!(t218 == 0) || (!(t219 == 0) || (!(t220.toList == (⟨#[]⟩ : ByteArray).toList))))) = true
                 ·rw [if_pos c57] at H
                  have c57b0 : (!(t217 == 0) || (!(t218 == 0) || (!(t219 == 0) || (!(t220.toList == (⟨#[]⟩ : ByteArray).toList))))) = true := c57
                  have c57b0z := c57b0
                  simp only [show ((⟨#[]⟩ : ByteArray).toList) = ([] : List UInt8) from by simp [ByteArray.toList, ByteArray.toList.loop, ByteArray.size], beqn] at c57b0z
                  clear c57
                  exact absurd H (by first | decide | (cases kj29 <;> simp [l10_ComplexesSums.j0, l10_ComplexesSums.l0, l10_ComplexesSums.l1, l10_ComplexesSums.j3, l10_ComplexesSums.j4]))
                 ·rw [if_neg c57] at H
                  have c57b0 : (!(t217 == 0) || (!(t218 == 0) || (!(t219 == 0) || (!(t220.toList == (⟨#[]⟩ : ByteArray).toList))))) = false := by simpa using c57
                  have c57b0z := c57b0
                  simp only [show ((⟨#[]⟩ : ByteArray).toList) = ([] : List UInt8) from by simp [ByteArray.toList, ByteArray.toList.loop, ByteArray.size], beqn] at c57b0z
                  clear c57
                  have H' := Zs.mk H
                  clear H
                  try go_wp2
                  replace BK222 := Zs.mk (zd BK222.out)
                  replace BK234 := Zs.mk (zd BK234.out)
                  replace BK235 := Zs.mk (zd BK235.out)
                  replace HB := Zs.mk (below_drew1 HB.out)
                  refine start_ (n := 27) (S := fun w' => w'.cell? ⟨gb222, 0, none⟩ = some (.int .i64 t217) ∧ w'.cell? ⟨gb222, 1, none⟩ = some (.int .u64 t218) ∧ w'.cell? ⟨gb222, 2, none⟩ = some (.int .u64 t219) ∧ w'.cell? ⟨gb222, 3, none⟩ = some (.string t220) ∧ w'.cell? ⟨gb235, 0, none⟩ = some (.int .i64 0) ∧ w'.cell? ⟨gb235, 1, none⟩ = some (.int .u64 0) ∧ w'.cell? ⟨gb235, 2, none⟩ = some (.int .u64 0) ∧ w'.cell? ⟨gb235, 3, none⟩ = some (.string (⟨#[]⟩ : ByteArray))) (ds := []) #[false, false, false, false, false, false, false, false, false, false, false, false, false, false, false, false, false, false, false, false, false, false, false, false, false, false, false] (by kernel_rfl) rfl rfl ⟨(zc BK222.out 0).trans rfl, (zc BK222.out 1).trans rfl, (zc BK222.out 2).trans rfl, (zc BK222.out 3).trans rfl, (zc BK235.out 0).trans rfl, (zc BK235.out 1).trans rfl, (zc BK235.out 2).trans rfl, (zc BK235.out 3).trans rfl⟩ (fun hHeld => ?_); refine with_tabW l10_ComplexesSums.tab25 l10_ComplexesSums.bits25 (fun HT_ HW_ => ?_)
                  generalize wc.drew = w58 at BK222 BK234 BK235 HB hHeld ⊢
                  refine pu 0 97 HT_ ?_
                  refine pu 1 98 HT_ ?_
                  refine pu 2 99 HT_ ?_
                  refine pu 3 100 HT_ ?_
                  refine pu 4 101 HT_ ?_
                  refine pu 5 102 HT_ ?_
                  refine pu 6 103 HT_ ?_
                  refine tk 7 104 HT_ HW_ hHeld ?_
                  refine tk 8 105 HT_ HW_ hHeld ?_
                  refine pu 9 106 HT_ ?_
                  refine pu 10 107 HT_ ?_
                  refine pu 11 108 HT_ ?_
                  refine pu 12 109 HT_ ?_
                  refine pu 13 110 HT_ ?_
                  refine pu 14 111 HT_ ?_
                  refine pu 15 112 HT_ ?_
                  refine pn 16 113 HT_ ?_
                  refine pn 17 114 HT_ ?_
                  refine pn 18 115 HT_ ?_
                  refine pn 19 116 HT_ ?_
                  refine pn 20 117 HT_ ?_
                  refine pn 21 118 HT_ ?_
                  refine pn 22 119 HT_ ?_
                  refine pn 23 120 HT_ ?_
                  refine pn 24 121 HT_ ?_
                  refine pu 25 122 HT_ ?_
                  refine pu 26 123 HT_ ?_
                  refine done_ (done_of HT_.out (by kernel_rfl)) ?_
                  try go_wp2
                  go_meet
                  case rel => exact ⟨_, (false), (by first | rfl | (simp; done) | (simp [*]; done)), H', ⟨by have := HJ5.out; have := HK2.out; have := HK3.out; have := HJ29.out; first | omega | exact Nat.le_refl _⟩, bks BK222, bks BK234, bks BK235, blt HB⟩
                ·rw [if_neg c56] at H
                 have c56b0 : (t221 == x16_29) = false := beq_eq_false_iff_ne.mpr c56
                 have c56b1 : (t221 != x16_29) = true := bne_iff_ne.mpr c56
                 exact absurd H (by first | decide | (cases kj29 <;> simp [l10_ComplexesSums.j0, l10_ComplexesSums.l0, l10_ComplexesSums.l1, l10_ComplexesSums.j3, l10_ComplexesSums.j4]))
              case rest =>
               clear HC50
               try clear c1
               try clear c2
               try clear p2
               try clear q2
               try clear hx2
               try clear c3
               try clear c4
               try clear c5
               try clear p6
               try clear c7
               try clear c8
               try clear c8b0
               try clear c8b1
               try clear c9
               try clear c10
               try clear c10b0
               try clear c11
               try clear c11b0
               try clear c13
               try clear c16
               try clear c16b0
               try clear c17
               try clear c17b0
               try clear c19
               try clear p21
               try clear q21
               try clear hx21
               try clear c28
               try clear c28b0
               try clear c28b1
               try clear c36
               try clear c37
               try clear c38
               try clear c39
               try clear c40
               try clear c41
               try clear c42
               try clear c45
               try clear c46
               try clear c49
               try clear c49b0
               try clear c49b1
               try clear c51
               try clear c51b0
               try clear c51b1
               try clear c52
               try clear c52b0
               try clear c52b1
               try clear c56
               try clear c56b0
               try clear c56b1
               try clear c57
               try clear c57b0
               try clear hcz35_0
               try clear hcz35_1
               try clear hcz35_2
               try clear hcz35_3
               try clear hcz43_0
               try clear hcz43_1
               try clear hcz43_2
               try clear hcz43_3
               try clear hcz47_0
               try clear hcz47_1
               try clear hcz47_2
               try clear hcz47_3
               try clear hfz35_0
               try clear hfz35_1
               try clear hfz35_2
               try clear hfz35_3
               try clear hfz43_0
               try clear hfz43_1
               try clear hfz43_2
               try clear hfz43_3
               try clear hfz47_0
               try clear hfz47_1
               try clear hfz47_2
               try clear hfz47_3
               try clear hx210_0
               try clear hx210_1
               try clear hx210_2
               try clear hx210_3
               try clear hx212_0
               try clear hx212_1
               try clear hx212_2
               try clear hx212_3
               try clear p2
               try clear p21
               try clear p210
               try clear p212
               try clear p6
               try clear q2
               try clear q21
               try clear q210
               try clear q212
               obtain ⟨kq, x123_49, rfl, HA, HJ49, BK222, BK234, BK235, HB⟩ := hcut
               cases kq with
               | zero => exact absurd HA.out (by simp [l10_ComplexesSums.j4])
               | succ kj49 =>
                have H := HA.out
                clear HA
                simp only [l10_ComplexesSums.j4] at H
                by_cases c59 : x123_49 = true
                ·subst c59
                 rw [if_pos rfl] at H
                 exact absurd H (by first | decide | (cases kj49 <;> simp [l10_ComplexesSums.j0, l10_ComplexesSums.l0, l10_ComplexesSums.l1, l10_ComplexesSums.j3, l10_ComplexesSums.j4]))
                ·replace c59 := Bool.eq_false_iff.mpr c59
                 subst c59
                 rw [if_neg (show ¬ (false = true) by decide)] at H
                 by_cases c60 : (l1.length : Int) = (l2.length : Int)
                 ·rw [if_pos c60] at H
                  have c60b0 : ((l1.length : Int) == (l2.length : Int)) = true := beq_iff_eq.mpr c60
                  have c60b1 : ((l1.length : Int) != (l2.length : Int)) = false := bne_eq_false_iff_eq.mpr c60
                  have c60b2 : (l1.length == l2.length) = true := by first | simpa using c60 | (simp at c60 ⊢; omega)
                  clear c60
                  by_cases c61 : x16_29 = 0
                  ·rw [if_pos c61] at H
                   have c61b0 : (x16_29 == 0) = true := beq_iff_eq.mpr c61
                   have c61b1 : (x16_29 != 0) = false := bne_eq_false_iff_eq.mpr c61
                   clear c61
                   replace H := Option.bind_eq_some_iff.mp H
                   obtain ⟨t242, A62, H⟩ := H
                   try dsimp only at H
                   replace A62 := Zs.mk A62
                   by_cases c63 : t242 = 0
                   ·rw [if_pos c63] at H
                    have c63b0 : (t242 == 0) = true := beq_iff_eq.mpr c63
                    have c63b1 : (t242 != 0) = false := bne_eq_false_iff_eq.mpr c63
                    clear c63
                    by_cases c64 : t233 = 0
                    ·rw [if_pos c64] at H
                     have c64b0 : (t233 == 0) = true := beq_iff_eq.mpr c64
                     have c64b1 : (t233 != 0) = false := bne_eq_false_iff_eq.mpr c64
                     clear c64
                     replace H := Option.bind_eq_some_iff.mp H
                     obtain ⟨⟨t243, t244, t245, t246⟩, A65, H⟩ := H
                     try dsimp only at H
                     replace A65 := Zs.mk A65
                     have HR_ := Option.some.inj H
                     clear H
                     have HRz_ := HR_
                     (try simp only [show ((⟨#[]⟩ : ByteArray).toList) = ([] : List UInt8) from by simp [ByteArray.toList, ByteArray.toList.loop, ByteArray.size]] at HRz_)
                     (try simp only [beqn] at HRz_)
                     try go_wp2_with (first | ((with_reducible refine gc_ (f := 40) rfl ?_); refine gL 133 Tryz.func40 #[.int .i64 a0, .slice A2 l2.length c2] ?_; (with_reducible refine (r10_ListErr.calls kj49 a0 _ _ l2 t242 _ ?side1 ?side2 A62.out).mono ?_); (case side1 => repeat (first | exact (Kd.C_below HR2.out HB.out) | (with_reducible refine Kd.C_alloc ?_ _) | (with_reducible refine Kd.C_drewN ?_ _) | (with_reducible refine Kd.C_drew ?_))); (case side2 => exact HC2.out); rintro e w66 ⟨rfl, hb⟩; refine ⟨_, rfl, ?_⟩; replace BK222 := bkb BK222 hb; replace BK234 := bkb BK234 hb; replace BK235 := bkb BK235 hb; replace HB := bls HB hb; clear hb))
                     replace BK222 := Zs.mk (zd BK222.out)
                     replace BK234 := Zs.mk (zd BK234.out)
                     replace BK235 := Zs.mk (zd BK235.out)
                     replace HB := Zs.mk (below_drew1 HB.out)
                     refine start_ (n := 11) (S := fun w' => w'.cell? ⟨gb234, 0, none⟩ = some (.int .i64 t229) ∧ w'.cell? ⟨gb234, 1, none⟩ = some (.int .u64 t230) ∧ w'.cell? ⟨gb234, 2, none⟩ = some (.int .u64 t231) ∧ w'.cell? ⟨gb234, 3, none⟩ = some (.string t232)) (ds := []) #[false, false, false, false, false, false, false, false, false, false, false] (by kernel_rfl) rfl rfl (cf4c BK234) (fun hHeld => ?_); refine with_tabW l10_ComplexesSums.tab33 l10_ComplexesSums.bits33 (fun HT_ HW_ => ?_)
                     generalize w66.drew = w67 at BK222 BK234 BK235 HB hHeld ⊢
                     refine pu 0 144 HT_ ?_
                     refine pu 1 145 HT_ ?_
                     refine pu 2 146 HT_ ?_
                     refine pu 4 148 HT_ ?_
                     refine pu 5 149 HT_ ?_
                     refine pu 6 150 HT_ ?_
                     refine tk 3 147 HT_ HW_ hHeld ?_
                     refine on 7 151 HT_ (fun K hK => ?_)
                     refine goes_ Tryz.func42 (by kernel_rfl) rfl #[.int .i64 a0, .slice A1 l1.length c1, .slice A2 l2.length c2] (by rfl) rfl rfl (by (try simp only [List.map_toArray, List.map_cons, List.map_nil]); first | done | rfl | (simp only [List.length_drop, List.length_take]; rfl)) ?_
                     with_reducible refine (r10_Dot.calls kj49 a0 _ _ l1 _ _ l2 t243 t244 t245 t246 _ ?side1 ?side2 ?side3 ?side4 A65.out).mono ?_
                     (case side1 => repeat (first | exact (Kd.C_below HR1.out HB.out) | (with_reducible refine Kd.C_alloc ?_ _) | (with_reducible refine Kd.C_drewN ?_ _) | (with_reducible refine Kd.C_drew ?_)))
                     (case side2 => exact HC1.out)
                     (case side3 => repeat (first | exact (Kd.C_below HR2.out HB.out) | (with_reducible refine Kd.C_alloc ?_ _) | (with_reducible refine Kd.C_drewN ?_ _) | (with_reducible refine Kd.C_drew ?_)))
                     (case side4 => exact HC2.out)
                     rintro e w68 ⟨rfl, hb⟩
                     refine ⟨_, rfl, ?_⟩
                     replace BK222 := bkb BK222 hb
                     replace BK234 := bkb BK234 hb
                     replace BK235 := bkb BK235 hb
                     replace HB := bls HB hb
                     (try clear hb)
                     (try clear hb2)
                     (try clear hk)
                     (try clear hi)
                     refine hK.out _ _ (cf4c BK234) (fun hHeld => ?_)
                     clear hK K
                     refine nm 151 ?_
                     refine pu 8 152 HT_ ?_
                     refine pu 9 153 HT_ ?_
                     refine pu 10 6 HT_ ?_
                     refine done_ (done_of HT_.out (by kernel_rfl)) ?_
                     try go_wp2
                     go_ret
                     exact ⟨by first | rfl | (rw [HR_]; done) | (rw [HRz_]; done) | (simp only [HR_]; done) | (simp [errW_none, errW_some] <;> rfl) | (simp [*, errW_none, errW_some] <;> rfl), (blt HB).out⟩
                    ·rw [if_neg c64] at H
                     have c64b0 : (t233 == 0) = false := beq_eq_false_iff_ne.mpr c64
                     have c64b1 : (t233 != 0) = true := bne_iff_ne.mpr c64
                     exact absurd H (by first | decide | (cases kj49 <;> simp [l10_ComplexesSums.j0, l10_ComplexesSums.l0, l10_ComplexesSums.l1, l10_ComplexesSums.j3, l10_ComplexesSums.j4]))
                   ·rw [if_neg c63] at H
                    have c63b0 : (t242 == 0) = false := beq_eq_false_iff_ne.mpr c63
                    have c63b1 : (t242 != 0) = true := bne_iff_ne.mpr c63
                    by_cases c69 : t233 = t242
                    ·rw [if_pos c69] at H
                     have c69b0 : (t233 == t242) = true := beq_iff_eq.mpr c69
                     have c69b1 : (t233 != t242) = false := bne_eq_false_iff_eq.mpr c69
                     clear c69
                     have HR_ := Option.some.inj H
                     clear H
                     have HRz_ := HR_
                     (try simp only [show ((⟨#[]⟩ : ByteArray).toList) = ([] : List UInt8) from by simp [ByteArray.toList, ByteArray.toList.loop, ByteArray.size]] at HRz_)
                     (try simp only [beqn] at HRz_)
                     go_wp2_with (first | ((with_reducible refine gc_ (f := 40) rfl ?_); refine gL 133 Tryz.func40 #[.int .i64 a0, .slice A2 l2.length c2] ?_; (with_reducible refine (r10_ListErr.calls kj49 a0 _ _ l2 t242 _ ?side1 ?side2 A62.out).mono ?_); (case side1 => repeat (first | exact (Kd.C_below HR2.out HB.out) | (with_reducible refine Kd.C_alloc ?_ _) | (with_reducible refine Kd.C_drewN ?_ _) | (with_reducible refine Kd.C_drew ?_))); (case side2 => exact HC2.out); rintro e w70 ⟨rfl, hb⟩; refine ⟨_, rfl, ?_⟩; replace BK222 := bkb BK222 hb; replace BK234 := bkb BK234 hb; replace BK235 := bkb BK235 hb; replace HB := bls HB hb; clear hb; have hnb71 := NB234_222.out; have hnc71 := NB222_234.out; have hnb72 := NB234_235.out; have hnc72 := NB235_234.out; obtain ⟨hcz73_0, hcz73_1, hcz73_2, hcz73_3, hfz73_0, hfz73_1, hfz73_2, hfz73_3⟩ := cf4 BK234; have hnb74 := NB235_222.out; have hnc74 := NB222_235.out; obtain ⟨hcz75_0, hcz75_1, hcz75_2, hcz75_3, hfz75_0, hfz75_1, hfz75_2, hfz75_3⟩ := cf4 BK235))
                     go_ret
                     exact ⟨by first | rfl | (rw [HR_]; done) | (rw [HRz_]; done) | (simp only [HR_]; done) | (simp [errW_none, errW_some] <;> rfl) | (simp [*, errW_none, errW_some] <;> rfl), (blt HB).out⟩
                    ·rw [if_neg c69] at H
                     have c69b0 : (t233 == t242) = false := beq_eq_false_iff_ne.mpr c69
                     have c69b1 : (t233 != t242) = true := bne_iff_ne.mpr c69
                     exact absurd H (by first | decide | (cases kj49 <;> simp [l10_ComplexesSums.j0, l10_ComplexesSums.l0, l10_ComplexesSums.l1, l10_ComplexesSums.j3, l10_ComplexesSums.j4]))
                  ·rw [if_neg c61] at H
                   have c61b0 : (x16_29 == 0) = false := beq_eq_false_iff_ne.mpr c61
                   have c61b1 : (x16_29 != 0) = true := bne_iff_ne.mpr c61
                   by_cases c76 : t233 = x16_29
                   ·rw [if_pos c76] at H
                    have c76b0 : (t233 == x16_29) = true := beq_iff_eq.mpr c76
                    have c76b1 : (t233 != x16_29) = false := bne_eq_false_iff_eq.mpr c76
                    clear c76
                    have HR_ := Option.some.inj H
                    clear H
                    have HRz_ := HR_
                    (try simp only [show ((⟨#[]⟩ : ByteArray).toList) = ([] : List UInt8) from by simp [ByteArray.toList, ByteArray.toList.loop, ByteArray.size]] at HRz_)
                    (try simp only [beqn] at HRz_)
                    have hnb77 := NB234_222.out
                    have hnc77 := NB222_234.out
                    have hnb78 := NB234_235.out
                    have hnc78 := NB235_234.out
                    obtain ⟨hcz79_0, hcz79_1, hcz79_2, hcz79_3, hfz79_0, hfz79_1, hfz79_2, hfz79_3⟩ := cf4 BK234
                    have hnb80 := NB235_222.out
                    have hnc80 := NB222_235.out
                    obtain ⟨hcz81_0, hcz81_1, hcz81_2, hcz81_3, hfz81_0, hfz81_1, hfz81_2, hfz81_3⟩ := cf4 BK235
                    go_wp2
                    go_ret
                    exact ⟨by first | rfl | (rw [HR_]; done) | (rw [HRz_]; done) | (simp only [HR_]; done) | (simp [errW_none, errW_some] <;> rfl) | (simp [*, errW_none, errW_some] <;> rfl), (blt HB).out⟩
                   ·rw [if_neg c76] at H
                    have c76b0 : (t233 == x16_29) = false := beq_eq_false_iff_ne.mpr c76
                    have c76b1 : (t233 != x16_29) = true := bne_iff_ne.mpr c76
                    exact absurd H (by first | decide | (cases kj49 <;> simp [l10_ComplexesSums.j0, l10_ComplexesSums.l0, l10_ComplexesSums.l1, l10_ComplexesSums.j3, l10_ComplexesSums.j4]))
                 ·rw [if_neg c60] at H
                  have c60b0 : ((l1.length : Int) == (l2.length : Int)) = false := beq_eq_false_iff_ne.mpr c60
                  have c60b1 : ((l1.length : Int) != (l2.length : Int)) = true := bne_iff_ne.mpr c60
                  have c60b2 : (l1.length == l2.length) = false := by first | simpa using c60 | (simp at c60 ⊢; omega)
                  by_cases c82 : 10 = 0
                  ·exact absurd c82 (by decide)
                  ·rw [if_neg c82] at H
                   have c82b0 : (10 == 0) = false := beq_eq_false_iff_ne.mpr c82
                   have c82b1 : (10 != 0) = true := bne_iff_ne.mpr c82
                   by_cases c87 : t233 = 10
                   ·rw [if_pos c87] at H
                    have c87b0 : (t233 == 10) = true := beq_iff_eq.mpr c87
                    have c87b1 : (t233 != 10) = false := bne_eq_false_iff_eq.mpr c87
                    clear c87
                    have HR_ := Option.some.inj H
                    clear H
                    have HRz_ := HR_
                    (try simp only [show ((⟨#[]⟩ : ByteArray).toList) = ([] : List UInt8) from by simp [ByteArray.toList, ByteArray.toList.loop, ByteArray.size]] at HRz_)
                    (try simp only [beqn] at HRz_)
                    have hnb88 := NB234_222.out
                    have hnc88 := NB222_234.out
                    have hnb89 := NB234_235.out
                    have hnc89 := NB235_234.out
                    obtain ⟨hcz90_0, hcz90_1, hcz90_2, hcz90_3, hfz90_0, hfz90_1, hfz90_2, hfz90_3⟩ := cf4 BK234
                    have hnb91 := NB235_222.out
                    have hnc91 := NB222_235.out
                    obtain ⟨hcz92_0, hcz92_1, hcz92_2, hcz92_3, hfz92_0, hfz92_1, hfz92_2, hfz92_3⟩ := cf4 BK235
                    go_wp2
                    go_ret
                    exact ⟨by first | rfl | (rw [HR_]; done) | (rw [HRz_]; done) | (simp only [HR_]; done) | (simp [errW_none, errW_some] <;> rfl) | (simp [*, errW_none, errW_some] <;> rfl), (blt HB).out⟩
                   ·rw [if_neg c87] at H
                    have c87b0 : (t233 == 10) = false := beq_eq_false_iff_ne.mpr c87
                    have c87b1 : (t233 != 10) = true := bne_iff_ne.mpr c87
                    exact absurd H (by first | decide | (cases kj49 <;> simp [l10_ComplexesSums.j0, l10_ComplexesSums.l0, l10_ComplexesSums.l1, l10_ComplexesSums.j3, l10_ComplexesSums.j4]))
           ·rw [if_neg c28] at H
            have c28b0 : (t236 == 0) = false := beq_eq_false_iff_ne.mpr c28
            have c28b1 : (t236 != 0) = true := bne_iff_ne.mpr c28
            by_cases c93 : t221 = t236
            ·rw [if_pos c93] at H
             have c93b0 : (t221 == t236) = true := beq_iff_eq.mpr c93
             have c93b1 : (t221 != t236) = false := bne_eq_false_iff_eq.mpr c93
             clear c93
             by_cases c94 : (t217 == 0 && (t218 == 0 && (t219 == 0 && (t220.toList == ([] : List UInt8))))) = true
             ·rw [if_pos c94] at H
              have c94b0 : (t217 == 0 && (t218 == 0 && (t219 == 0 && (t220.toList == ([] : List UInt8))))) = true := c94
              have c94b0z := c94b0
              simp only [beqn] at c94b0z
              (try (have c94b1 : decide (t217 = 0 && (t218 == 0 && (t219 == 0 && (t220.toList == ([] : List UInt8))))) = true := by simpa using c94))
              (try (have c94b2 : (t217 == 0 && (t218 == 0 && (t219 == 0 && (t220.toList == ([] : List UInt8))))) = true := by simpa using c94))
              clear c94
              by_cases c95 : t233 = t236
              ·rw [if_pos c95] at H
               have c95b0 : (t233 == t236) = true := beq_iff_eq.mpr c95
               have c95b1 : (t233 != t236) = false := bne_eq_false_iff_eq.mpr c95
               clear c95
               have HR_ := Option.some.inj H
               clear H
               have HRz_ := HR_
               (try simp only [show ((⟨#[]⟩ : ByteArray).toList) = ([] : List UInt8) from by simp [ByteArray.toList, ByteArray.toList.loop, ByteArray.size]] at HRz_)
               (try simp only [beqn] at HRz_)
               go_wp2_with (first | ((with_reducible refine gc_ (f := 37) rfl ?_); refine gL 54 Tryz.func37 #[.slice A1 l1.length c1] ?_; (with_reducible refine (bs_CopyValues.calls _ _ l1 t214 _ ?side1 ?side2 A22.out).mono ?_); (case side1 => repeat (first | exact (Kd.C_below HR1.out HB.out) | (with_reducible refine Kd.C_alloc ?_ _) | (with_reducible refine Kd.C_drewN ?_ _) | (with_reducible refine Kd.C_drew ?_))); (case side2 => exact HC1.out); rintro e w96 ⟨v215, rfl, ho0, hb⟩; refine ⟨_, rfl, ?_⟩; have HO216 := Zs.mk (Kd.R_lower ho0 (below_size (blt HB).out)); replace HB := bls HB hb; (try clear hb); (try clear hb2); (try clear hk); (try clear hi); (try clear ho0); obtain ⟨Ao97, co97, eo97⟩ := Kd.R_slice HO216.out; subst eo97) | ((with_reducible refine gc_ (f := 36) rfl ?_); refine gL 55 Tryz.func36 #[.int .i64 a0, .slice Ao97 t214.length co97] ?_; (with_reducible refine (cx_SumOf.calls k3 a0 _ _ t214 t217 t218 t219 t220 t221 _ ?side1 ?side2 A23.out).mono ?_); (case side1 => repeat (first | exact (Kd.R_reads' HO216.out).2.2 | (with_reducible refine Kd.C_alloc ?_ _) | (with_reducible refine Kd.C_drewN ?_ _) | (with_reducible refine Kd.C_drew ?_))); (case side2 => exact (Kd.R_reads' HO216.out).2.1); rintro e w98 ⟨rfl, hb⟩; refine ⟨_, rfl, ?_⟩; replace HO216 := Zs.mk (Kd.R_below (by (with_reducible repeat (first | apply Kd.R_alloc | apply Kd.R_drewN | apply Kd.R_drew)); exact HO216.out) hb); replace HB := bls HB hb; clear hb) | ((with_reducible refine gd_ (N := 9) rfl ?_); (try (refine gate_guard (by rfl) ?_; dsimp only)); refine bxe 9 (cs := #[.int .i64 0, .int .u64 0, .int .u64 0, .string (⟨#[]⟩ : ByteArray)]) (t := 24) ?_; intro gb222 hg w99 hbox hb; have BK222 := Zs.mk hbox; have GW222 := bsz HB hg; have GE222 := bsz HB hg; replace HO216 := Zs.mk (Kd.R_below (Kd.R_elderB (by (with_reducible repeat (first | apply Kd.R_alloc | apply Kd.R_drewN | apply Kd.R_drew)); exact HO216.out) gb222 (Nat.le_of_eq hg.symm)) hb); replace HB := bls HB hb; clear hb hbox hg; obtain ⟨hcz100_0, hcz100_1, hcz100_2, hcz100_3, hfz100_0, hfz100_1, hfz100_2, hfz100_3⟩ := cf4 BK222) | ((with_reducible refine gc_ (f := 37) rfl ?_); refine gL 61 Tryz.func37 #[.slice A1 l1.length c1] ?_; (with_reducible refine (bs_CopyValues.calls _ _ l1 t223 _ ?side1 ?side2 A24.out).mono ?_); (case side1 => exact Kd.C_below HR1.out (blt HB).out); (case side2 => exact HC1.out); rintro e w101 ⟨v224, rfl, ho0, hb⟩; refine ⟨_, rfl, ?_⟩; have HO225 := Zs.mk (Kd.R_lower (Kd.R_newB (Kd.R_new' ho0 (Kd.R_lt (by (with_reducible repeat (first | apply Kd.R_alloc | apply Kd.R_drewN | apply Kd.R_drew)); exact (Kd.R_mono (Kd.R_far (p := ⟨gb222, 3, none⟩) (Kd.R_far (p := ⟨gb222, 2, none⟩) (Kd.R_far (p := ⟨gb222, 1, none⟩) (Kd.R_far (p := ⟨gb222, 0, none⟩) (Kd.R_mono HO216.out (fun k_ hk => (⟨hk, hk.2⟩ : _ ∧ k_ ≠ gb222))) (fun _ hk => hk.2) (.int .i64 t217)) (fun _ hk => hk.2) (.int .u64 t218)) (fun _ hk => hk.2) (.int .u64 t219)) (fun _ hk => hk.2) (.string t220)) (fun _ h_ => h_.1))))) (g := gb222) (o := .cells #[.int .i64 t217, .int .u64 t218, .int .u64 t219, .string t220] 24 (0, 0)) (by (with_reducible repeat (first | refine zn ?_ _ | refine zd ?_ | refine za ?_ _)); apply bp4; (with_reducible repeat (first | refine zn ?_ _ | refine zd ?_ | refine za ?_ _)); exact BK222.out)) (below_size (blt HB).out)); replace HO216 := Zs.mk (Kd.R_elder' (by (with_reducible repeat (first | apply Kd.R_alloc | apply Kd.R_drewN | apply Kd.R_drew)); exact (Kd.R_mono (Kd.R_far (p := ⟨gb222, 3, none⟩) (Kd.R_far (p := ⟨gb222, 2, none⟩) (Kd.R_far (p := ⟨gb222, 1, none⟩) (Kd.R_far (p := ⟨gb222, 0, none⟩) (Kd.R_mono HO216.out (fun k_ hk => (⟨hk, hk.2⟩ : _ ∧ k_ ≠ gb222))) (fun _ hk => hk.2) (.int .i64 t217)) (fun _ hk => hk.2) (.int .u64 t218)) (fun _ hk => hk.2) (.int .u64 t219)) (fun _ hk => hk.2) (.string t220)) (fun _ h_ => h_.1))) (Kd.R_base ho0) hb); replace BK222 := Zs.mk (blk_below (g := gb222) (o := .cells #[.int .i64 t217, .int .u64 t218, .int .u64 t219, .string t220] 24 (0, 0)) (by (with_reducible repeat (first | refine zn ?_ _ | refine zd ?_ | refine za ?_ _)); apply bp4; (with_reducible repeat (first | refine zn ?_ _ | refine zd ?_ | refine za ?_ _)); exact BK222.out) hb); replace HB := bls HB hb; (try clear hb); (try clear hb2); (try clear hk); (try clear hi); (try clear ho0)) | ((with_reducible refine gc_ (f := 37) rfl ?_); refine gL 63 Tryz.func37 #[.slice A2 l2.length c2] ?_; (with_reducible refine (bs_CopyValues.calls _ _ l2 t226 _ ?side1 ?side2 A25.out).mono ?_); (case side1 => repeat (first | exact (Kd.C_below HR2.out HB.out) | (with_reducible refine Kd.C_alloc ?_ _) | (with_reducible refine Kd.C_drewN ?_ _) | (with_reducible refine Kd.C_drew ?_))); (case side2 => exact HC2.out); rintro e w102 ⟨v227, rfl, ho0, hb⟩; refine ⟨_, rfl, ?_⟩; have HO228 := Zs.mk (Kd.R_lower (Kd.R_newB (Kd.R_new' (Kd.R_new' ho0 (Kd.R_lt (by (with_reducible repeat (first | apply Kd.R_alloc | apply Kd.R_drewN | apply Kd.R_drew)); exact HO216.out))) (Kd.R_lt (by (with_reducible repeat (first | apply Kd.R_alloc | apply Kd.R_drewN | apply Kd.R_drew)); exact HO225.out))) (g := gb222) (o := .cells #[.int .i64 t217, .int .u64 t218, .int .u64 t219, .string t220] 24 (0, 0)) (bks BK222).out) (below_size (blt HB).out)); replace HO216 := Zs.mk (Kd.R_elder' (by (with_reducible repeat (first | apply Kd.R_alloc | apply Kd.R_drewN | apply Kd.R_drew)); exact HO216.out) (Kd.R_base ho0) hb); replace HO225 := Zs.mk (Kd.R_elder' (by (with_reducible repeat (first | apply Kd.R_alloc | apply Kd.R_drewN | apply Kd.R_drew)); exact HO225.out) (Kd.R_base ho0) hb); replace BK222 := bkb BK222 hb; replace HB := bls HB hb; (try clear hb); (try clear hb2); (try clear hk); (try clear hi); (try clear ho0); obtain ⟨Ao103, co103, eo103⟩ := Kd.R_slice HO225.out; subst eo103; obtain ⟨Ao104, co104, eo104⟩ := Kd.R_slice HO228.out; subst eo104) | ((with_reducible refine gc_ (f := 38) rfl ?_); refine gL 64 Tryz.func38 #[.int .i64 a0, .slice Ao103 t223.length co103, .slice Ao104 t226.length co104] ?_; (with_reducible refine (cx_DotOf.calls k3 a0 _ _ t223 _ _ t226 t229 t230 t231 t232 t233 _ ?side1 ?side2 ?side3 ?side4 A26.out).mono ?_); (case side1 => repeat (first | exact (Kd.R_reads' HO225.out).2.2 | (with_reducible refine Kd.C_alloc ?_ _) | (with_reducible refine Kd.C_drewN ?_ _) | (with_reducible refine Kd.C_drew ?_))); (case side2 => exact (Kd.R_reads' HO225.out).2.1); (case side3 => repeat (first | exact (Kd.R_reads' HO228.out).2.2 | (with_reducible refine Kd.C_alloc ?_ _) | (with_reducible refine Kd.C_drewN ?_ _) | (with_reducible refine Kd.C_drew ?_))); (case side4 => exact (Kd.R_reads' HO228.out).2.1); rintro e w105 ⟨rfl, hb⟩; refine ⟨_, rfl, ?_⟩; replace HO216 := Zs.mk (Kd.R_below (by (with_reducible repeat (first | apply Kd.R_alloc | apply Kd.R_drewN | apply Kd.R_drew)); exact HO216.out) hb); replace HO225 := Zs.mk (Kd.R_below (by (with_reducible repeat (first | apply Kd.R_alloc | apply Kd.R_drewN | apply Kd.R_drew)); exact HO225.out) hb); replace HO228 := Zs.mk (Kd.R_below (by (with_reducible repeat (first | apply Kd.R_alloc | apply Kd.R_drewN | apply Kd.R_drew)); exact HO228.out) hb); replace BK222 := bkb BK222 hb; replace HB := bls HB hb; clear hb) | ((with_reducible refine gd_ (N := 11) rfl ?_); (try (refine gate_guard (by rfl) ?_; dsimp only)); refine bxe 11 (cs := #[.int .i64 0, .int .u64 0, .int .u64 0, .string (⟨#[]⟩ : ByteArray)]) (t := 24) ?_; intro gb234 hg w106 hbox hb; have BK234 := Zs.mk hbox; have GW234 := bsz HB hg; have GE234 := bsz HB hg; have NB222_234 := bnl BK222 hg; have NB234_222 := bng BK222 hg; replace HO216 := Zs.mk (Kd.R_below (Kd.R_elderB (by (with_reducible repeat (first | apply Kd.R_alloc | apply Kd.R_drewN | apply Kd.R_drew)); exact HO216.out) gb234 (Nat.le_of_eq hg.symm)) hb); replace HO225 := Zs.mk (Kd.R_below (Kd.R_elderB (by (with_reducible repeat (first | apply Kd.R_alloc | apply Kd.R_drewN | apply Kd.R_drew)); exact HO225.out) gb234 (Nat.le_of_eq hg.symm)) hb); replace HO228 := Zs.mk (Kd.R_below (Kd.R_elderB (by (with_reducible repeat (first | apply Kd.R_alloc | apply Kd.R_drewN | apply Kd.R_drew)); exact HO228.out) gb234 (Nat.le_of_eq hg.symm)) hb); replace BK222 := bkb BK222 hb; replace HB := bls HB hb; clear hb hbox hg; have hnb107 := NB234_222.out; have hnc107 := NB222_234.out; obtain ⟨hcz108_0, hcz108_1, hcz108_2, hcz108_3, hfz108_0, hfz108_1, hfz108_2, hfz108_3⟩ := cf4 BK234) | ((with_reducible refine gd_ (N := 13) rfl ?_); (try (refine gate_guard (by rfl) ?_; dsimp only)); refine bxe 13 (cs := #[.int .i64 0, .int .u64 0, .int .u64 0, .string (⟨#[]⟩ : ByteArray)]) (t := 24) ?_; intro gb235 hg w109 hbox hb; have BK235 := Zs.mk hbox; have GW235 := bsz HB hg; have GE235 := bsz HB hg; have NB222_235 := Zs.mk ((by rw [hg]; exact Nat.ne_of_lt (blk_lt (g := gb222) (o := .cells #[.int .i64 t217, .int .u64 t218, .int .u64 t219, .string t220] 24 (0, 0)) (bkf BK222).out) : gb222 ≠ gb235)); have NB235_222 := Zs.mk ((by rw [hg]; exact Nat.ne_of_gt (blk_lt (g := gb222) (o := .cells #[.int .i64 t217, .int .u64 t218, .int .u64 t219, .string t220] 24 (0, 0)) (bkf BK222).out) : gb235 ≠ gb222)); have NB234_235 := Zs.mk ((by rw [hg]; exact Nat.ne_of_lt (blk_lt (g := gb234) (o := .cells #[.int .i64 t229, .int .u64 t230, .int .u64 t231, .string t232] 24 (0, 0)) (by (with_reducible repeat (first | refine zn ?_ _ | refine zd ?_ | refine za ?_ _)); apply bp4; (with_reducible repeat (first | refine zn ?_ _ | refine zd ?_ | refine za ?_ _)); exact BK234.out)) : gb234 ≠ gb235)); have NB235_234 := Zs.mk ((by rw [hg]; exact Nat.ne_of_gt (blk_lt (g := gb234) (o := .cells #[.int .i64 t229, .int .u64 t230, .int .u64 t231, .string t232] 24 (0, 0)) (by (with_reducible repeat (first | refine zn ?_ _ | refine zd ?_ | refine za ?_ _)); apply bp4; (with_reducible repeat (first | refine zn ?_ _ | refine zd ?_ | refine za ?_ _)); exact BK234.out)) : gb235 ≠ gb234)); replace HO216 := Zs.mk (Kd.R_below (Kd.R_elderB (by (with_reducible repeat (first | apply Kd.R_alloc | apply Kd.R_drewN | apply Kd.R_drew)); exact (Kd.R_mono (Kd.R_far (p := ⟨gb234, 3, none⟩) (Kd.R_far (p := ⟨gb234, 2, none⟩) (Kd.R_far (p := ⟨gb234, 1, none⟩) (Kd.R_far (p := ⟨gb234, 0, none⟩) (Kd.R_mono HO216.out (fun k_ hk => (⟨hk, hk.2⟩ : _ ∧ k_ ≠ gb234))) (fun _ hk => hk.2) (.int .i64 t229)) (fun _ hk => hk.2) (.int .u64 t230)) (fun _ hk => hk.2) (.int .u64 t231)) (fun _ hk => hk.2) (.string t232)) (fun _ h_ => h_.1))) gb235 (Nat.le_of_eq hg.symm)) hb); replace HO225 := Zs.mk (Kd.R_below (Kd.R_elderB (by (with_reducible repeat (first | apply Kd.R_alloc | apply Kd.R_drewN | apply Kd.R_drew)); exact (Kd.R_mono (Kd.R_far (p := ⟨gb234, 3, none⟩) (Kd.R_far (p := ⟨gb234, 2, none⟩) (Kd.R_far (p := ⟨gb234, 1, none⟩) (Kd.R_far (p := ⟨gb234, 0, none⟩) (Kd.R_mono HO225.out (fun k_ hk => (⟨hk, hk.2⟩ : _ ∧ k_ ≠ gb234))) (fun _ hk => hk.2) (.int .i64 t229)) (fun _ hk => hk.2) (.int .u64 t230)) (fun _ hk => hk.2) (.int .u64 t231)) (fun _ hk => hk.2) (.string t232)) (fun _ h_ => h_.1))) gb235 (Nat.le_of_eq hg.symm)) hb); replace HO228 := Zs.mk (Kd.R_below (Kd.R_elderB (by (with_reducible repeat (first | apply Kd.R_alloc | apply Kd.R_drewN | apply Kd.R_drew)); exact (Kd.R_mono (Kd.R_far (p := ⟨gb234, 3, none⟩) (Kd.R_far (p := ⟨gb234, 2, none⟩) (Kd.R_far (p := ⟨gb234, 1, none⟩) (Kd.R_far (p := ⟨gb234, 0, none⟩) (Kd.R_mono HO228.out (fun k_ hk => (⟨hk, hk.2⟩ : _ ∧ k_ ≠ gb234))) (fun _ hk => hk.2) (.int .i64 t229)) (fun _ hk => hk.2) (.int .u64 t230)) (fun _ hk => hk.2) (.int .u64 t231)) (fun _ hk => hk.2) (.string t232)) (fun _ h_ => h_.1))) gb235 (Nat.le_of_eq hg.symm)) hb); replace BK222 := bkfb BK222 hb; replace BK234 := Zs.mk (blk_below (g := gb234) (o := .cells #[.int .i64 t229, .int .u64 t230, .int .u64 t231, .string t232] 24 (0, 0)) (by (with_reducible repeat (first | refine zn ?_ _ | refine zd ?_ | refine za ?_ _)); apply bp4; (with_reducible repeat (first | refine zn ?_ _ | refine zd ?_ | refine za ?_ _)); exact BK234.out) hb); replace HB := bls HB hb; clear hb hbox hg; have hnb110 := NB235_222.out; have hnc110 := NB222_235.out; have hnb111 := NB235_234.out; have hnc111 := NB234_235.out; obtain ⟨hcz112_0, hcz112_1, hcz112_2, hcz112_3, hfz112_0, hfz112_1, hfz112_2, hfz112_3⟩ := cf4 BK235) | ((with_reducible refine gc_ (f := 39) rfl ?_); refine gLc 69 Tryz.func39 (r10_TypeErr.calls a0 t236 _ A27.out) (fun _ h_ => ?_); obtain ⟨nd, rfl⟩ := h_; obtain ⟨hcz113_0, hcz113_1, hcz113_2, hcz113_3, hfz113_0, hfz113_1, hfz113_2, hfz113_3⟩ := cf4 BK222; obtain ⟨hcz114_0, hcz114_1, hcz114_2, hcz114_3, hfz114_0, hfz114_1, hfz114_2, hfz114_3⟩ := cf4 BK234))
               go_ret
               exact ⟨by first | rfl | (rw [HR_]; done) | (rw [HRz_]; done) | (simp only [HR_]; done) | (simp [errW_none, errW_some] <;> rfl) | (simp [*, errW_none, errW_some] <;> rfl), (blt HB).out⟩
              ·rw [if_neg c95] at H
               have c95b0 : (t233 == t236) = false := beq_eq_false_iff_ne.mpr c95
               have c95b1 : (t233 != t236) = true := bne_iff_ne.mpr c95
               exact absurd H (by first | decide | (cases k3 <;> simp [l10_ComplexesSums.j0, l10_ComplexesSums.l0, l10_ComplexesSums.l1, l10_ComplexesSums.j3, l10_ComplexesSums.j4]))
             ·rw [if_neg c94] at H
              have c94b0 : (t217 == 0 && (t218 == 0 && (t219 == 0 && (t220.toList == ([] : List UInt8))))) = false := by simpa using c94
              have c94b0z := c94b0
              simp only [beqn] at c94b0z
              (try (have c94b1 : decide (t217 = 0 && (t218 == 0 && (t219 == 0 && (t220.toList == ([] : List UInt8))))) = false := by simpa using c94))
              (try (have c94b2 : (t217 == 0 && (t218 == 0 && (t219 == 0 && (t220.toList == ([] : List UInt8))))) = false := by simpa using c94))
              (try (have c94b3 : ¬ (t217 = 0 && (t218 == 0 && (t219 == 0 && (t220.toList == ([] : List UInt8))))) := by simpa using c94))
              clear c94
              exact absurd H (by first | decide | (cases k3 <;> simp [l10_ComplexesSums.j0, l10_ComplexesSums.l0, l10_ComplexesSums.l1, l10_ComplexesSums.j3, l10_ComplexesSums.j4]))
            ·rw [if_neg c93] at H
             have c93b0 : (t221 == t236) = false := beq_eq_false_iff_ne.mpr c93
             have c93b1 : (t221 != t236) = true := bne_iff_ne.mpr c93
             exact absurd H (by first | decide | (cases k3 <;> simp [l10_ComplexesSums.j0, l10_ComplexesSums.l0, l10_ComplexesSums.l1, l10_ComplexesSums.j3, l10_ComplexesSums.j4]))
 ·replace c5 := Bool.eq_false_iff.mpr c5
  subst c5
  rw [if_neg (show ¬ (false = true) by decide)] at H
  exact absurd H (by first | decide | (cases k <;> simp [l10_ComplexesSums.j0, l10_ComplexesSums.l0, l10_ComplexesSums.l1, l10_ComplexesSums.j3, l10_ComplexesSums.j4]))
end Go.Proofs.YtmoimcblmmcffaaGreat.PLS

namespace Go.Proofs.YtmoimcblmmcffaaGreat.PLS
open Go.RowKit B NC N PPC PRA Go.Proofs.YtmoimcblmmcffaaGreatW.PrintWords
set_option linter.unusedSimpArgs false
set_option linter.unusedVariables false
theorem sum_type {t : Int} {l : List S24} {k : Nat} (h : ctypeErrV t ≠ 0) : cx_SumOf.f (k + 2) t l = some (0, 0, 0, NB, ctypeErrV t) := by
 unfold cx_SumOf.f cx_partType.f
 rw [Option.bind_some]
 dsimp only
 rw [if_neg h]
 simp only [cx_SumOf.j0, cx_SumOf.j1]
 rw [if_neg (by decide), if_neg h]
theorem sum_large {s : Bool} {l : List S24} {k : Nat} (h : (l.length : Int) > 40) : cx_SumOf.f (k + 2) (ct s) l = some (0, 0, 0, NB, 8) := by
 unfold cx_SumOf.f cx_partType.f
 rw [Option.bind_some]
 dsimp only
 rw [if_pos (show ctypeErrV (ct s) = 0 by cases s <;> rfl), decide_eq_true h]
 simp only [cx_SumOf.j0, cx_SumOf.j1]
 simp
theorem sum_bad {s : Bool} {l : List S24} {k : Nat} (hl : ∀ x ∈ l, okS x) (h : ¬ (l.length : Int) > 40) (hk : 90 < k) (he : listErr (ct s) l ≠ 0) : cx_SumOf.f (k + 2) (ct s) l = some (0, 0, 0, NB, listErr (ct s) l) := by
 unfold cx_SumOf.f cx_partType.f
 rw [Option.bind_some]
 dsimp only
 have h0 : ctypeErrV (ct s) = 0 := by cases s <;> rfl
 rw [if_pos h0, decide_eq_false h]
 simp only [cx_SumOf.j0, cx_SumOf.j1]
 rw [if_neg (by decide), if_pos h0, list_f hl (by omega) (by omega), if_neg he, Option.bind_some]
 dsimp only
 rw [if_neg he]
theorem sum_good {s : Bool} {l : List S24} {ps : List (Nat × Nat)} {k : Nat} (hl : ∀ x ∈ l, okS x) (h : ¬ (l.length : Int) > 40) (hk : 90 < k) (he : listErr (ct s) l = 0) (hp : AreP s l ps) : cx_SumOf.f (k + 2) (ct s) l = some (ct s, ((sumP s ps).1 : Int), ((sumP s ps).2 : Int), NB, 0) := by
 unfold cx_SumOf.f cx_partType.f
 rw [Option.bind_some]
 dsimp only
 have h0 : ctypeErrV (ct s) = 0 := by cases s <;> rfl
 have hlen := hp.len
 rw [if_pos h0, decide_eq_false h]
 simp only [cx_SumOf.j0, cx_SumOf.j1]
 rw [if_neg (by decide), if_pos h0, list_f hl (by omega) (by omega), if_pos he, Option.bind_some]
 dsimp only
 rw [if_pos rfl, cpart_ct, hp.map, fsum_f hp.ok (by omega) (by omega), Option.bind_some]
 dsimp only
 rw [fvalue, Option.bind_some]
theorem dot_type {t : Int} {l m : List S24} {k : Nat} (h : ctypeErrV t ≠ 0) : cx_DotOf.f (k + 1) t l m = some (0, 0, 0, NB, ctypeErrV t) := by
 unfold cx_DotOf.f cx_partType.f
 rw [Option.bind_some]
 dsimp only
 rw [if_neg h]
 simp only [cx_DotOf.j0]
 rw [if_neg h]
theorem dot_shape {s : Bool} {l m : List S24} {k : Nat} (h : ¬ (l.length : Int) = (m.length : Int)) : cx_DotOf.f (k + 1) (ct s) l m = some (0, 0, 0, NB, 10) := by
 unfold cx_DotOf.f cx_partType.f
 rw [Option.bind_some]
 dsimp only
 rw [if_pos (show ctypeErrV (ct s) = 0 by cases s <;> rfl), if_neg h]
 simp only [cx_DotOf.j0]
 rw [if_neg (by decide)]
theorem dot_large {s : Bool} {l m : List S24} {k : Nat} (h : (l.length : Int) = (m.length : Int)) (h4 : (l.length : Int) > 40) : cx_DotOf.f (k + 1) (ct s) l m = some (0, 0, 0, NB, 8) := by
 unfold cx_DotOf.f cx_partType.f
 rw [Option.bind_some]
 dsimp only
 rw [if_pos (show ctypeErrV (ct s) = 0 by cases s <;> rfl), if_pos h, if_pos h4]
 simp only [cx_DotOf.j0]
 rw [if_neg (by decide)]
theorem dot_bad1 {s : Bool} {l m : List S24} {k : Nat} (hl : ∀ x ∈ l, okS x) (h : (l.length : Int) = (m.length : Int)) (h4 : ¬ (l.length : Int) > 40) (hk : 200 < k) (he : listErr (ct s) l ≠ 0) : cx_DotOf.f (k + 1) (ct s) l m = some (0, 0, 0, NB, listErr (ct s) l) := by
 unfold cx_DotOf.f cx_partType.f
 rw [Option.bind_some]
 dsimp only
 have h0 : ctypeErrV (ct s) = 0 := by cases s <;> rfl
 rw [if_pos h0, if_pos h, if_neg h4]
 simp only [cx_DotOf.j0]
 rw [if_pos h0, list_f hl (by omega) (by omega), if_neg he, Option.bind_some]
 dsimp only
 rw [if_neg he]
theorem dot_bad2 {s : Bool} {l m : List S24} {k : Nat} (hl : ∀ x ∈ l, okS x) (hm : ∀ x ∈ m, okS x) (h : (l.length : Int) = (m.length : Int)) (h4 : ¬ (l.length : Int) > 40) (hk : 200 < k) (he : listErr (ct s) l = 0) (he2 : listErr (ct s) m ≠ 0) : cx_DotOf.f (k + 1) (ct s) l m = some (0, 0, 0, NB, listErr (ct s) m) := by
 unfold cx_DotOf.f cx_partType.f
 rw [Option.bind_some]
 dsimp only
 have h0 : ctypeErrV (ct s) = 0 := by cases s <;> rfl
 rw [if_pos h0, if_pos h, if_neg h4]
 simp only [cx_DotOf.j0]
 rw [if_pos h0, list_f hl (by omega) (by omega), if_pos he, Option.bind_some]
 dsimp only
 rw [if_pos rfl, list_f hm (by omega) (by omega), if_neg he2, Option.bind_some]
 dsimp only
 rw [if_neg he2]
theorem dot_good {s : Bool} {l m : List S24} {ps qs : List (Nat × Nat)} {k : Nat} (hl : ∀ x ∈ l, okS x) (hm : ∀ x ∈ m, okS x) (h : (l.length : Int) = (m.length : Int)) (h4 : ¬ (l.length : Int) > 40) (hk : 200 < k) (he : listErr (ct s) l = 0) (he2 : listErr (ct s) m = 0) (hp : AreP s l ps) (hq : AreP s m qs) :
  cx_DotOf.f (k + 1) (ct s) l m = some (ct s, ((sumP s (dotL s ps qs)).1 : Int), ((sumP s (dotL s ps qs)).2 : Int), NB, 0) := by
 unfold cx_DotOf.f cx_partType.f
 rw [Option.bind_some]
 dsimp only
 have h0 : ctypeErrV (ct s) = 0 := by cases s <;> rfl
 have e1 := hp.len
 have e2 := hq.len
 rw [if_pos h0, if_pos h, if_neg h4]
 simp only [cx_DotOf.j0]
 rw [if_pos h0, list_f hl (by omega) (by omega), if_pos he, Option.bind_some]
 dsimp only
 rw [if_pos rfl, list_f hm (by omega) (by omega), if_pos he2, Option.bind_some]
 dsimp only
 have hd := dot_l0 (s := s) (ps := ps) (qs := qs) (by omega) hp.ok hq.ok (by omega) ps.length 0 k ps (by omega) (by omega) rfl rfl (by simp)
 rw [if_pos rfl, cpart_ct, hp.map, hq.map, List.length_map]
 simpa using hd
theorem copy_f {l : List S24} (h : l.length ≤ 100) : bs_CopyValues.f l = some l := by
 unfold bs_CopyValues.f
 rw [Option.bind_some, if_pos (show ([] : List S24).length + l.length < 3518437208883 by simp; omega), List.nil_append]
theorem ctype_cases {t : Int} (h : ctypeErrV t = 0) : ∃ s, t = ct s := by
 unfold ctypeErrV at h
 by_cases h3 : t = 3
 ·exact ⟨true, h3⟩
 ·by_cases h4 : t = 4
  ·exact ⟨false, h4⟩
  ·rw [if_neg h3, if_neg h4] at h; exact absurd h (by decide)
theorem tyerr_f (t : Int) : r10_TypeErr.f t = some (ctypeErrV t) := by
 unfold r10_TypeErr.f ctypeErrV
 by_cases h3 : t = 3
 ·rw [if_pos h3, if_pos h3]
 ·rw [if_neg h3, if_neg h3]
  by_cases h4 : t = 4
  ·rw [if_pos h4, if_pos h4]
  ·rw [if_neg h4, if_neg h4]
theorem nbE : (NB.toList == ([] : List UInt8)) = true := by rw [nb_text]; rfl
section
variable {t : Int} {l m : List S24} (hl : ∀ x ∈ l, okS x) (hm : ∀ x ∈ m, okS x) (n1 : l.length ≤ 42) (n2 : m.length ≤ 42)
include hl hm n1 n2
omit n2 in
theorem sums_4 {s : Bool} {c : Int} {k : Nat} (hk : 300 < k) (hc : c = if (l.length : Int) > 40 then 8 else listErr (ct s) l) : ∃ d0 d1 d2 d3 e, cx_DotOf.f (k + 3) (ct s) l m = some (d0, d1, d2, d3, e) ∧ l10_ComplexesSums.j4 (k + 2) (ct s) l m e c false d0 d1 d2 d3 0 0 0 NB = some true := by
 by_cases hs : (l.length : Int) = (m.length : Int)
 ·by_cases h4 : (l.length : Int) > 40
  ·rw [if_pos h4] at hc
   subst hc
   refine ⟨_, _, _, _, _, dot_large (k := k + 2) hs h4, ?_⟩
   simp only [l10_ComplexesSums.j4]
   rw [if_neg (by decide), if_pos hs, if_neg (by decide), if_pos trivial]
   simp
  ·rw [if_neg h4] at hc
   by_cases he : listErr (ct s) l = 0
   ·rw [he] at hc
    subst hc
    by_cases he2 : listErr (ct s) m = 0
    ·obtain ⟨ps, hp⟩ := areP_of l hl he
     obtain ⟨qs, hq⟩ := areP_of m hm he2
     have e1 := hp.len
     have e2 := hq.len
     refine ⟨_, _, _, _, _, dot_good (k := k + 2) hl hm hs h4 (by omega) he he2 hp hq, ?_⟩
     obtain ⟨R, hR, hd⟩ := rdot_l0 hp hq (by omega) (by omega) ps.length 0 (k + 1) [] [] (by omega) (by omega) .nil rfl
     have hd2 : r10_Dot.f (k + 1) (ct s) l m = some (ct s, ((sumP s (dotL s ps qs)).1 : Int), ((sumP s (dotL s ps qs)).2 : Int), R) := by unfold r10_Dot.f; simpa using hd
     simp only [l10_ComplexesSums.j4]
     rw [if_neg (by decide), if_pos hs, if_pos trivial, lerr_f hm (by omega) (by omega), Option.bind_some, if_pos he2, if_pos trivial, hd2, Option.bind_some]
     simp [hR, nb_text]
    ·refine ⟨_, _, _, _, _, dot_bad2 (k := k + 2) hl hm hs h4 (by omega) he he2, ?_⟩
     simp only [l10_ComplexesSums.j4]
     rw [if_neg (by decide), if_pos hs, if_pos trivial, lerr_f hm (by omega) (by omega), Option.bind_some, if_neg he2, if_pos rfl]
     simp
   ·refine ⟨_, _, _, _, _, dot_bad1 (k := k + 2) hl hs h4 (by omega) he, ?_⟩
    rw [← hc] at he ⊢
    simp only [l10_ComplexesSums.j4]
    rw [if_neg (by decide), if_pos hs, if_neg he, if_pos trivial]
    simp
 ·refine ⟨_, _, _, _, _, dot_shape (k := k + 2) hs, ?_⟩
  simp only [l10_ComplexesSums.j4]
  rw [if_neg (by decide), if_neg hs, if_neg (by decide), if_pos trivial]
  simp
omit hm n2 in
theorem sums_3 {s : Bool} {c : Int} {k : Nat} (hk : 300 < k) (hc : c = if (l.length : Int) > 40 then 8 else listErr (ct s) l) : ∃ s0 s1 s2 s3 e, cx_SumOf.f (k + 3) (ct s) l = some (s0, s1, s2, s3, e) ∧ ∀ d0 d1 d2 d3 e', l10_ComplexesSums.j3 (k + 3) (ct s) l m e e' c s0 s1 s2 s3 d0 d1 d2 d3 0 0 0 NB = l10_ComplexesSums.j4 (k + 2) (ct s) l m e' c false d0 d1 d2 d3 0 0 0 NB := by
 by_cases h4 : (l.length : Int) > 40
 ·rw [if_pos h4] at hc
  subst hc
  refine ⟨_, _, _, _, _, sum_large (k := k + 1) h4, fun d0 d1 d2 d3 e' => ?_⟩
  simp only [l10_ComplexesSums.j3]
  rw [if_neg (by decide), if_pos trivial, if_neg (by simp)]
 ·rw [if_neg h4] at hc
  by_cases he : listErr (ct s) l = 0
  ·rw [he] at hc
   subst hc
   obtain ⟨ps, hp⟩ := areP_of l hl he
   have e1 := hp.len
   refine ⟨_, _, _, _, _, sum_good (k := k + 1) hl h4 (by omega) he hp, fun d0 d1 d2 d3 e' => ?_⟩
   obtain ⟨R, hR, hs⟩ := rsum_f hp (by omega) (k := k + 2) (by omega)
   simp only [l10_ComplexesSums.j3]
   rw [if_pos trivial, if_pos trivial, hs, Option.bind_some]
   dsimp only
   rw [show (!(ct s == ct s) || (!(((sumP s ps).1 : Int) == ((sumP s ps).1 : Int)) || (!(((sumP s ps).2 : Int) == ((sumP s ps).2 : Int)) || (!(NB.toList == R.toList))))) = false from by simp [hR, nb_text]]
  ·refine ⟨_, _, _, _, _, sum_bad (k := k + 1) hl h4 (by omega) he, fun d0 d1 d2 d3 e' => ?_⟩
   rw [← hc] at he ⊢
   simp only [l10_ComplexesSums.j3]
   rw [if_neg he, if_pos trivial, if_neg (by simp)]
theorem sums_end {k : Nat} (hk : 300 < k) : l10_ComplexesSums.l1 (k + 4) t l m (m.length : Int) = some true := by
 simp only [l10_ComplexesSums.l1]
 rw [if_neg (by omega), copy_f (by omega), Option.bind_some, tyerr_f]
 by_cases ht : ctypeErrV t = 0
 ·obtain ⟨s, rfl⟩ := ctype_cases ht
  obtain ⟨s0, s1, s2, s3, e, g1, g2⟩ := sums_3 (s := s) hl n1 hk rfl
  obtain ⟨d0, d1, d2, d3, e', g3, g4⟩ := sums_4 (s := s) hl hm n1 hk rfl
  rw [g1, Option.bind_some, Option.bind_some, copy_f (by omega), Option.bind_some, g3, Option.bind_some, Option.bind_some, if_pos ht, lerr_f hl (by omega) (by omega), Option.bind_some]
  dsimp only
  by_cases h4 : (l.length : Int) > 40
  ·rw [if_pos h4] at g2 g4 ⊢
   rw [g2, g4]
  ·rw [if_neg h4] at g2 g4 ⊢
   rw [g2, g4]
 ·rw [sum_type (k := k + 1) ht, Option.bind_some, Option.bind_some, copy_f (by omega), Option.bind_some, dot_type (k := k + 2) ht, Option.bind_some, Option.bind_some, if_neg ht]
  dsimp only
  have hz : ((0 : Int) == 0 && ((0 : Int) == 0 && ((0 : Int) == 0 && (NB.toList == ([] : List UInt8))))) = true := by rw [nbE]; rfl
  rw [if_pos rfl, hz, if_pos rfl, if_pos rfl]
theorem sums_l1 : ∀ (n i k : Nat), i + n = m.length → 304 + n < k → l10_ComplexesSums.l1 k t l m (i : Int) = some true
 | n, i, 0, _, h => absurd h (by omega)
 | 0, i, k + 1, hi, hk => by
  obtain rfl : i = m.length := by omega
  obtain ⟨j, rfl⟩ : ∃ j, k = j + 3 := ⟨k - 3, by omega⟩
  exact sums_end hl hm n1 n2 (by omega)
 | n + 1, i, k + 1, hi, hk => by
  have hrec := sums_l1 n (i + 1) k (by omega) (by omega)
  simp only [l10_ComplexesSums.l1]
  rw [if_pos (show (i : Int) < (m.length : Int) by omega), if_pos (show 0 ≤ (i : Int) by omega)]
  unfold l10_brief.f
  rw [Option.bind_some, w64 (by omega)]
  by_cases hb : ((((rd_T24 m (i : Int)).f3).size : Int) ≤ 60)
  ·rw [decide_eq_true hb, if_pos rfl]; exact hrec
  ·rw [decide_eq_false hb, if_neg (by decide)]
theorem sums_l0 : ∀ (n i k : Nat), i + n = l.length → 400 + n < k → l10_ComplexesSums.l0 k t l m (i : Int) = some true
 | n, i, 0, _, h => absurd h (by omega)
 | 0, i, k + 1, hi, hk => by
  simp only [l10_ComplexesSums.l0]
  rw [if_neg (show ¬ ((i : Int) < (l.length : Int)) by omega)]
  exact sums_l1 hl hm n1 n2 m.length 0 k (by omega) (by omega)
 | n + 1, i, k + 1, hi, hk => by
  have hrec := sums_l0 n (i + 1) k (by omega) (by omega)
  simp only [l10_ComplexesSums.l0]
  rw [if_pos (show (i : Int) < (l.length : Int) by omega), if_pos (show 0 ≤ (i : Int) by omega)]
  unfold l10_brief.f
  rw [Option.bind_some, w64 (by omega)]
  by_cases hb : ((((rd_T24 l (i : Int)).f3).size : Int) ≤ 60)
  ·rw [decide_eq_true hb, if_pos rfl]; exact hrec
  ·rw [decide_eq_false hb, if_neg (by decide)]
end
theorem sums_f {t : Int} {l m : List S24} (hl : ∀ x ∈ l, okS x) (hm : ∀ x ∈ m, okS x) {k : Nat} (hk : 500 < k) : l10_ComplexesSums.f (k + 1) t l m = some true := by
 have hj : ∀ k, l10_ComplexesSums.j0 (k + 1) t l m true = some true := fun k => by simp only [l10_ComplexesSums.j0, if_true]
 unfold l10_ComplexesSums.f
 rw [show l10_awake.f = some true from rfl, Option.bind_some, if_pos rfl]
 by_cases n1 : (l.length : Int) > 42
 ·rw [if_pos n1]; exact hj k
 ·rw [if_neg n1]
  by_cases n2 : (m.length : Int) > 42
  ·rw [decide_eq_true n2]; exact hj k
  ·rw [decide_eq_false n2]
   simp only [l10_ComplexesSums.j0]
   rw [if_neg (by decide)]
   exact sums_l0 hl hm (by omega) (by omega) l.length 0 k (by omega) (by omega)
end Go.Proofs.YtmoimcblmmcffaaGreat.PLS

namespace Go.Proofs.YtmoimcblmmcffaaGreat.Law
open Go.ChangeShapes Go.WideShapes Go.ChangeAt Go.RowKit
open Go.ChangeMaps (open_string shut_string)
set_option linter.unusedVariables false
theorem own : ownKnob Tryz.prog.godebug = none := by kernel_rfl
theorem u64_wf {a : Int} (h : (Lit.int .u64 a).wf = true) : 0 ≤ a ∧ a ≤ 18446744073709551615 := by
 have h' : (decide (0 ≤ a) && decide (a ≤ 18446744073709551615)) = true := h
 simpa using h'
theorem value_cells : Tryz.prog.cellsOf 24 = 4 := by kernel_rfl
instance : Inhabited PLS.S24 := ⟨PLS.z24⟩
theorem agg4_cells {H : Type} {enc : TypeId × Value → H} {P : Program} {W : World} {base : Nat} {spare : Nat → Bool} {held : Bool} {n : Nat} {t : TypeId} {f0 f1 f2 f3 : Field} {v0 v1 v2 v3 : Value} {y : DataW H × List MemPlace} (hs : P.underlying t = some (.struct #[f0, f1, f2, f3]))
  (hone : Go.Deep.oneCellFields P #[f0, f1, f2, f3] = true) (h : DataW.trod enc P W base spare held n t [v0, v1, v2, v3] = some y) :
  ∃ y0 y1 y2 y3 m, DataW.trod enc P W base spare held m f0.type [v0] = some y0 ∧ DataW.trod enc P W base spare held m f1.type [v1] = some y1 ∧ DataW.trod enc P W base spare held m f2.type [v2] = some y2 ∧ DataW.trod enc P W base spare held m f3.type [v3] = some y3 := by
 obtain ⟨y0, y1, y2, y3, m, _, _, h0, h1, h2, h3⟩ := Joins.trod_struct4 hs h
 obtain ⟨o0, k0⟩ := Go.Deep.hone_of hone 0 f0 rfl
 obtain ⟨o1, k1⟩ := Go.Deep.hone_of hone 1 f1 rfl
 obtain ⟨o2, k2⟩ := Go.Deep.hone_of hone 2 f2 rfl
 obtain ⟨o3, k3⟩ := Go.Deep.hone_of hone 3 f3 rfl
 exact ⟨y0, y1, y2, y3, m, by simpa [o0, k0] using h0, by simpa [o1, k1] using h1, by simpa [o2, k2] using h2, by simpa [o3, k3] using h3⟩
theorem elem_cells {H : Type} {enc : TypeId × Value → H} {W : World} {base : Nat} {spare : Nat → Bool} {held : Bool} {n : Nat} {cs : List Value} {y : DataW H × List MemPlace} (hc : cs.length = 4) (h : DataW.trod enc Tryz.prog W base spare held n 24 cs = some y) :
  ∃ x : PLS.S24, PLS.okS x ∧ cs = [.int .i64 x.f0, .int .u64 x.f1, .int .u64 x.f2, .string x.f3] := by
 obtain ⟨v0, v1, v2, v3, rfl⟩ : ∃ v0 v1 v2 v3, cs = [v0, v1, v2, v3] := by
  match cs, hc with
  | [a, b, c, d], _ => exact ⟨a, b, c, d, rfl⟩
 obtain ⟨y0, y1, y2, y3, m, h0, h1, h2, h3⟩ := agg4_cells Tryz.underlying24 (by kernel_rfl) h
 obtain ⟨t1, e0, _, u0⟩ := DataW.trod_int Tryz.underlying3 h0
 obtain ⟨a1, e1, _, u1⟩ := DataW.trod_int Tryz.underlying22 h1
 obtain ⟨b1, e2, _, u2⟩ := DataW.trod_int Tryz.underlying22 h2
 obtain ⟨s1, e3, _, u3⟩ := DataW.trod_string Tryz.underlying9 h3
 simp at e0 e1 e2 e3
 subst e0 e1 e2 e3
 exact ⟨⟨t1, a1, b1, s1⟩, ⟨u64_wf u1, u64_wf u2⟩, rfl⟩
theorem open_values {H : Type} {enc : TypeId × Value → H} {W : World} {base : Nat} {spare : Nat → Bool} {held : Bool} {a0 : Option Addr} {len cap : Nat} {d : DataW H} {p : List MemPlace} (h : DataW.Trod enc Tryz.prog W base spare held 52 (.slice a0 len cap) d p) :
  ∃ l : List PLS.S24, len = l.length ∧ l.length ≤ cap ∧ (∀ x ∈ l, PLS.okS x) ∧ Go.Proofs.YtmoimcblmmcffaaGreatW.PrintWords.Kd.C PLS.k24 W a0 l.length l := by
 obtain ⟨fuel, hf⟩ := h
 rcases Go.Deep.open_slice Tryz.underlying52 hf with ⟨hcs, _⟩ | ⟨a, len', cap', m, n, D, Pl, hcs, _, hl, hm, hmm, _, hi⟩
 ·simp [Value.cells] at hcs
  obtain ⟨rfl, rfl, rfl⟩ := hcs
  exact ⟨[], rfl, Nat.le_refl _, fun x hx => (by cases hx), Go.Proofs.YtmoimcblmmcffaaGreatW.PrintWords.Kd.C_nil _ _⟩
 ·simp [Value.cells] at hcs
  obtain ⟨rfl, rfl, rfl⟩ := hcs
  have hlm : len ≤ m := by rw [hmm]; split <;> omega
  have hel : ∀ i, i < len → ∃ x : PLS.S24, PLS.okS x ∧ ∀ j u, [Value.int .i64 x.f0, .int .u64 x.f1, .int .u64 x.f2, .string x.f3][j]? = some u → W.cell? (a.add (i * 4 + j)) = some u := by
   intro i hlt
   obtain ⟨cs', hc, ht⟩ := hi i (by omega)
   rw [value_cells] at hc
   obtain ⟨_, hcl, hat⟩ := World.cells?_some hc
   obtain ⟨x, hx, rfl⟩ := elem_cells hcl ht
   refine ⟨x, hx, fun j u hu => ?_⟩
   have hj : j < 4 := by
    have := (List.getElem?_eq_some_iff.1 hu).1
    simpa using this
   rw [← Go.Deep.add_add, hat j hj, hu]
  obtain ⟨f, hfx⟩ := Go.Deep.choose_lt hel
  refine ⟨(List.range len).map f, by simp, by simpa using hl, fun x hx => ?_, by simp, ?_, fun _ => ⟨a, rfl, fun j p hj => ?_⟩⟩
  ·obtain ⟨i, hi, rfl⟩ := List.mem_map.1 hx
   exact (hfx i (List.mem_range.1 hi)).1
  ·simp only [List.length_map, List.length_range]
   simp only [maxLen] at hm
   omega
  ·obtain ⟨hlt, he⟩ := List.getElem?_eq_some_iff.1 hj
   have hjl : j < len := by simpa using hlt
   have hp : p = f j := by rw [← he]; simp
   subst hp
   exact ⟨_, rfl, PLS.k24_mk W (f j), (hfx j hjl).2⟩
set_option maxRecDepth 100000 in
theorem complexesSums_lifted (os : Os) (started : os.Started) (H : Type) (enc : TypeId × Value → H) :
  ReturnsInHanded {} Tryz.checked os 7 .any (Rows.complexesSumsSpec.pre6 enc Tryz.prog Tryz.f7 Rows.complexesSumsRow.domain false) (Rows.complexesSumsSpec.post enc Tryz.prog Tryz.f7 false true false false) := by
 refine returnsInHanded_of_change_sized (C := Tryz.checked) own started (by kernel_rfl) Tryz.func7
  (ChangeSpec.witness6 (enc := enc) (C := Tryz.checked) false ⟨#[], #[.int .i64 0, .slice none 0 0, .slice none 0 0], []⟩ 8 (by kernel_rfl) (by kernel_rfl) (by kernel_rfl) (by kernel_rfl)) ?_
 intro W base args ds gs before hval0 hW hcnd hsz0 _
 have hval : ∀ (j : Nat) t v, Tryz.f7.params[j]? = some t → args[j]? = some v → Value.okWide Tryz.prog W .any base t v := hval0
 have hW' := hW
 obtain ⟨p, q, hA0, hV, rfl, hfz, hnd⟩ := hW
 have hA : DataW.TrodAll enc Tryz.prog W 0 (fun _ => true) true Tryz.f7.params.toList args.toList ds p := hA0
 rw [Tryz.params7] at hA hval
 obtain ⟨v0, vs0, d0, ds0, p0, q0, hargs, rfl, rfl, h0, r0⟩ := trodAll_cons hA
 obtain ⟨v1, vs1, d1, ds1, p1, q1, rfl, rfl, rfl, h1, r1⟩ := trodAll_cons r0
 obtain ⟨v2, vs2, d2, ds2, p2, q2, rfl, rfl, rfl, h2, r2⟩ := trodAll_cons r1
 obtain ⟨rfl, rfl, rfl⟩ := trodAll_nil r2
 obtain rfl : args = #[v0, v1, v2] := by cases args; simp_all
 obtain ⟨rfl, rfl⟩ := trodVars_none hV
 obtain ⟨z0, rfl, rfl, rfl, w0⟩ := open_int Tryz.underlying3 (hval 0 3 v0 rfl rfl) h0
 obtain ⟨a1, n1, c1, rfl⟩ := okWide_slice Tryz.underlying52 (hval 1 52 v1 rfl rfl)
 obtain ⟨a2, n2, c2, rfl⟩ := okWide_slice Tryz.underlying52 (hval 2 52 v2 rfl rfl)
 clear hA0 hA hval0 hsz0
 simp only [List.append_nil, List.nil_append] at hW'
 have hlt : ∀ x ∈ p1 ++ p2, x.block < W.heap.size := fun x hx => hW'.lt x (by simpa using hx)
 have again1 : ∀ (W' : World), Below W.heap.size W W' → DataW.Trod enc Tryz.prog W' 0 (fun b => decide (b < W.heap.size)) true 52 (.slice a1 n1 c1) d1 p1 :=
  fun W' hn => Below.trod (by kernel_rfl) (by kernel_rfl) (of_decide_eq_true (by kernel_rfl)) h1 hn (fun x hx => hlt x (List.mem_append_left _ hx))
 have again2 : ∀ (W' : World), Below W.heap.size W W' → DataW.Trod enc Tryz.prog W' 0 (fun b => decide (b < W.heap.size)) true 52 (.slice a2 n2 c2) d2 p2 :=
  fun W' hn => Below.trod (by kernel_rfl) (by kernel_rfl) (of_decide_eq_true (by kernel_rfl)) h2 hn (fun x hx => hlt x (List.mem_append_right _ hx))
 obtain ⟨l1, rfl, k1, o1, C1⟩ := open_values h1
 obtain ⟨l2, rfl, k2, o2, C2⟩ := open_values h2
 refine (PLS.l10_ComplexesSums.calls 502 z0 a1 c1 l1 a2 c2 l2 W C1 k1 C2 k2 (PLS.sums_f o1 o2 (by decide))).mono fun e W' ⟨he, bel⟩ => ?_
 subst he
 exact ⟨_, rfl, _, _, _, [], _, [], hW', trodAll_mk1 (shut_bool Tryz.underlying4 _), (trodAll_cons_mk (shut_int Tryz.underlying3 w0) (trodAll_cons_mk (again1 _ bel) (trodAll_cons_mk (again2 _ bel) trodAll_mk0))), rfl, bel.frame _, fun h => by cases h⟩
theorem complexesSums_over : Rows.complexesSumsRow.holds Tryz.pinned (OpenSpec.ofChange Rows.complexesSumsSpec) :=
 OpenClaim.holds_of_wide 7 Tryz.f7 rfl rfl rfl rfl rfl rfl rfl ⟨rfl, rfl, rfl, rfl, rfl⟩ rfl rfl rfl rfl rfl (by kernel_rfl) Tryz.func7 (by kernel_rfl)
  (of_decide_eq_true (by kernel_rfl)) (by unfold Func.isWrapper; first | (rw [if_pos (by decide +kernel)]; kernel_rfl) | (rw [if_neg (by decide +kernel)]; exact ⟨rfl, rfl⟩))
  (fun os started H enc _ => complexesSums_lifted os started H enc)
theorem complexesSums_holds : Rows.ComplexesSumsSaid := complexesSums_over
end Go.Proofs.YtmoimcblmmcffaaGreat.Law
