/- PROVED: formularylaw10.ComplexesRoots returns true for every input, and leaves its arguments as they were: the value with the other sign, the conjugate, the size, the square root and a power are as specified, or the errors. CONDITIONS: the row's own; nothing else. -/
import Derived.Test.YtmoimcblmmcffaaGreatQComplexesRootsA
import Derived.Test.YtmoimcblmmcffaaGreatQComplexesRootsJ
import Derived.Test.YtmoimcblmmcffaaGreatQComplexesRootsK
import Derived.Test.YtmoimcblmmcffaaGreatRows
import Derived.WalkKit
import Derived.ProofKit
import Derived.OpenShut
import Derived.ShutString
import Derived.ChangeOld
import Derived.Below
import Derived.SizedLaws
import Derived.Lib.SmallJoins

namespace Go.Proofs.YtmoimcblmmcffaaGreat.PLO
open Go.RowKit Go.Proofs.YtmoimcblmmcffaaGreat.PPC Go.Proofs.YtmoimcblmmcffaaGreat.PRA Go.Proofs.YtmoimcblmmcffaaGreat.PN Go.Proofs.YtmoimcblmmcffaaGreatW.PrintWords Go.Proofs.YtmoimcblmmcffaaGreatW.PrintLast Go.Proofs.YtmoimcblmmcffaaGreatW.PrintMore Go.Proofs.YtmoimcblmmcffaaGreatW.PrintZ
attribute [local go_sem] max2_int min2_int max_two min_two max_three min_three max_four min_four   -- for this text's walks alone
attribute [local go_sem high] Go.Proofs.YtmoimcblmmcffaaGreat.NC.fld0
set_option linter.unusedVariables false
set_option linter.unusedSimpArgs false
attribute [local go_sem high] eqA24
def l10_ComplexesRoots.j0 : Nat → Int → Int → Bool → Int → Int → Int → ByteArray → Int → Int → Int → ByteArray → Int → Int → Int → ByteArray → Option (Bool)
 | 0, _, _, _, _, _, _, _, _, _, _, _, _, _, _, _ => none
 | k + 1, x1, x14, x143, x219000, x219001, x219002, x219003, x251000, x251001, x251002, x251003, x252000, x252001, x252002, x252003 => if x143 = true then (some false) else ((r10_NumberErr.f x1).bind fun t267 => (if t267 = 0 then (if x14 = 0 then ((r10_Power.f k x219000 x219001 x219002 x219003 x1).bind fun bt268 => (some (x251000 == bt268.1 && (x251001 == bt268.2.1 && (x251002 == bt268.2.2.1 && (x251003.toList == bt268.2.2.2.toList)))))) else (some false)) else (if x14 = t267 then (some (x251000 == x252000 && (x251001 == x252001 && (x251002 == x252002 && (x251003.toList == x252003.toList))))) else (some false))))
def l10_ComplexesRoots.f (k : Nat) (a0_0 : Int) (a0_1 : Int) (a0_2 : Int) (a0_3 : ByteArray) (a1 : Int) : Option (Bool) := (l10_awake.f).bind fun t219 => (if t219 = true then ((l10_brief.f a0_0 a0_1 a0_2 a0_3).bind fun t220 => (if t220 = true then ((cx_Negated.f a0_0 a0_1 a0_2 a0_3).bind fun bt221 => ((cx_Conjugate.f a0_0 a0_1 a0_2 a0_3).bind fun bt227 => ((cx_SizeOf.f k a0_0 a0_1 a0_2 a0_3).bind fun bt233 => ((cx_SqrtOf.f a0_0 a0_1 a0_2 a0_3).bind fun bt239 => ((cx_PowerOf.f k a0_0 a0_1 a0_2 a0_3 a1).bind fun bt245 => ((r10_ValueErr.f a0_0 a0_1 a0_2 a0_3).bind fun t252 => (if t252 = 0 then (if bt221.2.2.2.2 = 0 then ((r10_Negated.f a0_0 a0_1 a0_2 a0_3).bind fun bt253 => (if (!(bt221.1 == bt253.1) || (!(bt221.2.1 == bt253.2.1) || (!(bt221.2.2.1 == bt253.2.2.1) || (!(bt221.2.2.2.1.toList == bt253.2.2.2.toList))))) = true then (l10_ComplexesRoots.j0 k a1 bt245.2.2.2.2 true a0_0 a0_1 a0_2 a0_3 bt245.1 bt245.2.1 bt245.2.2.1 bt245.2.2.2.1 0 0 0 (⟨#[]⟩ : ByteArray)) else (if bt227.2.2.2.2 = 0 then ((r10_Conjugate.f a0_0 a0_1 a0_2 a0_3).bind fun bt257 => (if (!(bt227.1 == bt257.1) || (!(bt227.2.1 == bt257.2.1) || (!(bt227.2.2.1 == bt257.2.2.1) || (!(bt227.2.2.2.1.toList == bt257.2.2.2.toList))))) = true then (l10_ComplexesRoots.j0 k a1 bt245.2.2.2.2 true a0_0 a0_1 a0_2 a0_3 bt245.1 bt245.2.1 bt245.2.2.1 bt245.2.2.2.1 0 0 0 (⟨#[]⟩ : ByteArray)) else (if bt233.2.2.2.2 = 0 then ((r10_PartType.f a0_0).bind fun t261 => ((r10_Size.f k a0_0 a0_1 a0_2 a0_3).bind fun t262 => (if (!(bt233.1 == t261) || (!(bt233.2.1 == t262) || (!(bt233.2.2.1 == 0) || (!(bt233.2.2.2.1.toList == ([] : List UInt8)))))) = true then (l10_ComplexesRoots.j0 k a1 bt245.2.2.2.2 true a0_0 a0_1 a0_2 a0_3 bt245.1 bt245.2.1 bt245.2.2.1 bt245.2.2.2.1 0 0 0 (⟨#[]⟩ : ByteArray)) else (if bt239.2.2.2.2 = 0 then ((r10_Sqrt.f k a0_0 a0_1 a0_2 a0_3).bind fun bt263 => (l10_ComplexesRoots.j0 k a1 bt245.2.2.2.2 (!(bt239.1 == bt263.1) || (!(bt239.2.1 == bt263.2.1) || (!(bt239.2.2.1 == bt263.2.2.1) || (!(bt239.2.2.2.1.toList == bt263.2.2.2.toList))))) a0_0 a0_1 a0_2 a0_3 bt245.1 bt245.2.1 bt245.2.2.1 bt245.2.2.2.1 0 0 0 (⟨#[]⟩ : ByteArray))) else (l10_ComplexesRoots.j0 k a1 bt245.2.2.2.2 true a0_0 a0_1 a0_2 a0_3 bt245.1 bt245.2.1 bt245.2.2.1 bt245.2.2.2.1 0 0 0 (⟨#[]⟩ : ByteArray)))))) else (l10_ComplexesRoots.j0 k a1 bt245.2.2.2.2 true a0_0 a0_1 a0_2 a0_3 bt245.1 bt245.2.1 bt245.2.2.1 bt245.2.2.2.1 0 0 0 (⟨#[]⟩ : ByteArray))))) else (l10_ComplexesRoots.j0 k a1 bt245.2.2.2.2 true a0_0 a0_1 a0_2 a0_3 bt245.1 bt245.2.1 bt245.2.2.1 bt245.2.2.2.1 0 0 0 (⟨#[]⟩ : ByteArray))))) else (l10_ComplexesRoots.j0 k a1 bt245.2.2.2.2 true a0_0 a0_1 a0_2 a0_3 bt245.1 bt245.2.1 bt245.2.2.1 bt245.2.2.2.1 0 0 0 (⟨#[]⟩ : ByteArray))) else (if bt221.2.2.2.2 = t252 then (if (bt221.1 == 0 && (bt221.2.1 == 0 && (bt221.2.2.1 == 0 && (bt221.2.2.2.1.toList == ([] : List UInt8))))) = true then (if bt227.2.2.2.2 = t252 then (if (bt227.1 == 0 && (bt227.2.1 == 0 && (bt227.2.2.1 == 0 && (bt227.2.2.2.1.toList == ([] : List UInt8))))) = true then (if bt233.2.2.2.2 = t252 then (if (bt233.1 == 0 && (bt233.2.1 == 0 && (bt233.2.2.1 == 0 && (bt233.2.2.2.1.toList == ([] : List UInt8))))) = true then (if bt239.2.2.2.2 = t252 then (if (bt239.1 == 0 && (bt239.2.1 == 0 && (bt239.2.2.1 == 0 && (bt239.2.2.2.1.toList == ([] : List UInt8))))) = true then (if bt245.2.2.2.2 = t252 then (some (bt245.1 == 0 && (bt245.2.1 == 0 && (bt245.2.2.1 == 0 && (bt245.2.2.2.1.toList == ([] : List UInt8)))))) else (some false)) else (some false)) else (some false)) else (some false)) else (some false)) else (some false)) else (some false)) else (some false)) else (some false))))))))) else (some true))) else (some false))
def l10_ComplexesRoots.T14 : Bool × List (List Nat × List Nat) := (true, [([], []), ([0], [0]), ([1], [1]), ([2], [2]), ([2], [2]), ([4, 2, 2], [2, 4]), ([3, 5, 2], [2, 3, 5]), ([2, 6], [2, 6]), ([7, 5], [7]), ([8], [8]), ([9, 8], [8, 9]), ([8, 10], [8, 10]), ([11, 8], [11]), ([12], [12]), ([12], [12]), ([14, 12, 12], [12, 14]), ([13, 15, 12], [12, 13, 15]), ([12, 16], [12, 16]), ([17, 15], [17]), ([18], [18]), ([19, 18], [18, 19]), ([18, 20], [18, 20]), ([21, 18], [21]), ([22], [22]), ([22], [22]), ([24, 22], [22, 24]), ([25, 22, 22], [22, 25]), ([22], [22]), ([27, 26, 22], [22, 27]), ([26, 28, 22], [22, 26, 28]), ([23, 29, 22], [22, 23, 29]), ([22, 30], [22, 30]), ([31, 28], [31]), ([32], [32]), ([33, 32], [32, 33]), ([32, 34], [32, 34]), ([35, 32], [35]), ([36], [36]), ([36], [36]), ([38, 36, 36], [36, 38]), ([37, 39, 36], [36, 37, 39]), ([36, 40], [36, 40])])
def l10_ComplexesRoots.B14 : List Nat := [0, 1, 3, 7, 7, 23, 63, 127, 255, 511, 1023, 2047, 4095, 8191, 8191, 24575, 65535, 131071, 262143, 524287, 1048575, 2097151, 4194303, 8388607, 8388607, 25165823, 58720255, 8388607, 260046847, 528482303, 1073741823, 2147483647, 4294967295, 8589934591, 17179869183, 34359738367, 68719476735, 137438953471, 137438953471, 412316860415, 1099511627775, 2199023255551]
theorem l10_ComplexesRoots.tab14 : rtab .any (opsOf Tryz.f6 14) = l10_ComplexesRoots.T14 := by kernel_rfl
theorem l10_ComplexesRoots.bits14 : waitsOk l10_ComplexesRoots.T14.2 l10_ComplexesRoots.B14 = true := by kernel_rfl
def l10_ComplexesRoots.T19 : Bool × List (List Nat × List Nat) := (true, [([], []), ([0], [0]), ([1], [1]), ([2], [2]), ([2], [2]), ([2], [2]), ([4, 5, 2, 2], [2, 4, 5]), ([3, 6, 2], [2, 3, 6]), ([2, 7], [2, 7]), ([8, 6, 0, 1, 2, 3, 4, 5, 6, 7, 8], [8])])
def l10_ComplexesRoots.B19 : List Nat := [0, 1, 3, 7, 7, 7, 55, 127, 255, 511]
theorem l10_ComplexesRoots.tab19 : rtab .any (opsOf Tryz.f6 19) = l10_ComplexesRoots.T19 := by kernel_rfl
theorem l10_ComplexesRoots.bits19 : waitsOk l10_ComplexesRoots.T19.2 l10_ComplexesRoots.B19 = true := by kernel_rfl
set_option maxHeartbeats 8000000 in
set_option maxRecDepth 100000 in
theorem l10_ComplexesRoots.calls (k : Nat) (a0_0 : Int) (a0_1 : Int) (a0_2 : Int) (a0_3 : ByteArray) (a1 : Int) (w : World) (h : l10_ComplexesRoots.f k a0_0 a0_1 a0_2 a0_3 a1 = some true) :
  Calls Tryz.prog 6 #[.agg #[.int .i64 a0_0, .int .u64 a0_1, .int .u64 a0_2, .string a0_3], .int .i64 a1] w fun e w' => e = .returned (.bool true) ∧ Below w.heap.size w w' := by
 have hu24 := Tryz.underlying24
 have HB := Zs.mk (Below.refl w.heap.size w)
 have H : ((l10_awake.f).bind fun t219 => (if t219 = true then ((l10_brief.f a0_0 a0_1 a0_2 a0_3).bind fun t220 => (if t220 = true then ((cx_Negated.f a0_0 a0_1 a0_2 a0_3).bind fun bt221 => ((cx_Conjugate.f a0_0 a0_1 a0_2 a0_3).bind fun bt227 => ((cx_SizeOf.f k a0_0 a0_1 a0_2 a0_3).bind fun bt233 => ((cx_SqrtOf.f a0_0 a0_1 a0_2 a0_3).bind fun bt239 => ((cx_PowerOf.f k a0_0 a0_1 a0_2 a0_3 a1).bind fun bt245 => ((r10_ValueErr.f a0_0 a0_1 a0_2 a0_3).bind fun t252 => (if t252 = 0 then (if bt221.2.2.2.2 = 0 then ((r10_Negated.f a0_0 a0_1 a0_2 a0_3).bind fun bt253 => (if (!(bt221.1 == bt253.1) || (!(bt221.2.1 == bt253.2.1) || (!(bt221.2.2.1 == bt253.2.2.1) || (!(bt221.2.2.2.1.toList == bt253.2.2.2.toList))))) = true then (l10_ComplexesRoots.j0 k a1 bt245.2.2.2.2 true a0_0 a0_1 a0_2 a0_3 bt245.1 bt245.2.1 bt245.2.2.1 bt245.2.2.2.1 0 0 0 (⟨#[]⟩ : ByteArray)) else (if bt227.2.2.2.2 = 0 then ((r10_Conjugate.f a0_0 a0_1 a0_2 a0_3).bind fun bt257 => (if (!(bt227.1 == bt257.1) || (!(bt227.2.1 == bt257.2.1) || (!(bt227.2.2.1 == bt257.2.2.1) || (!(bt227.2.2.2.1.toList == bt257.2.2.2.toList))))) = true then (l10_ComplexesRoots.j0 k a1 bt245.2.2.2.2 true a0_0 a0_1 a0_2 a0_3 bt245.1 bt245.2.1 bt245.2.2.1 bt245.2.2.2.1 0 0 0 (⟨#[]⟩ : ByteArray)) else (if bt233.2.2.2.2 = 0 then ((r10_PartType.f a0_0).bind fun t261 => ((r10_Size.f k a0_0 a0_1 a0_2 a0_3).bind fun t262 => (if (!(bt233.1 == t261) || (!(bt233.2.1 == t262) || (!(bt233.2.2.1 == 0) || (!(bt233.2.2.2.1.toList == ([] : List UInt8)))))) = true then (l10_ComplexesRoots.j0 k a1 bt245.2.2.2.2 true a0_0 a0_1 a0_2 a0_3 bt245.1 bt245.2.1 bt245.2.2.1 bt245.2.2.2.1 0 0 0 (⟨#[]⟩ : ByteArray)) else (if bt239.2.2.2.2 = 0 then ((r10_Sqrt.f k a0_0 a0_1 a0_2 a0_3).bind fun bt263 => (l10_ComplexesRoots.j0 k a1 bt245.2.2.2.2 (!(bt239.1 == bt263.1) || (!(bt239.2.1 == bt263.2.1) || (!(bt239.2.2.1 == bt263.2.2.1) || (!(bt239.2.2.2.1.toList == bt263.2.2.2.toList))))) a0_0 a0_1 a0_2 a0_3 bt245.1 bt245.2.1 bt245.2.2.1 bt245.2.2.2.1 0 0 0 (⟨#[]⟩ : ByteArray))) else (l10_ComplexesRoots.j0 k a1 bt245.2.2.2.2 true a0_0 a0_1 a0_2 a0_3 bt245.1 bt245.2.1 bt245.2.2.1 bt245.2.2.2.1 0 0 0 (⟨#[]⟩ : ByteArray)))))) else (l10_ComplexesRoots.j0 k a1 bt245.2.2.2.2 true a0_0 a0_1 a0_2 a0_3 bt245.1 bt245.2.1 bt245.2.2.1 bt245.2.2.2.1 0 0 0 (⟨#[]⟩ : ByteArray))))) else (l10_ComplexesRoots.j0 k a1 bt245.2.2.2.2 true a0_0 a0_1 a0_2 a0_3 bt245.1 bt245.2.1 bt245.2.2.1 bt245.2.2.2.1 0 0 0 (⟨#[]⟩ : ByteArray))))) else (l10_ComplexesRoots.j0 k a1 bt245.2.2.2.2 true a0_0 a0_1 a0_2 a0_3 bt245.1 bt245.2.1 bt245.2.2.1 bt245.2.2.2.1 0 0 0 (⟨#[]⟩ : ByteArray))) else (if bt221.2.2.2.2 = t252 then (if (bt221.1 == 0 && (bt221.2.1 == 0 && (bt221.2.2.1 == 0 && (bt221.2.2.2.1.toList == ([] : List UInt8))))) = true then (if bt227.2.2.2.2 = t252 then (if (bt227.1 == 0 && (bt227.2.1 == 0 && (bt227.2.2.1 == 0 && (bt227.2.2.2.1.toList == ([] : List UInt8))))) = true then (if bt233.2.2.2.2 = t252 then (if (bt233.1 == 0 && (bt233.2.1 == 0 && (bt233.2.2.1 == 0 && (bt233.2.2.2.1.toList == ([] : List UInt8))))) = true then (if bt239.2.2.2.2 = t252 then (if (bt239.1 == 0 && (bt239.2.1 == 0 && (bt239.2.2.1 == 0 && (bt239.2.2.2.1.toList == ([] : List UInt8))))) = true then (if bt245.2.2.2.2 = t252 then (some (bt245.1 == 0 && (bt245.2.1 == 0 && (bt245.2.2.1 == 0 && (bt245.2.2.2.1.toList == ([] : List UInt8)))))) else (some false)) else (some false)) else (some false)) else (some false)) else (some false)) else (some false)) else (some false)) else (some false)) else (some false))))))))) else (some true))) else (some false))) = some true := h
 clear h
 replace H := Option.bind_eq_some_iff.mp H
 obtain ⟨t219, A3, H⟩ := H
 try dsimp only at H
 replace A3 := Zs.mk A3
 by_cases c4 : t219 = true
 ·subst c4
  rw [if_pos rfl] at H
  replace H := Option.bind_eq_some_iff.mp H
  obtain ⟨t220, A5, H⟩ := H
  try dsimp only at H
  replace A5 := Zs.mk A5
  by_cases c6 : t220 = true
  ·subst c6
   rw [if_pos rfl] at H
   replace H := Option.bind_eq_some_iff.mp H
   obtain ⟨⟨t221, t222, t223, t224, t225⟩, A7, H⟩ := H
   try dsimp only at H
   replace A7 := Zs.mk A7
   replace H := Option.bind_eq_some_iff.mp H
   obtain ⟨⟨t227, t228, t229, t230, t231⟩, A8, H⟩ := H
   try dsimp only at H
   replace A8 := Zs.mk A8
   replace H := Option.bind_eq_some_iff.mp H
   obtain ⟨⟨t233, t234, t235, t236, t237⟩, A9, H⟩ := H
   try dsimp only at H
   replace A9 := Zs.mk A9
   replace H := Option.bind_eq_some_iff.mp H
   obtain ⟨⟨t239, t240, t241, t242, t243⟩, A10, H⟩ := H
   try dsimp only at H
   replace A10 := Zs.mk A10
   replace H := Option.bind_eq_some_iff.mp H
   obtain ⟨⟨t245, t246, t247, t248, t249⟩, A11, H⟩ := H
   try dsimp only at H
   replace A11 := Zs.mk A11
   replace H := Option.bind_eq_some_iff.mp H
   obtain ⟨t252, A12, H⟩ := H
   try dsimp only at H
   replace A12 := Zs.mk A12
   by_cases c13 : t252 = 0
   ·rw [if_pos c13] at H
    have c13b0 : (t252 == 0) = true := beq_iff_eq.mpr c13
    have c13b1 : (t252 != 0) = false := bne_eq_false_iff_eq.mpr c13
    clear c13
    have HC14 := Zs.mk H
    clear H
    go_enter Tryz.func6, Tryz.ntmps6
    go_upto_region 14 with (first | ((with_reducible refine gd_ (N := 2) rfl ?_); refine bxe 2 (cs := #[.int .i64 a0_0, .int .u64 a0_1, .int .u64 a0_2, .string a0_3]) (t := 24) ?_; intro gb218 hg w15 hbox hb; have BK218 := Zs.mk hbox; have GW218 := bsz HB hg; have GE218 := bsz HB hg; replace HB := bls HB hb; clear hb hbox hg) | ((with_reducible refine gc_ (f := 10) rfl ?_); refine gLc 18 Tryz.func10 (l10_awake.calls  true _ A3.out) (fun w16 hb => ?_); replace BK218 := bkb BK218 hb; replace HB := bls HB hb; clear hb; obtain ⟨hcz17_0, hcz17_1, hcz17_2, hcz17_3, hfz17_0, hfz17_1, hfz17_2, hfz17_3⟩ := cf4 BK218) | ((with_reducible refine gc_ (f := 11) rfl ?_); refine gLc 21 Tryz.func11 (l10_brief.calls a0_0 a0_1 a0_2 a0_3 true _ A5.out) (fun w18 hb => ?_); replace BK218 := bkb BK218 hb; replace HB := bls HB hb; clear hb; obtain ⟨hcz19_0, hcz19_1, hcz19_2, hcz19_3, hfz19_0, hfz19_1, hfz19_2, hfz19_3⟩ := cf4 BK218) | ((with_reducible refine gc_ (f := 27) rfl ?_); refine gLc 25 Tryz.func27 (cx_Negated.calls a0_0 a0_1 a0_2 a0_3 t221 t222 t223 t224 t225 _ A7.out) (fun w20 hb => ?_); replace BK218 := bkb BK218 hb; replace HB := bls HB hb; clear hb) | ((with_reducible refine gd_ (N := 5) rfl ?_); refine bxe 5 (cs := #[.int .i64 0, .int .u64 0, .int .u64 0, .string (⟨#[]⟩ : ByteArray)]) (t := 24) ?_; intro gb226 hg w21 hbox hb; have BK226 := Zs.mk hbox; have GW226 := bsz HB hg; have GE226 := bsz HB hg; have NB218_226 := bnl BK218 hg; have NB226_218 := bng BK218 hg; replace BK218 := bkb BK218 hb; replace HB := bls HB hb; clear hb hbox hg; have hnb22 := NB226_218.out; have hnc22 := NB218_226.out; obtain ⟨hcz23_0, hcz23_1, hcz23_2, hcz23_3, hfz23_0, hfz23_1, hfz23_2, hfz23_3⟩ := cf4 BK226; obtain ⟨hcz24_0, hcz24_1, hcz24_2, hcz24_3, hfz24_0, hfz24_1, hfz24_2, hfz24_3⟩ := cf4 BK218) | ((with_reducible refine gc_ (f := 25) rfl ?_); refine gLc 30 Tryz.func25 (cx_Conjugate.calls a0_0 a0_1 a0_2 a0_3 t227 t228 t229 t230 t231 _ A8.out) (fun w25 hb => ?_); replace BK218 := bkfb BK218 hb; replace BK226 := Zs.mk (blk_below (g := gb226) (o := .cells #[.int .i64 t221, .int .u64 t222, .int .u64 t223, .string t224] 24 (0, 0)) (by (with_reducible repeat (first | refine zn ?_ _ | refine zd ?_ | refine za ?_ _)); apply bp4; (with_reducible repeat (first | refine zn ?_ _ | refine zd ?_ | refine za ?_ _)); exact BK226.out) hb); replace HB := bls HB hb; clear hb) | ((with_reducible refine gd_ (N := 7) rfl ?_); refine bxe 7 (cs := #[.int .i64 0, .int .u64 0, .int .u64 0, .string (⟨#[]⟩ : ByteArray)]) (t := 24) ?_; intro gb232 hg w26 hbox hb; have BK232 := Zs.mk hbox; have GW232 := bsz HB hg; have GE232 := bsz HB hg; have NB218_232 := bnl BK218 hg; have NB232_218 := bng BK218 hg; have NB226_232 := bnl BK226 hg; have NB232_226 := bng BK226 hg; replace BK218 := bkb BK218 hb; replace BK226 := bkb BK226 hb; replace HB := bls HB hb; clear hb hbox hg; have hnb27 := NB232_218.out; have hnc27 := NB218_232.out; have hnb28 := NB232_226.out; have hnc28 := NB226_232.out; obtain ⟨hcz29_0, hcz29_1, hcz29_2, hcz29_3, hfz29_0, hfz29_1, hfz29_2, hfz29_3⟩ := cf4 BK232; obtain ⟨hcz30_0, hcz30_1, hcz30_2, hcz30_3, hfz30_0, hfz30_1, hfz30_2, hfz30_3⟩ := cf4 BK218) | ((with_reducible refine gc_ (f := 26) rfl ?_); refine gLc 35 Tryz.func26 (cx_SizeOf.calls k a0_0 a0_1 a0_2 a0_3 t233 t234 t235 t236 t237 _ A9.out) (fun w31 hb => ?_); replace BK218 := bkfb BK218 hb; replace BK226 := bkfb BK226 hb; replace BK232 := Zs.mk (blk_below (g := gb232) (o := .cells #[.int .i64 t227, .int .u64 t228, .int .u64 t229, .string t230] 24 (0, 0)) (by (with_reducible repeat (first | refine zn ?_ _ | refine zd ?_ | refine za ?_ _)); apply bp4; (with_reducible repeat (first | refine zn ?_ _ | refine zd ?_ | refine za ?_ _)); exact BK232.out) hb); replace HB := bls HB hb; clear hb) | ((with_reducible refine gd_ (N := 9) rfl ?_); refine bxe 9 (cs := #[.int .i64 0, .int .u64 0, .int .u64 0, .string (⟨#[]⟩ : ByteArray)]) (t := 24) ?_; intro gb238 hg w32 hbox hb; have BK238 := Zs.mk hbox; have GW238 := bsz HB hg; have GE238 := bsz HB hg; have NB218_238 := bnl BK218 hg; have NB238_218 := bng BK218 hg; have NB226_238 := bnl BK226 hg; have NB238_226 := bng BK226 hg; have NB232_238 := bnl BK232 hg; have NB238_232 := bng BK232 hg; replace BK218 := bkb BK218 hb; replace BK226 := bkb BK226 hb; replace BK232 := bkb BK232 hb; replace HB := bls HB hb; clear hb hbox hg; have hnb33 := NB238_218.out; have hnc33 := NB218_238.out; have hnb34 := NB238_226.out; have hnc34 := NB226_238.out; have hnb35 := NB238_232.out; have hnc35 := NB232_238.out; obtain ⟨hcz36_0, hcz36_1, hcz36_2, hcz36_3, hfz36_0, hfz36_1, hfz36_2, hfz36_3⟩ := cf4 BK238; obtain ⟨hcz37_0, hcz37_1, hcz37_2, hcz37_3, hfz37_0, hfz37_1, hfz37_2, hfz37_3⟩ := cf4 BK218) | ((with_reducible refine gc_ (f := 28) rfl ?_); refine gLc 40 Tryz.func28 (cx_SqrtOf.calls a0_0 a0_1 a0_2 a0_3 t239 t240 t241 t242 t243 _ A10.out) (fun w38 hb => ?_); replace BK218 := bkfb BK218 hb; replace BK226 := bkfb BK226 hb; replace BK232 := bkfb BK232 hb; replace BK238 := Zs.mk (blk_below (g := gb238) (o := .cells #[.int .i64 t233, .int .u64 t234, .int .u64 t235, .string t236] 24 (0, 0)) (by (with_reducible repeat (first | refine zn ?_ _ | refine zd ?_ | refine za ?_ _)); apply bp4; (with_reducible repeat (first | refine zn ?_ _ | refine zd ?_ | refine za ?_ _)); exact BK238.out) hb); replace HB := bls HB hb; clear hb) | ((with_reducible refine gd_ (N := 11) rfl ?_); refine bxe 11 (cs := #[.int .i64 0, .int .u64 0, .int .u64 0, .string (⟨#[]⟩ : ByteArray)]) (t := 24) ?_; intro gb244 hg w39 hbox hb; have BK244 := Zs.mk hbox; have GW244 := bsz HB hg; have GE244 := bsz HB hg; have NB218_244 := bnl BK218 hg; have NB244_218 := bng BK218 hg; have NB226_244 := bnl BK226 hg; have NB244_226 := bng BK226 hg; have NB232_244 := bnl BK232 hg; have NB244_232 := bng BK232 hg; have NB238_244 := bnl BK238 hg; have NB244_238 := bng BK238 hg; replace BK218 := bkb BK218 hb; replace BK226 := bkb BK226 hb; replace BK232 := bkb BK232 hb; replace BK238 := bkb BK238 hb; replace HB := bls HB hb; clear hb hbox hg; have hnb40 := NB244_218.out; have hnc40 := NB218_244.out; have hnb41 := NB244_226.out; have hnc41 := NB226_244.out; have hnb42 := NB244_232.out; have hnc42 := NB232_244.out; have hnb43 := NB244_238.out; have hnc43 := NB238_244.out; obtain ⟨hcz44_0, hcz44_1, hcz44_2, hcz44_3, hfz44_0, hfz44_1, hfz44_2, hfz44_3⟩ := cf4 BK244; obtain ⟨hcz45_0, hcz45_1, hcz45_2, hcz45_3, hfz45_0, hfz45_1, hfz45_2, hfz45_3⟩ := cf4 BK218) | ((with_reducible refine gc_ (f := 22) rfl ?_); refine gLc 46 Tryz.func22 (cx_PowerOf.calls k a0_0 a0_1 a0_2 a0_3 a1 t245 t246 t247 t248 t249 _ A11.out) (fun w46 hb => ?_); replace BK218 := bkfb BK218 hb; replace BK226 := bkfb BK226 hb; replace BK232 := bkfb BK232 hb; replace BK238 := bkfb BK238 hb; replace BK244 := Zs.mk (blk_below (g := gb244) (o := .cells #[.int .i64 t239, .int .u64 t240, .int .u64 t241, .string t242] 24 (0, 0)) (by (with_reducible repeat (first | refine zn ?_ _ | refine zd ?_ | refine za ?_ _)); apply bp4; (with_reducible repeat (first | refine zn ?_ _ | refine zd ?_ | refine za ?_ _)); exact BK244.out) hb); replace HB := bls HB hb; clear hb) | ((with_reducible refine gd_ (N := 13) rfl ?_); refine bxe 13 (cs := #[.int .i64 0, .int .u64 0, .int .u64 0, .string (⟨#[]⟩ : ByteArray)]) (t := 24) ?_; intro gb250 hg w47 hbox hb; have BK250 := Zs.mk hbox; have GW250 := bsz HB hg; have GE250 := bsz HB hg; have NB218_250 := bnl BK218 hg; have NB250_218 := bng BK218 hg; have NB226_250 := bnl BK226 hg; have NB250_226 := bng BK226 hg; have NB232_250 := bnl BK232 hg; have NB250_232 := bng BK232 hg; have NB238_250 := bnl BK238 hg; have NB250_238 := bng BK238 hg; have NB244_250 := bnl BK244 hg; have NB250_244 := bng BK244 hg; replace BK218 := bkb BK218 hb; replace BK226 := bkb BK226 hb; replace BK232 := bkb BK232 hb; replace BK238 := bkb BK238 hb; replace BK244 := bkb BK244 hb; replace HB := bls HB hb; clear hb hbox hg; have hnb48 := NB250_218.out; have hnc48 := NB218_250.out; have hnb49 := NB250_226.out; have hnc49 := NB226_250.out; have hnb50 := NB250_232.out; have hnc50 := NB232_250.out; have hnb51 := NB250_238.out; have hnc51 := NB238_250.out; have hnb52 := NB250_244.out; have hnc52 := NB244_250.out; obtain ⟨hcz53_0, hcz53_1, hcz53_2, hcz53_3, hfz53_0, hfz53_1, hfz53_2, hfz53_3⟩ := cf4 BK250) | ((with_reducible refine gd_ (N := 15) rfl ?_); refine bxe 15 (cs := #[.int .i64 0, .int .u64 0, .int .u64 0, .string (⟨#[]⟩ : ByteArray)]) (t := 24) ?_; intro gb251 hg w54 hbox hb; have BK251 := Zs.mk hbox; have GW251 := bsz HB hg; have GE251 := bsz HB hg; have NB218_251 := Zs.mk ((by rw [hg]; exact Nat.ne_of_lt (blk_lt (g := gb218) (o := .cells #[.int .i64 a0_0, .int .u64 a0_1, .int .u64 a0_2, .string a0_3] 24 (0, 0)) (bkf BK218).out) : gb218 ≠ gb251)); have NB251_218 := Zs.mk ((by rw [hg]; exact Nat.ne_of_gt (blk_lt (g := gb218) (o := .cells #[.int .i64 a0_0, .int .u64 a0_1, .int .u64 a0_2, .string a0_3] 24 (0, 0)) (bkf BK218).out) : gb251 ≠ gb218)); have NB226_251 := Zs.mk ((by rw [hg]; exact Nat.ne_of_lt (blk_lt (g := gb226) (o := .cells #[.int .i64 t221, .int .u64 t222, .int .u64 t223, .string t224] 24 (0, 0)) (bkf BK226).out) : gb226 ≠ gb251)); have NB251_226 := Zs.mk ((by rw [hg]; exact Nat.ne_of_gt (blk_lt (g := gb226) (o := .cells #[.int .i64 t221, .int .u64 t222, .int .u64 t223, .string t224] 24 (0, 0)) (bkf BK226).out) : gb251 ≠ gb226)); have NB232_251 := Zs.mk ((by rw [hg]; exact Nat.ne_of_lt (blk_lt (g := gb232) (o := .cells #[.int .i64 t227, .int .u64 t228, .int .u64 t229, .string t230] 24 (0, 0)) (bkf BK232).out) : gb232 ≠ gb251)); have NB251_232 := Zs.mk ((by rw [hg]; exact Nat.ne_of_gt (blk_lt (g := gb232) (o := .cells #[.int .i64 t227, .int .u64 t228, .int .u64 t229, .string t230] 24 (0, 0)) (bkf BK232).out) : gb251 ≠ gb232)); have NB238_251 := Zs.mk ((by rw [hg]; exact Nat.ne_of_lt (blk_lt (g := gb238) (o := .cells #[.int .i64 t233, .int .u64 t234, .int .u64 t235, .string t236] 24 (0, 0)) (bkf BK238).out) : gb238 ≠ gb251)); have NB251_238 := Zs.mk ((by rw [hg]; exact Nat.ne_of_gt (blk_lt (g := gb238) (o := .cells #[.int .i64 t233, .int .u64 t234, .int .u64 t235, .string t236] 24 (0, 0)) (bkf BK238).out) : gb251 ≠ gb238)); have NB244_251 := Zs.mk ((by rw [hg]; exact Nat.ne_of_lt (blk_lt (g := gb244) (o := .cells #[.int .i64 t239, .int .u64 t240, .int .u64 t241, .string t242] 24 (0, 0)) (bkf BK244).out) : gb244 ≠ gb251)); have NB251_244 := Zs.mk ((by rw [hg]; exact Nat.ne_of_gt (blk_lt (g := gb244) (o := .cells #[.int .i64 t239, .int .u64 t240, .int .u64 t241, .string t242] 24 (0, 0)) (bkf BK244).out) : gb251 ≠ gb244)); have NB250_251 := Zs.mk ((by rw [hg]; exact Nat.ne_of_lt (blk_lt (g := gb250) (o := .cells #[.int .i64 t245, .int .u64 t246, .int .u64 t247, .string t248] 24 (0, 0)) (by (with_reducible repeat (first | refine zn ?_ _ | refine zd ?_ | refine za ?_ _)); apply bp4; (with_reducible repeat (first | refine zn ?_ _ | refine zd ?_ | refine za ?_ _)); exact BK250.out)) : gb250 ≠ gb251)); have NB251_250 := Zs.mk ((by rw [hg]; exact Nat.ne_of_gt (blk_lt (g := gb250) (o := .cells #[.int .i64 t245, .int .u64 t246, .int .u64 t247, .string t248] 24 (0, 0)) (by (with_reducible repeat (first | refine zn ?_ _ | refine zd ?_ | refine za ?_ _)); apply bp4; (with_reducible repeat (first | refine zn ?_ _ | refine zd ?_ | refine za ?_ _)); exact BK250.out)) : gb251 ≠ gb250)); replace BK218 := bkfb BK218 hb; replace BK226 := bkfb BK226 hb; replace BK232 := bkfb BK232 hb; replace BK238 := bkfb BK238 hb; replace BK244 := bkfb BK244 hb; replace BK250 := Zs.mk (blk_below (g := gb250) (o := .cells #[.int .i64 t245, .int .u64 t246, .int .u64 t247, .string t248] 24 (0, 0)) (by (with_reducible repeat (first | refine zn ?_ _ | refine zd ?_ | refine za ?_ _)); apply bp4; (with_reducible repeat (first | refine zn ?_ _ | refine zd ?_ | refine za ?_ _)); exact BK250.out) hb); replace HB := bls HB hb; clear hb hbox hg; have hnb55 := NB251_218.out; have hnc55 := NB218_251.out; have hnb56 := NB251_226.out; have hnc56 := NB226_251.out; have hnb57 := NB251_232.out; have hnc57 := NB232_251.out; have hnb58 := NB251_238.out; have hnc58 := NB238_251.out; have hnb59 := NB251_244.out; have hnc59 := NB244_251.out; have hnb60 := NB251_250.out; have hnc60 := NB250_251.out; obtain ⟨hcz61_0, hcz61_1, hcz61_2, hcz61_3, hfz61_0, hfz61_1, hfz61_2, hfz61_3⟩ := cf4 BK251; obtain ⟨hcz62_0, hcz62_1, hcz62_2, hcz62_3, hfz62_0, hfz62_1, hfz62_2, hfz62_3⟩ := cf4 BK218) | ((with_reducible refine gc_ (f := 29) rfl ?_); refine gLc 51 Tryz.func29 (r10_ValueErr.calls a0_0 a0_1 a0_2 a0_3 t252 _ A12.out) (fun w63 hb => ?_); replace BK218 := bkfb BK218 hb; replace BK226 := bkfb BK226 hb; replace BK232 := bkfb BK232 hb; replace BK238 := bkfb BK238 hb; replace BK244 := bkfb BK244 hb; replace BK250 := bkfb BK250 hb; replace BK251 := Zs.mk (blk_below (g := gb251) (o := .cells #[.int .i64 0, .int .u64 0, .int .u64 0, .string (⟨#[]⟩ : ByteArray)] 24 (0, 0)) (by (with_reducible repeat (first | refine zn ?_ _ | refine zd ?_ | refine za ?_ _)); apply bp4; (with_reducible repeat (first | refine zn ?_ _ | refine zd ?_ | refine za ?_ _)); exact BK251.out) hb); replace HB := bls HB hb; clear hb))
    (try simp only [Act.put, List.setIfInBounds_toArray, List.set_cons_zero, List.set_cons_succ])
    go_cut [143] (fun v143 wc => ∃ (kq : Nat) (x143_13 : Bool), v143 = .bool x143_13 ∧ Zs (l10_ComplexesRoots.j0 kq a1 t249 x143_13 a0_0 a0_1 a0_2 a0_3 t245 t246 t247 t248 0 0 0 (⟨#[]⟩ : ByteArray) = some true) ∧ Zs (kq ≤ k) ∧ Zs (wc.heap[gb218]? = some (.cells #[.int .i64 a0_0, .int .u64 a0_1, .int .u64 a0_2, .string a0_3] 24 (0, 0))) ∧ Zs (wc.heap[gb226]? = some (.cells #[.int .i64 t221, .int .u64 t222, .int .u64 t223, .string t224] 24 (0, 0))) ∧ Zs (wc.heap[gb232]? = some (.cells #[.int .i64 t227, .int .u64 t228, .int .u64 t229, .string t230] 24 (0, 0))) ∧ Zs (wc.heap[gb238]? = some (.cells #[.int .i64 t233, .int .u64 t234, .int .u64 t235, .string t236] 24 (0, 0))) ∧ Zs (wc.heap[gb244]? = some (.cells #[.int .i64 t239, .int .u64 t240, .int .u64 t241, .string t242] 24 (0, 0))) ∧ Zs (wc.heap[gb250]? = some (.cells #[.int .i64 t245, .int .u64 t246, .int .u64 t247, .string t248] 24 (0, 0))) ∧ Zs (wc.heap[gb251]? = some (.cells #[.int .i64 0, .int .u64 0, .int .u64 0, .string (⟨#[]⟩ : ByteArray)] 24 (0, 0))) ∧ Zs (Below w.heap.size w wc))
    case first =>
     have H := HC14.out
     clear HC14
     by_cases c64 : t225 = 0
     ·rw [if_pos c64] at H
      have c64b0 : (t225 == 0) = true := beq_iff_eq.mpr c64
      have c64b1 : (t225 != 0) = false := bne_eq_false_iff_eq.mpr c64
      clear c64
      (first | rw [c64b0] | (simp only [i64_w, i32_w]; rw [c64b0]) | skip)
      replace H := Option.bind_eq_some_iff.mp H
      obtain ⟨⟨t253, t254, t255, t256⟩, A65, H⟩ := H
      try dsimp only at H
      replace A65 := Zs.mk A65
      by_cases c66 : (!(t221 == t253) || (!(t222 == t254) || (!(t223 == t255) || (!(t224.toList == t256.toList))))) = true
      ·rw [if_pos c66] at H
       have c66b0 : (!(t221 == t253) || (!(t222 == t254) || (!(t223 == t255) || (!(t224.toList == t256.toList))))) = true := c66
       clear c66
       exact absurd H (by first | decide | (cases k <;> simp [l10_ComplexesRoots.j0]))
      ·rw [if_neg c66] at H
       have c66b0 : (!(t221 == t253) || (!(t222 == t254) || (!(t223 == t255) || (!(t224.toList == t256.toList))))) = false := by simpa using c66
       clear c66
       by_cases c67 : t231 = 0
       ·rw [if_pos c67] at H
        have c67b0 : (t231 == 0) = true := beq_iff_eq.mpr c67
        have c67b1 : (t231 != 0) = false := bne_eq_false_iff_eq.mpr c67
        clear c67
        replace H := Option.bind_eq_some_iff.mp H
        obtain ⟨⟨t257, t258, t259, t260⟩, A68, H⟩ := H
        try dsimp only at H
        replace A68 := Zs.mk A68
        by_cases c69 : (!(t227 == t257) || (!(t228 == t258) || (!(t229 == t259) || (!(t230.toList == t260.toList))))) = true
        ·rw [if_pos c69] at H
         have c69b0 : (!(t227 == t257) || (!(t228 == t258) || (!(t229 == t259) || (!(t230.toList == t260.toList))))) = true := c69
         clear c69
         exact absurd H (by first | decide | (cases k <;> simp [l10_ComplexesRoots.j0]))
        ·rw [if_neg c69] at H
         have c69b0 : (!(t227 == t257) || (!(t228 == t258) || (!(t229 == t259) || (!(t230.toList == t260.toList))))) = false := by simpa using c69
         clear c69
         by_cases c70 : t237 = 0
         ·rw [if_pos c70] at H
          have c70b0 : (t237 == 0) = true := beq_iff_eq.mpr c70
          have c70b1 : (t237 != 0) = false := bne_eq_false_iff_eq.mpr c70
          clear c70
          replace H := Option.bind_eq_some_iff.mp H
          obtain ⟨t261, A71, H⟩ := H
          try dsimp only at H
          replace A71 := Zs.mk A71
          replace H := Option.bind_eq_some_iff.mp H
          obtain ⟨t262, A72, H⟩ := H
          try dsimp only at H
          replace A72 := Zs.mk A72
          by_cases c73 : (!(t233 == t261) || (!(t234 == t262) || (!(t235 == 0) || (!(t236.toList == ([] : List UInt8)))))) = true
          ·rw [if_pos c73] at H
           have c73b0 : (!(t233 == t261) || (!(t234 == t262) || (!(t235 == 0) || (!(t236.toList == ([] : List UInt8)))))) = true := c73
           have c73b0z := c73b0
           simp only [beqn] at c73b0z
           clear c73
           exact absurd H (by first | decide | (cases k <;> simp [l10_ComplexesRoots.j0]))
          ·rw [if_neg c73] at H
           have c73b0 : (!(t233 == t261) || (!(t234 == t262) || (!(t235 == 0) || (!(t236.toList == ([] : List UInt8)))))) = false := by simpa using c73
           have c73b0z := c73b0
           simp only [beqn] at c73b0z
           clear c73
           by_cases c74 : t243 = 0
           ·rw [if_pos c74] at H
            have c74b0 : (t243 == 0) = true := beq_iff_eq.mpr c74
            have c74b1 : (t243 != 0) = false := bne_eq_false_iff_eq.mpr c74
            clear c74
            replace H := Option.bind_eq_some_iff.mp H
            obtain ⟨⟨t263, t264, t265, t266⟩, A75, H⟩ := H
            try dsimp only at H
            replace A75 := Zs.mk A75
            have H' := Zs.mk H
            clear H
            try go_wp2
            replace BK218 := Zs.mk (zd BK218.out)
            replace BK226 := Zs.mk (zd BK226.out)
            replace BK232 := Zs.mk (zd BK232.out)
            replace BK238 := Zs.mk (zd BK238.out)
            replace BK244 := Zs.mk (zd BK244.out)
            replace BK250 := Zs.mk (zd BK250.out)
            replace BK251 := Zs.mk (zd BK251.out)
            replace HB := Zs.mk (below_drew1 HB.out)
            refine start_ (n := 42) (S := fun w' => w'.cell? ⟨gb226, 0, none⟩ = some (.int .i64 t221) ∧ w'.cell? ⟨gb226, 1, none⟩ = some (.int .u64 t222) ∧ w'.cell? ⟨gb226, 2, none⟩ = some (.int .u64 t223) ∧ w'.cell? ⟨gb226, 3, none⟩ = some (.string t224) ∧ w'.cell? ⟨gb218, 0, none⟩ = some (.int .i64 a0_0) ∧ w'.cell? ⟨gb218, 1, none⟩ = some (.int .u64 a0_1) ∧ w'.cell? ⟨gb218, 2, none⟩ = some (.int .u64 a0_2) ∧ w'.cell? ⟨gb218, 3, none⟩ = some (.string a0_3) ∧ w'.cell? ⟨gb232, 0, none⟩ = some (.int .i64 t227) ∧ w'.cell? ⟨gb232, 1, none⟩ = some (.int .u64 t228) ∧ w'.cell? ⟨gb232, 2, none⟩ = some (.int .u64 t229) ∧ w'.cell? ⟨gb232, 3, none⟩ = some (.string t230) ∧ w'.cell? ⟨gb238, 0, none⟩ = some (.int .i64 t233) ∧ w'.cell? ⟨gb238, 1, none⟩ = some (.int .u64 t234) ∧ w'.cell? ⟨gb238, 2, none⟩ = some (.int .u64 t235) ∧ w'.cell? ⟨gb238, 3, none⟩ = some (.string t236) ∧ w'.cell? ⟨gb244, 0, none⟩ = some (.int .i64 t239) ∧ w'.cell? ⟨gb244, 1, none⟩ = some (.int .u64 t240) ∧ w'.cell? ⟨gb244, 2, none⟩ = some (.int .u64 t241) ∧ w'.cell? ⟨gb244, 3, none⟩ = some (.string t242)) (ds := []) #[false, false, false, false, false, false, false, false, false, false, false, false, false, false, false, false, false, false, false, false, false, false, false, false, false, false, false, false, false, false, false, false, false, false, false, false, false, false, false, false, false, false] (by kernel_rfl) rfl rfl ⟨(zc BK226.out 0).trans rfl, (zc BK226.out 1).trans rfl, (zc BK226.out 2).trans rfl, (zc BK226.out 3).trans rfl, (zc BK218.out 0).trans rfl, (zc BK218.out 1).trans rfl, (zc BK218.out 2).trans rfl, (zc BK218.out 3).trans rfl, (zc BK232.out 0).trans rfl, (zc BK232.out 1).trans rfl, (zc BK232.out 2).trans rfl, (zc BK232.out 3).trans rfl, (zc BK238.out 0).trans rfl, (zc BK238.out 1).trans rfl, (zc BK238.out 2).trans rfl, (zc BK238.out 3).trans rfl, (zc BK244.out 0).trans rfl, (zc BK244.out 1).trans rfl, (zc BK244.out 2).trans rfl, (zc BK244.out 3).trans rfl⟩ (fun hHeld => ?_); refine with_tabW l10_ComplexesRoots.tab14 l10_ComplexesRoots.bits14 (fun HT_ HW_ => ?_)
            generalize w63.drew = w76 at BK218 BK226 BK232 BK238 BK244 BK250 BK251 HB hHeld ⊢
            refine pu 0 102 HT_ ?_
            refine pu 1 103 HT_ ?_
            refine pu 2 104 HT_ ?_
            refine tk 3 105 HT_ HW_ hHeld ?_
            refine tk 4 106 HT_ HW_ hHeld ?_
            refine on 5 107 HT_ (fun K hK => ?_)
            refine gsc Tryz.func30 (r10_Negated.calls a0_0 a0_1 a0_2 a0_3 t253 t254 t255 t256 _ A65.out) (fun w77 hb => ?_)
            replace BK218 := bkb BK218 hb
            replace BK226 := bkb BK226 hb
            replace BK232 := bkb BK232 hb
            replace BK238 := bkb BK238 hb
            replace BK244 := bkb BK244 hb
            replace BK250 := bkb BK250 hb
            replace BK251 := bkb BK251 hb
            replace HB := bls HB hb
            (try clear hb)
            (try clear hb2)
            (try clear hk)
            (try clear hi)
            refine hK.out _ _ ⟨(zc BK226.out 0).trans rfl, (zc BK226.out 1).trans rfl, (zc BK226.out 2).trans rfl, (zc BK226.out 3).trans rfl, (zc BK218.out 0).trans rfl, (zc BK218.out 1).trans rfl, (zc BK218.out 2).trans rfl, (zc BK218.out 3).trans rfl, (zc BK232.out 0).trans rfl, (zc BK232.out 1).trans rfl, (zc BK232.out 2).trans rfl, (zc BK232.out 3).trans rfl, (zc BK238.out 0).trans rfl, (zc BK238.out 1).trans rfl, (zc BK238.out 2).trans rfl, (zc BK238.out 3).trans rfl, (zc BK244.out 0).trans rfl, (zc BK244.out 1).trans rfl, (zc BK244.out 2).trans rfl, (zc BK244.out 3).trans rfl⟩ (fun hHeld => ?_)
            clear hK K
            refine nm 107 ?_
            refine pu 6 108 HT_ ?_
            refine pu 7 109 HT_ ?_
            refine pu 8 110 HT_ ?_
            refine pu 9 111 HT_ ?_
            refine pu 10 112 HT_ ?_
            refine pu 11 113 HT_ ?_
            refine pu 12 114 HT_ ?_
            refine tk 13 115 HT_ HW_ hHeld ?_
            refine tk 14 116 HT_ HW_ hHeld ?_
            refine on 15 117 HT_ (fun K hK => ?_)
            refine gsc Tryz.func31 (r10_Conjugate.calls a0_0 a0_1 a0_2 a0_3 t257 t258 t259 t260 _ A68.out) (fun w78 hb => ?_)
            replace BK218 := bkb BK218 hb
            replace BK226 := bkb BK226 hb
            replace BK232 := bkb BK232 hb
            replace BK238 := bkb BK238 hb
            replace BK244 := bkb BK244 hb
            replace BK250 := bkb BK250 hb
            replace BK251 := bkb BK251 hb
            replace HB := bls HB hb
            (try clear hb)
            (try clear hb2)
            (try clear hk)
            (try clear hi)
            refine hK.out _ _ ⟨(zc BK226.out 0).trans rfl, (zc BK226.out 1).trans rfl, (zc BK226.out 2).trans rfl, (zc BK226.out 3).trans rfl, (zc BK218.out 0).trans rfl, (zc BK218.out 1).trans rfl, (zc BK218.out 2).trans rfl, (zc BK218.out 3).trans rfl, (zc BK232.out 0).trans rfl, (zc BK232.out 1).trans rfl, (zc BK232.out 2).trans rfl, (zc BK232.out 3).trans rfl, (zc BK238.out 0).trans rfl, (zc BK238.out 1).trans rfl, (zc BK238.out 2).trans rfl, (zc BK238.out 3).trans rfl, (zc BK244.out 0).trans rfl, (zc BK244.out 1).trans rfl, (zc BK244.out 2).trans rfl, (zc BK244.out 3).trans rfl⟩ (fun hHeld => ?_)
            clear hK K
            refine nm 117 ?_
            refine pu 16 118 HT_ ?_
            refine pu 17 119 HT_ ?_
            refine pu 18 120 HT_ ?_
            refine pu 19 121 HT_ ?_
            refine pu 20 122 HT_ ?_
            refine pu 21 123 HT_ ?_
            refine pu 22 124 HT_ ?_
            refine pu 24 126 HT_ ?_
            refine tk 23 125 HT_ HW_ hHeld ?_
            refine tk 25 127 HT_ HW_ hHeld ?_
            refine tk 27 129 HT_ HW_ hHeld ?_
            refine on 26 128 HT_ (fun K hK => ?_)
            refine gsc Tryz.func16 (r10_PartType.calls a0_0 t261 _ A71.out) (fun _ h_ => ?_)
            obtain ⟨nd, rfl⟩ := h_
            refine hK.out _ _ ⟨(zc BK226.out 0).trans rfl, (zc BK226.out 1).trans rfl, (zc BK226.out 2).trans rfl, (zc BK226.out 3).trans rfl, (zc BK218.out 0).trans rfl, (zc BK218.out 1).trans rfl, (zc BK218.out 2).trans rfl, (zc BK218.out 3).trans rfl, (zc BK232.out 0).trans rfl, (zc BK232.out 1).trans rfl, (zc BK232.out 2).trans rfl, (zc BK232.out 3).trans rfl, (zc BK238.out 0).trans rfl, (zc BK238.out 1).trans rfl, (zc BK238.out 2).trans rfl, (zc BK238.out 3).trans rfl, (zc BK244.out 0).trans rfl, (zc BK244.out 1).trans rfl, (zc BK244.out 2).trans rfl, (zc BK244.out 3).trans rfl⟩ (fun hHeld => ?_)
            clear hK K
            refine nm 128 ?_
            refine on 28 130 HT_ (fun K hK => ?_)
            refine gsc Tryz.func32 (r10_Size.calls k a0_0 a0_1 a0_2 a0_3 t262 _ A72.out) (fun w79 hb => ?_)
            replace BK218 := bkb BK218 hb
            replace BK226 := bkb BK226 hb
            replace BK232 := bkb BK232 hb
            replace BK238 := bkb BK238 hb
            replace BK244 := bkb BK244 hb
            replace BK250 := bkb BK250 hb
            replace BK251 := bkb BK251 hb
            replace HB := bls HB hb
            (try clear hb)
            (try clear hb2)
            (try clear hk)
            (try clear hi)
            refine hK.out _ _ ⟨(zc BK226.out 0).trans rfl, (zc BK226.out 1).trans rfl, (zc BK226.out 2).trans rfl, (zc BK226.out 3).trans rfl, (zc BK218.out 0).trans rfl, (zc BK218.out 1).trans rfl, (zc BK218.out 2).trans rfl, (zc BK218.out 3).trans rfl, (zc BK232.out 0).trans rfl, (zc BK232.out 1).trans rfl, (zc BK232.out 2).trans rfl, (zc BK232.out 3).trans rfl, (zc BK238.out 0).trans rfl, (zc BK238.out 1).trans rfl, (zc BK238.out 2).trans rfl, (zc BK238.out 3).trans rfl, (zc BK244.out 0).trans rfl, (zc BK244.out 1).trans rfl, (zc BK244.out 2).trans rfl, (zc BK244.out 3).trans rfl⟩ (fun hHeld => ?_)
            clear hK K
            refine nm 130 ?_
            refine pu 29 131 HT_ ?_
            refine pu 30 132 HT_ ?_
            refine pu 31 133 HT_ ?_
            refine pu 32 134 HT_ ?_
            refine pu 33 135 HT_ ?_
            refine pu 34 136 HT_ ?_
            refine pu 35 137 HT_ ?_
            refine pu 36 138 HT_ ?_
            refine tk 37 139 HT_ HW_ hHeld ?_
            refine tk 38 140 HT_ HW_ hHeld ?_
            refine on 39 141 HT_ (fun K hK => ?_)
            refine gsc Tryz.func33 (r10_Sqrt.calls k a0_0 a0_1 a0_2 a0_3 t263 t264 t265 t266 _ A75.out) (fun w80 hb => ?_)
            replace BK218 := bkb BK218 hb
            replace BK226 := bkb BK226 hb
            replace BK232 := bkb BK232 hb
            replace BK238 := bkb BK238 hb
            replace BK244 := bkb BK244 hb
            replace BK250 := bkb BK250 hb
            replace BK251 := bkb BK251 hb
            replace HB := bls HB hb
            (try clear hb)
            (try clear hb2)
            (try clear hk)
            (try clear hi)
            refine hK.out _ _ ⟨(zc BK226.out 0).trans rfl, (zc BK226.out 1).trans rfl, (zc BK226.out 2).trans rfl, (zc BK226.out 3).trans rfl, (zc BK218.out 0).trans rfl, (zc BK218.out 1).trans rfl, (zc BK218.out 2).trans rfl, (zc BK218.out 3).trans rfl, (zc BK232.out 0).trans rfl, (zc BK232.out 1).trans rfl, (zc BK232.out 2).trans rfl, (zc BK232.out 3).trans rfl, (zc BK238.out 0).trans rfl, (zc BK238.out 1).trans rfl, (zc BK238.out 2).trans rfl, (zc BK238.out 3).trans rfl, (zc BK244.out 0).trans rfl, (zc BK244.out 1).trans rfl, (zc BK244.out 2).trans rfl, (zc BK244.out 3).trans rfl⟩ (fun hHeld => ?_)
            clear hK K
            refine nm 141 ?_
            refine pu 40 142 HT_ ?_
            refine pu 41 143 HT_ ?_
            refine done_ (done_of HT_.out (by kernel_rfl)) ?_
            try go_wp2
            go_meet
            case rel => exact ⟨_, ((!(t239 == t263) || (!(t240 == t264) || (!(t241 == t265) || (!(t242.toList == t266.toList)))))), (by first | rfl | (simp; done) | (simp [*]; done)), H', ⟨by first | omega | exact Nat.le_refl _⟩, bks BK218, bks BK226, bks BK232, bks BK238, bks BK244, bks BK250, bks BK251, blt HB⟩
           ·rw [if_neg c74] at H
            have c74b0 : (t243 == 0) = false := beq_eq_false_iff_ne.mpr c74
            have c74b1 : (t243 != 0) = true := bne_iff_ne.mpr c74
            exact absurd H (by first | decide | (cases k <;> simp [l10_ComplexesRoots.j0]))
         ·rw [if_neg c70] at H
          have c70b0 : (t237 == 0) = false := beq_eq_false_iff_ne.mpr c70
          have c70b1 : (t237 != 0) = true := bne_iff_ne.mpr c70
          exact absurd H (by first | decide | (cases k <;> simp [l10_ComplexesRoots.j0]))
       ·rw [if_neg c67] at H
        have c67b0 : (t231 == 0) = false := beq_eq_false_iff_ne.mpr c67
        have c67b1 : (t231 != 0) = true := bne_iff_ne.mpr c67
        exact absurd H (by first | decide | (cases k <;> simp [l10_ComplexesRoots.j0]))
     ·rw [if_neg c64] at H
      have c64b0 : (t225 == 0) = false := beq_eq_false_iff_ne.mpr c64
      have c64b1 : (t225 != 0) = true := bne_iff_ne.mpr c64
      (first | rw [c64b0] | (simp only [i64_w, i32_w]; rw [c64b0]) | skip)
      exact absurd H (by first | decide | (cases k <;> simp [l10_ComplexesRoots.j0]))
    case rest =>
     clear HC14
     try clear c1
     try clear p2
     try clear c3
     try clear c6
     try clear c7
     try clear c16
     try clear c30
     try clear c31
     try clear c32
     try clear c33
     try clear c64
     try clear c64b0
     try clear c64b1
     try clear c66
     try clear c66b0
     try clear c67
     try clear c67b0
     try clear c67b1
     try clear c69
     try clear c69b0
     try clear c70
     try clear c70b0
     try clear c70b1
     try clear c73
     try clear c73b0
     try clear c74
     try clear c74b0
     try clear c74b1
     obtain ⟨kq, x143_13, rfl, HA, HJ13, BK218, BK226, BK232, BK238, BK244, BK250, BK251, HB⟩ := hcut
     cases kq with
     | zero => exact absurd HA.out (by simp [l10_ComplexesRoots.j0])
     | succ kj13 =>
      have H := HA.out
      clear HA
      simp only [l10_ComplexesRoots.j0] at H
      by_cases c81 : x143_13 = true
      ·subst c81
       rw [if_pos rfl] at H
       exact absurd H (by first | decide | (cases kj13 <;> simp [l10_ComplexesRoots.j0]))
      ·replace c81 := Bool.eq_false_iff.mpr c81
       subst c81
       rw [if_neg (show ¬ (false = true) by decide)] at H
       replace H := Option.bind_eq_some_iff.mp H
       obtain ⟨t267, A82, H⟩ := H
       try dsimp only at H
       replace A82 := Zs.mk A82
       by_cases c83 : t267 = 0
       ·rw [if_pos c83] at H
        have c83b0 : (t267 == 0) = true := beq_iff_eq.mpr c83
        have c83b1 : (t267 != 0) = false := bne_eq_false_iff_eq.mpr c83
        clear c83
        by_cases c84 : t249 = 0
        ·rw [if_pos c84] at H
         have c84b0 : (t249 == 0) = true := beq_iff_eq.mpr c84
         have c84b1 : (t249 != 0) = false := bne_eq_false_iff_eq.mpr c84
         clear c84
         replace H := Option.bind_eq_some_iff.mp H
         obtain ⟨⟨t268, t269, t270, t271⟩, A85, H⟩ := H
         try dsimp only at H
         replace A85 := Zs.mk A85
         have HR_ := Option.some.inj H
         clear H
         have HRz_ := HR_
         (try simp only [show ((⟨#[]⟩ : ByteArray).toList) = ([] : List UInt8) from by simp [ByteArray.toList, ByteArray.toList.loop, ByteArray.size]] at HRz_)
         (try simp only [beqn] at HRz_)
         try go_wp2_with (first | ((with_reducible refine gc_ (f := 34) rfl ?_); refine gLc 145 Tryz.func34 (r10_NumberErr.calls a1 t267 _ A82.out) (fun _ h_ => ?_); obtain ⟨nd, rfl⟩ := h_))
         (try (rw [drewN_self wc]; generalize hq_ : World.drewN wc _ = wc; have n0_ : Zs (wc.heap[gb218]? = some (.cells #[.int .i64 a0_0, .int .u64 a0_1, .int .u64 a0_2, .string a0_3] 24 (0, 0))) := ⟨by rw [← hq_]; exact (bks BK218).out⟩; have n1_ : Zs (wc.heap[gb226]? = some (.cells #[.int .i64 t221, .int .u64 t222, .int .u64 t223, .string t224] 24 (0, 0))) := ⟨by rw [← hq_]; exact (bks BK226).out⟩; have n2_ : Zs (wc.heap[gb232]? = some (.cells #[.int .i64 t227, .int .u64 t228, .int .u64 t229, .string t230] 24 (0, 0))) := ⟨by rw [← hq_]; exact (bks BK232).out⟩; have n3_ : Zs (wc.heap[gb238]? = some (.cells #[.int .i64 t233, .int .u64 t234, .int .u64 t235, .string t236] 24 (0, 0))) := ⟨by rw [← hq_]; exact (bks BK238).out⟩; have n4_ : Zs (wc.heap[gb244]? = some (.cells #[.int .i64 t239, .int .u64 t240, .int .u64 t241, .string t242] 24 (0, 0))) := ⟨by rw [← hq_]; exact (bks BK244).out⟩; have n5_ : Zs (wc.heap[gb250]? = some (.cells #[.int .i64 t245, .int .u64 t246, .int .u64 t247, .string t248] 24 (0, 0))) := ⟨by rw [← hq_]; exact (bks BK250).out⟩; have n6_ : Zs (wc.heap[gb251]? = some (.cells #[.int .i64 0, .int .u64 0, .int .u64 0, .string (⟨#[]⟩ : ByteArray)] 24 (0, 0))) := ⟨by rw [← hq_]; exact (bks BK251).out⟩; have n7_ : Zs (Below w.heap.size w wc) := ⟨by rw [← hq_]; exact (blt HB).out⟩; clear BK218 BK226 BK232 BK238 BK244 BK250 BK251 HB hq_; have BK218 := n0_; have BK226 := n1_; have BK232 := n2_; have BK238 := n3_; have BK244 := n4_; have BK250 := n5_; have BK251 := n6_; have HB := n7_; clear n0_ n1_ n2_ n3_ n4_ n5_ n6_ n7_))
         replace BK218 := Zs.mk (zd BK218.out)
         replace BK226 := Zs.mk (zd BK226.out)
         replace BK232 := Zs.mk (zd BK232.out)
         replace BK238 := Zs.mk (zd BK238.out)
         replace BK244 := Zs.mk (zd BK244.out)
         replace BK250 := Zs.mk (zd BK250.out)
         replace BK251 := Zs.mk (zd BK251.out)
         replace HB := Zs.mk (below_drew1 HB.out)
         refine start_ (n := 10) (S := fun w' => w'.cell? ⟨gb250, 0, none⟩ = some (.int .i64 t245) ∧ w'.cell? ⟨gb250, 1, none⟩ = some (.int .u64 t246) ∧ w'.cell? ⟨gb250, 2, none⟩ = some (.int .u64 t247) ∧ w'.cell? ⟨gb250, 3, none⟩ = some (.string t248) ∧ w'.cell? ⟨gb218, 0, none⟩ = some (.int .i64 a0_0) ∧ w'.cell? ⟨gb218, 1, none⟩ = some (.int .u64 a0_1) ∧ w'.cell? ⟨gb218, 2, none⟩ = some (.int .u64 a0_2) ∧ w'.cell? ⟨gb218, 3, none⟩ = some (.string a0_3)) (ds := []) #[false, false, false, false, false, false, false, false, false, false] (by kernel_rfl) rfl rfl ⟨(zc BK250.out 0).trans rfl, (zc BK250.out 1).trans rfl, (zc BK250.out 2).trans rfl, (zc BK250.out 3).trans rfl, (zc BK218.out 0).trans rfl, (zc BK218.out 1).trans rfl, (zc BK218.out 2).trans rfl, (zc BK218.out 3).trans rfl⟩ (fun hHeld => ?_); refine with_tabW l10_ComplexesRoots.tab19 l10_ComplexesRoots.bits19 (fun HT_ HW_ => ?_)
         generalize wc.drew = w86 at BK218 BK226 BK232 BK238 BK244 BK250 BK251 HB hHeld ⊢
         refine pu 0 156 HT_ ?_
         refine pu 1 157 HT_ ?_
         refine pu 2 158 HT_ ?_
         refine pu 5 161 HT_ ?_
         refine tk 3 159 HT_ HW_ hHeld ?_
         refine tk 4 160 HT_ HW_ hHeld ?_
         refine on 6 162 HT_ (fun K hK => ?_)
         refine gsc Tryz.func35 (r10_Power.calls kj13 a0_0 a0_1 a0_2 a0_3 a1 t268 t269 t270 t271 _ A85.out) (fun w87 hb => ?_)
         replace BK218 := bkb BK218 hb
         replace BK226 := bkb BK226 hb
         replace BK232 := bkb BK232 hb
         replace BK238 := bkb BK238 hb
         replace BK244 := bkb BK244 hb
         replace BK250 := bkb BK250 hb
         replace BK251 := bkb BK251 hb
         replace HB := bls HB hb
         (try clear hb)
         (try clear hb2)
         (try clear hk)
         (try clear hi)
         refine hK.out _ _ ⟨(zc BK250.out 0).trans rfl, (zc BK250.out 1).trans rfl, (zc BK250.out 2).trans rfl, (zc BK250.out 3).trans rfl, (zc BK218.out 0).trans rfl, (zc BK218.out 1).trans rfl, (zc BK218.out 2).trans rfl, (zc BK218.out 3).trans rfl⟩ (fun hHeld => ?_)
         clear hK K
         refine nm 162 ?_
         refine pu 7 163 HT_ ?_
         refine pu 8 164 HT_ ?_
         refine pu 9 4 HT_ ?_
         refine done_ (done_of HT_.out (by kernel_rfl)) ?_
         try go_wp2
         go_ret
         exact ⟨by first | rfl | (rw [HR_]; done) | (rw [HRz_]; done) | (simp only [HR_]; done) | (simp [errW_none, errW_some] <;> rfl) | (simp [*, errW_none, errW_some] <;> rfl), (blt HB).out⟩
        ·rw [if_neg c84] at H
         have c84b0 : (t249 == 0) = false := beq_eq_false_iff_ne.mpr c84
         have c84b1 : (t249 != 0) = true := bne_iff_ne.mpr c84
         exact absurd H (by first | decide | (cases kj13 <;> simp [l10_ComplexesRoots.j0]))
       ·rw [if_neg c83] at H
        have c83b0 : (t267 == 0) = false := beq_eq_false_iff_ne.mpr c83
        have c83b1 : (t267 != 0) = true := bne_iff_ne.mpr c83
        by_cases c88 : t249 = t267
        ·rw [if_pos c88] at H
         have c88b0 : (t249 == t267) = true := beq_iff_eq.mpr c88
         have c88b1 : (t249 != t267) = false := bne_eq_false_iff_eq.mpr c88
         clear c88
         have HR_ := Option.some.inj H
         clear H
         have HRz_ := HR_
         (try simp only [show ((⟨#[]⟩ : ByteArray).toList) = ([] : List UInt8) from by simp [ByteArray.toList, ByteArray.toList.loop, ByteArray.size]] at HRz_)
         (try simp only [beqn] at HRz_)
         go_wp2_with (first | ((with_reducible refine gc_ (f := 34) rfl ?_); refine gLc 145 Tryz.func34 (r10_NumberErr.calls a1 t267 _ A82.out) (fun _ h_ => ?_); obtain ⟨nd, rfl⟩ := h_; have hnb89 := NB250_218.out; have hnc89 := NB218_250.out; have hnb90 := NB250_226.out; have hnc90 := NB226_250.out; have hnb91 := NB250_232.out; have hnc91 := NB232_250.out; have hnb92 := NB250_238.out; have hnc92 := NB238_250.out; have hnb93 := NB250_244.out; have hnc93 := NB244_250.out; have hnb94 := NB250_251.out; have hnc94 := NB251_250.out; obtain ⟨hcz95_0, hcz95_1, hcz95_2, hcz95_3, hfz95_0, hfz95_1, hfz95_2, hfz95_3⟩ := cf4 BK250; have hnb96 := NB251_218.out; have hnc96 := NB218_251.out; have hnb97 := NB251_226.out; have hnc97 := NB226_251.out; have hnb98 := NB251_232.out; have hnc98 := NB232_251.out; have hnb99 := NB251_238.out; have hnc99 := NB238_251.out; have hnb100 := NB251_244.out; have hnc100 := NB244_251.out; obtain ⟨hcz101_0, hcz101_1, hcz101_2, hcz101_3, hfz101_0, hfz101_1, hfz101_2, hfz101_3⟩ := cf4 BK251))
         go_ret
         exact ⟨by first | rfl | (rw [HR_]; done) | (rw [HRz_]; done) | (simp only [HR_]; done) | (simp [errW_none, errW_some] <;> rfl) | (simp [*, errW_none, errW_some] <;> rfl), (blt HB).out⟩
        ·rw [if_neg c88] at H
         have c88b0 : (t249 == t267) = false := beq_eq_false_iff_ne.mpr c88
         have c88b1 : (t249 != t267) = true := bne_iff_ne.mpr c88
         exact absurd H (by first | decide | (cases kj13 <;> simp [l10_ComplexesRoots.j0]))
   ·rw [if_neg c13] at H
    have c13b0 : (t252 == 0) = false := beq_eq_false_iff_ne.mpr c13
    have c13b1 : (t252 != 0) = true := bne_iff_ne.mpr c13
    by_cases c102 : t225 = t252
    ·rw [if_pos c102] at H
     have c102b0 : (t225 == t252) = true := beq_iff_eq.mpr c102
     have c102b1 : (t225 != t252) = false := bne_eq_false_iff_eq.mpr c102
     clear c102
     by_cases c103 : (t221 == 0 && (t222 == 0 && (t223 == 0 && (t224.toList == ([] : List UInt8))))) = true
     ·rw [if_pos c103] at H
      have c103b0 : (t221 == 0 && (t222 == 0 && (t223 == 0 && (t224.toList == ([] : List UInt8))))) = true := c103
      have c103b0z := c103b0
      simp only [beqn] at c103b0z
      (try (have c103b1 : decide (t221 = 0 && (t222 == 0 && (t223 == 0 && (t224.toList == ([] : List UInt8))))) = true := by simpa using c103))
      (try (have c103b2 : (t221 == 0 && (t222 == 0 && (t223 == 0 && (t224.toList == ([] : List UInt8))))) = true := by simpa using c103))
      clear c103
      by_cases c104 : t231 = t252
      ·rw [if_pos c104] at H
       have c104b0 : (t231 == t252) = true := beq_iff_eq.mpr c104
       have c104b1 : (t231 != t252) = false := bne_eq_false_iff_eq.mpr c104
       clear c104
       by_cases c105 : (t227 == 0 && (t228 == 0 && (t229 == 0 && (t230.toList == ([] : List UInt8))))) = true
       ·rw [if_pos c105] at H
        have c105b0 : (t227 == 0 && (t228 == 0 && (t229 == 0 && (t230.toList == ([] : List UInt8))))) = true := c105
        have c105b0z := c105b0
        simp only [beqn] at c105b0z
        (try (have c105b1 : decide (t227 = 0 && (t228 == 0 && (t229 == 0 && (t230.toList == ([] : List UInt8))))) = true := by simpa using c105))
        (try (have c105b2 : (t227 == 0 && (t228 == 0 && (t229 == 0 && (t230.toList == ([] : List UInt8))))) = true := by simpa using c105))
        clear c105
        by_cases c106 : t237 = t252
        ·rw [if_pos c106] at H
         have c106b0 : (t237 == t252) = true := beq_iff_eq.mpr c106
         have c106b1 : (t237 != t252) = false := bne_eq_false_iff_eq.mpr c106
         clear c106
         by_cases c107 : (t233 == 0 && (t234 == 0 && (t235 == 0 && (t236.toList == ([] : List UInt8))))) = true
         ·rw [if_pos c107] at H
          have c107b0 : (t233 == 0 && (t234 == 0 && (t235 == 0 && (t236.toList == ([] : List UInt8))))) = true := c107
          have c107b0z := c107b0
          simp only [beqn] at c107b0z
          (try (have c107b1 : decide (t233 = 0 && (t234 == 0 && (t235 == 0 && (t236.toList == ([] : List UInt8))))) = true := by simpa using c107))
          (try (have c107b2 : (t233 == 0 && (t234 == 0 && (t235 == 0 && (t236.toList == ([] : List UInt8))))) = true := by simpa using c107))
          clear c107
          by_cases c108 : t243 = t252
          ·rw [if_pos c108] at H
           have c108b0 : (t243 == t252) = true := beq_iff_eq.mpr c108
           have c108b1 : (t243 != t252) = false := bne_eq_false_iff_eq.mpr c108
           clear c108
           by_cases c109 : (t239 == 0 && (t240 == 0 && (t241 == 0 && (t242.toList == ([] : List UInt8))))) = true
           ·rw [if_pos c109] at H
            have c109b0 : (t239 == 0 && (t240 == 0 && (t241 == 0 && (t242.toList == ([] : List UInt8))))) = true := c109
            have c109b0z := c109b0
            simp only [beqn] at c109b0z
            (try (have c109b1 : decide (t239 = 0 && (t240 == 0 && (t241 == 0 && (t242.toList == ([] : List UInt8))))) = true := by simpa using c109))
            (try (have c109b2 : (t239 == 0 && (t240 == 0 && (t241 == 0 && (t242.toList == ([] : List UInt8))))) = true := by simpa using c109))
            clear c109
            by_cases c110 : t249 = t252
            ·rw [if_pos c110] at H
             have c110b0 : (t249 == t252) = true := beq_iff_eq.mpr c110
             have c110b1 : (t249 != t252) = false := bne_eq_false_iff_eq.mpr c110
             clear c110
             have HR_ := Option.some.inj H
             clear H
             have HRz_ := HR_
             (try simp only [show ((⟨#[]⟩ : ByteArray).toList) = ([] : List UInt8) from by simp [ByteArray.toList, ByteArray.toList.loop, ByteArray.size]] at HRz_)
             (try simp only [beqn] at HRz_)
             go_enter Tryz.func6, Tryz.ntmps6
             go_wp2_with (first | ((with_reducible refine gd_ (N := 2) rfl ?_); refine bxe 2 (cs := #[.int .i64 a0_0, .int .u64 a0_1, .int .u64 a0_2, .string a0_3]) (t := 24) ?_; intro gb218 hg w111 hbox hb; have BK218 := Zs.mk hbox; have GW218 := bsz HB hg; have GE218 := bsz HB hg; replace HB := bls HB hb; clear hb hbox hg) | ((with_reducible refine gc_ (f := 10) rfl ?_); refine gLc 18 Tryz.func10 (l10_awake.calls  true _ A3.out) (fun w112 hb => ?_); replace BK218 := bkb BK218 hb; replace HB := bls HB hb; clear hb; obtain ⟨hcz113_0, hcz113_1, hcz113_2, hcz113_3, hfz113_0, hfz113_1, hfz113_2, hfz113_3⟩ := cf4 BK218) | ((with_reducible refine gc_ (f := 11) rfl ?_); refine gLc 21 Tryz.func11 (l10_brief.calls a0_0 a0_1 a0_2 a0_3 true _ A5.out) (fun w114 hb => ?_); replace BK218 := bkb BK218 hb; replace HB := bls HB hb; clear hb; obtain ⟨hcz115_0, hcz115_1, hcz115_2, hcz115_3, hfz115_0, hfz115_1, hfz115_2, hfz115_3⟩ := cf4 BK218) | ((with_reducible refine gc_ (f := 27) rfl ?_); refine gLc 25 Tryz.func27 (cx_Negated.calls a0_0 a0_1 a0_2 a0_3 t221 t222 t223 t224 t225 _ A7.out) (fun w116 hb => ?_); replace BK218 := bkb BK218 hb; replace HB := bls HB hb; clear hb) | ((with_reducible refine gd_ (N := 5) rfl ?_); refine bxe 5 (cs := #[.int .i64 0, .int .u64 0, .int .u64 0, .string (⟨#[]⟩ : ByteArray)]) (t := 24) ?_; intro gb226 hg w117 hbox hb; have BK226 := Zs.mk hbox; have GW226 := bsz HB hg; have GE226 := bsz HB hg; have NB218_226 := bnl BK218 hg; have NB226_218 := bng BK218 hg; replace BK218 := bkb BK218 hb; replace HB := bls HB hb; clear hb hbox hg; have hnb118 := NB226_218.out; have hnc118 := NB218_226.out; obtain ⟨hcz119_0, hcz119_1, hcz119_2, hcz119_3, hfz119_0, hfz119_1, hfz119_2, hfz119_3⟩ := cf4 BK226; obtain ⟨hcz120_0, hcz120_1, hcz120_2, hcz120_3, hfz120_0, hfz120_1, hfz120_2, hfz120_3⟩ := cf4 BK218) | ((with_reducible refine gc_ (f := 25) rfl ?_); refine gLc 30 Tryz.func25 (cx_Conjugate.calls a0_0 a0_1 a0_2 a0_3 t227 t228 t229 t230 t231 _ A8.out) (fun w121 hb => ?_); replace BK218 := bkfb BK218 hb; replace BK226 := Zs.mk (blk_below (g := gb226) (o := .cells #[.int .i64 t221, .int .u64 t222, .int .u64 t223, .string t224] 24 (0, 0)) (by (with_reducible repeat (first | refine zn ?_ _ | refine zd ?_ | refine za ?_ _)); apply bp4; (with_reducible repeat (first | refine zn ?_ _ | refine zd ?_ | refine za ?_ _)); exact BK226.out) hb); replace HB := bls HB hb; clear hb) | ((with_reducible refine gd_ (N := 7) rfl ?_); refine bxe 7 (cs := #[.int .i64 0, .int .u64 0, .int .u64 0, .string (⟨#[]⟩ : ByteArray)]) (t := 24) ?_; intro gb232 hg w122 hbox hb; have BK232 := Zs.mk hbox; have GW232 := bsz HB hg; have GE232 := bsz HB hg; have NB218_232 := bnl BK218 hg; have NB232_218 := bng BK218 hg; have NB226_232 := bnl BK226 hg; have NB232_226 := bng BK226 hg; replace BK218 := bkb BK218 hb; replace BK226 := bkb BK226 hb; replace HB := bls HB hb; clear hb hbox hg; have hnb123 := NB232_218.out; have hnc123 := NB218_232.out; have hnb124 := NB232_226.out; have hnc124 := NB226_232.out; obtain ⟨hcz125_0, hcz125_1, hcz125_2, hcz125_3, hfz125_0, hfz125_1, hfz125_2, hfz125_3⟩ := cf4 BK232; obtain ⟨hcz126_0, hcz126_1, hcz126_2, hcz126_3, hfz126_0, hfz126_1, hfz126_2, hfz126_3⟩ := cf4 BK218) | ((with_reducible refine gc_ (f := 26) rfl ?_); refine gLc 35 Tryz.func26 (cx_SizeOf.calls k a0_0 a0_1 a0_2 a0_3 t233 t234 t235 t236 t237 _ A9.out) (fun w127 hb => ?_); replace BK218 := bkfb BK218 hb; replace BK226 := bkfb BK226 hb; replace BK232 := Zs.mk (blk_below (g := gb232) (o := .cells #[.int .i64 t227, .int .u64 t228, .int .u64 t229, .string t230] 24 (0, 0)) (by (with_reducible repeat (first | refine zn ?_ _ | refine zd ?_ | refine za ?_ _)); apply bp4; (with_reducible repeat (first | refine zn ?_ _ | refine zd ?_ | refine za ?_ _)); exact BK232.out) hb); replace HB := bls HB hb; clear hb) | ((with_reducible refine gd_ (N := 9) rfl ?_); refine bxe 9 (cs := #[.int .i64 0, .int .u64 0, .int .u64 0, .string (⟨#[]⟩ : ByteArray)]) (t := 24) ?_; intro gb238 hg w128 hbox hb; have BK238 := Zs.mk hbox; have GW238 := bsz HB hg; have GE238 := bsz HB hg; have NB218_238 := bnl BK218 hg; have NB238_218 := bng BK218 hg; have NB226_238 := bnl BK226 hg; have NB238_226 := bng BK226 hg; have NB232_238 := bnl BK232 hg; have NB238_232 := bng BK232 hg; replace BK218 := bkb BK218 hb; replace BK226 := bkb BK226 hb; replace BK232 := bkb BK232 hb; replace HB := bls HB hb; clear hb hbox hg; have hnb129 := NB238_218.out; have hnc129 := NB218_238.out; have hnb130 := NB238_226.out; have hnc130 := NB226_238.out; have hnb131 := NB238_232.out; have hnc131 := NB232_238.out; obtain ⟨hcz132_0, hcz132_1, hcz132_2, hcz132_3, hfz132_0, hfz132_1, hfz132_2, hfz132_3⟩ := cf4 BK238; obtain ⟨hcz133_0, hcz133_1, hcz133_2, hcz133_3, hfz133_0, hfz133_1, hfz133_2, hfz133_3⟩ := cf4 BK218) | ((with_reducible refine gc_ (f := 28) rfl ?_); refine gLc 40 Tryz.func28 (cx_SqrtOf.calls a0_0 a0_1 a0_2 a0_3 t239 t240 t241 t242 t243 _ A10.out) (fun w134 hb => ?_); replace BK218 := bkfb BK218 hb; replace BK226 := bkfb BK226 hb; replace BK232 := bkfb BK232 hb; replace BK238 := Zs.mk (blk_below (g := gb238) (o := .cells #[.int .i64 t233, .int .u64 t234, .int .u64 t235, .string t236] 24 (0, 0)) (by (with_reducible repeat (first | refine zn ?_ _ | refine zd ?_ | refine za ?_ _)); apply bp4; (with_reducible repeat (first | refine zn ?_ _ | refine zd ?_ | refine za ?_ _)); exact BK238.out) hb); replace HB := bls HB hb; clear hb) | ((with_reducible refine gd_ (N := 11) rfl ?_); refine bxe 11 (cs := #[.int .i64 0, .int .u64 0, .int .u64 0, .string (⟨#[]⟩ : ByteArray)]) (t := 24) ?_; intro gb244 hg w135 hbox hb; have BK244 := Zs.mk hbox; have GW244 := bsz HB hg; have GE244 := bsz HB hg; have NB218_244 := bnl BK218 hg; have NB244_218 := bng BK218 hg; have NB226_244 := bnl BK226 hg; have NB244_226 := bng BK226 hg; have NB232_244 := bnl BK232 hg; have NB244_232 := bng BK232 hg; have NB238_244 := bnl BK238 hg; have NB244_238 := bng BK238 hg; replace BK218 := bkb BK218 hb; replace BK226 := bkb BK226 hb; replace BK232 := bkb BK232 hb; replace BK238 := bkb BK238 hb; replace HB := bls HB hb; clear hb hbox hg; have hnb136 := NB244_218.out; have hnc136 := NB218_244.out; have hnb137 := NB244_226.out; have hnc137 := NB226_244.out; have hnb138 := NB244_232.out; have hnc138 := NB232_244.out; have hnb139 := NB244_238.out; have hnc139 := NB238_244.out; obtain ⟨hcz140_0, hcz140_1, hcz140_2, hcz140_3, hfz140_0, hfz140_1, hfz140_2, hfz140_3⟩ := cf4 BK244; obtain ⟨hcz141_0, hcz141_1, hcz141_2, hcz141_3, hfz141_0, hfz141_1, hfz141_2, hfz141_3⟩ := cf4 BK218) | ((with_reducible refine gc_ (f := 22) rfl ?_); refine gLc 46 Tryz.func22 (cx_PowerOf.calls k a0_0 a0_1 a0_2 a0_3 a1 t245 t246 t247 t248 t249 _ A11.out) (fun w142 hb => ?_); replace BK218 := bkfb BK218 hb; replace BK226 := bkfb BK226 hb; replace BK232 := bkfb BK232 hb; replace BK238 := bkfb BK238 hb; replace BK244 := Zs.mk (blk_below (g := gb244) (o := .cells #[.int .i64 t239, .int .u64 t240, .int .u64 t241, .string t242] 24 (0, 0)) (by (with_reducible repeat (first | refine zn ?_ _ | refine zd ?_ | refine za ?_ _)); apply bp4; (with_reducible repeat (first | refine zn ?_ _ | refine zd ?_ | refine za ?_ _)); exact BK244.out) hb); replace HB := bls HB hb; clear hb) | ((with_reducible refine gd_ (N := 13) rfl ?_); refine bxe 13 (cs := #[.int .i64 0, .int .u64 0, .int .u64 0, .string (⟨#[]⟩ : ByteArray)]) (t := 24) ?_; intro gb250 hg w143 hbox hb; have BK250 := Zs.mk hbox; have GW250 := bsz HB hg; have GE250 := bsz HB hg; have NB218_250 := bnl BK218 hg; have NB250_218 := bng BK218 hg; have NB226_250 := bnl BK226 hg; have NB250_226 := bng BK226 hg; have NB232_250 := bnl BK232 hg; have NB250_232 := bng BK232 hg; have NB238_250 := bnl BK238 hg; have NB250_238 := bng BK238 hg; have NB244_250 := bnl BK244 hg; have NB250_244 := bng BK244 hg; replace BK218 := bkb BK218 hb; replace BK226 := bkb BK226 hb; replace BK232 := bkb BK232 hb; replace BK238 := bkb BK238 hb; replace BK244 := bkb BK244 hb; replace HB := bls HB hb; clear hb hbox hg; have hnb144 := NB250_218.out; have hnc144 := NB218_250.out; have hnb145 := NB250_226.out; have hnc145 := NB226_250.out; have hnb146 := NB250_232.out; have hnc146 := NB232_250.out; have hnb147 := NB250_238.out; have hnc147 := NB238_250.out; have hnb148 := NB250_244.out; have hnc148 := NB244_250.out; obtain ⟨hcz149_0, hcz149_1, hcz149_2, hcz149_3, hfz149_0, hfz149_1, hfz149_2, hfz149_3⟩ := cf4 BK250) | ((with_reducible refine gd_ (N := 15) rfl ?_); refine bxe 15 (cs := #[.int .i64 0, .int .u64 0, .int .u64 0, .string (⟨#[]⟩ : ByteArray)]) (t := 24) ?_; intro gb251 hg w150 hbox hb; have BK251 := Zs.mk hbox; have GW251 := bsz HB hg; have GE251 := bsz HB hg; have NB218_251 := Zs.mk ((by rw [hg]; exact Nat.ne_of_lt (blk_lt (g := gb218) (o := .cells #[.int .i64 a0_0, .int .u64 a0_1, .int .u64 a0_2, .string a0_3] 24 (0, 0)) (bkf BK218).out) : gb218 ≠ gb251)); have NB251_218 := Zs.mk ((by rw [hg]; exact Nat.ne_of_gt (blk_lt (g := gb218) (o := .cells #[.int .i64 a0_0, .int .u64 a0_1, .int .u64 a0_2, .string a0_3] 24 (0, 0)) (bkf BK218).out) : gb251 ≠ gb218)); have NB226_251 := Zs.mk ((by rw [hg]; exact Nat.ne_of_lt (blk_lt (g := gb226) (o := .cells #[.int .i64 t221, .int .u64 t222, .int .u64 t223, .string t224] 24 (0, 0)) (bkf BK226).out) : gb226 ≠ gb251)); have NB251_226 := Zs.mk ((by rw [hg]; exact Nat.ne_of_gt (blk_lt (g := gb226) (o := .cells #[.int .i64 t221, .int .u64 t222, .int .u64 t223, .string t224] 24 (0, 0)) (bkf BK226).out) : gb251 ≠ gb226)); have NB232_251 := Zs.mk ((by rw [hg]; exact Nat.ne_of_lt (blk_lt (g := gb232) (o := .cells #[.int .i64 t227, .int .u64 t228, .int .u64 t229, .string t230] 24 (0, 0)) (bkf BK232).out) : gb232 ≠ gb251)); have NB251_232 := Zs.mk ((by rw [hg]; exact Nat.ne_of_gt (blk_lt (g := gb232) (o := .cells #[.int .i64 t227, .int .u64 t228, .int .u64 t229, .string t230] 24 (0, 0)) (bkf BK232).out) : gb251 ≠ gb232)); have NB238_251 := Zs.mk ((by rw [hg]; exact Nat.ne_of_lt (blk_lt (g := gb238) (o := .cells #[.int .i64 t233, .int .u64 t234, .int .u64 t235, .string t236] 24 (0, 0)) (bkf BK238).out) : gb238 ≠ gb251)); have NB251_238 := Zs.mk ((by rw [hg]; exact Nat.ne_of_gt (blk_lt (g := gb238) (o := .cells #[.int .i64 t233, .int .u64 t234, .int .u64 t235, .string t236] 24 (0, 0)) (bkf BK238).out) : gb251 ≠ gb238)); have NB244_251 := Zs.mk ((by rw [hg]; exact Nat.ne_of_lt (blk_lt (g := gb244) (o := .cells #[.int .i64 t239, .int .u64 t240, .int .u64 t241, .string t242] 24 (0, 0)) (bkf BK244).out) : gb244 ≠ gb251)); have NB251_244 := Zs.mk ((by rw [hg]; exact Nat.ne_of_gt (blk_lt (g := gb244) (o := .cells #[.int .i64 t239, .int .u64 t240, .int .u64 t241, .string t242] 24 (0, 0)) (bkf BK244).out) : gb251 ≠ gb244)); have NB250_251 := Zs.mk ((by rw [hg]; exact Nat.ne_of_lt (blk_lt (g := gb250) (o := .cells #[.int .i64 t245, .int .u64 t246, .int .u64 t247, .string t248] 24 (0, 0)) (by (with_reducible repeat (first | refine zn ?_ _ | refine zd ?_ | refine za ?_ _)); apply bp4; (with_reducible repeat (first | refine zn ?_ _ | refine zd ?_ | refine za ?_ _)); exact BK250.out)) : gb250 ≠ gb251)); have NB251_250 := Zs.mk ((by rw [hg]; exact Nat.ne_of_gt (blk_lt (g := gb250) (o := .cells #[.int .i64 t245, .int .u64 t246, .int .u64 t247, .string t248] 24 (0, 0)) (by (with_reducible repeat (first | refine zn ?_ _ | refine zd ?_ | refine za ?_ _)); apply bp4; (with_reducible repeat (first | refine zn ?_ _ | refine zd ?_ | refine za ?_ _)); exact BK250.out)) : gb251 ≠ gb250)); replace BK218 := bkfb BK218 hb; replace BK226 := bkfb BK226 hb; replace BK232 := bkfb BK232 hb; replace BK238 := bkfb BK238 hb; replace BK244 := bkfb BK244 hb; replace BK250 := Zs.mk (blk_below (g := gb250) (o := .cells #[.int .i64 t245, .int .u64 t246, .int .u64 t247, .string t248] 24 (0, 0)) (by (with_reducible repeat (first | refine zn ?_ _ | refine zd ?_ | refine za ?_ _)); apply bp4; (with_reducible repeat (first | refine zn ?_ _ | refine zd ?_ | refine za ?_ _)); exact BK250.out) hb); replace HB := bls HB hb; clear hb hbox hg; have hnb151 := NB251_218.out; have hnc151 := NB218_251.out; have hnb152 := NB251_226.out; have hnc152 := NB226_251.out; have hnb153 := NB251_232.out; have hnc153 := NB232_251.out; have hnb154 := NB251_238.out; have hnc154 := NB238_251.out; have hnb155 := NB251_244.out; have hnc155 := NB244_251.out; have hnb156 := NB251_250.out; have hnc156 := NB250_251.out; obtain ⟨hcz157_0, hcz157_1, hcz157_2, hcz157_3, hfz157_0, hfz157_1, hfz157_2, hfz157_3⟩ := cf4 BK251; obtain ⟨hcz158_0, hcz158_1, hcz158_2, hcz158_3, hfz158_0, hfz158_1, hfz158_2, hfz158_3⟩ := cf4 BK218) | ((with_reducible refine gc_ (f := 29) rfl ?_); refine gLc 51 Tryz.func29 (r10_ValueErr.calls a0_0 a0_1 a0_2 a0_3 t252 _ A12.out) (fun w159 hb => ?_); replace BK218 := bkfb BK218 hb; replace BK226 := bkfb BK226 hb; replace BK232 := bkfb BK232 hb; replace BK238 := bkfb BK238 hb; replace BK244 := bkfb BK244 hb; replace BK250 := bkfb BK250 hb; replace BK251 := Zs.mk (blk_below (g := gb251) (o := .cells #[.int .i64 0, .int .u64 0, .int .u64 0, .string (⟨#[]⟩ : ByteArray)] 24 (0, 0)) (by (with_reducible repeat (first | refine zn ?_ _ | refine zd ?_ | refine za ?_ _)); apply bp4; (with_reducible repeat (first | refine zn ?_ _ | refine zd ?_ | refine za ?_ _)); exact BK251.out) hb); replace HB := bls HB hb; clear hb; obtain ⟨hcz160_0, hcz160_1, hcz160_2, hcz160_3, hfz160_0, hfz160_1, hfz160_2, hfz160_3⟩ := cf4 BK226; obtain ⟨hcz161_0, hcz161_1, hcz161_2, hcz161_3, hfz161_0, hfz161_1, hfz161_2, hfz161_3⟩ := cf4 BK251; obtain ⟨hcz162_0, hcz162_1, hcz162_2, hcz162_3, hfz162_0, hfz162_1, hfz162_2, hfz162_3⟩ := cf4 BK232; obtain ⟨hcz163_0, hcz163_1, hcz163_2, hcz163_3, hfz163_0, hfz163_1, hfz163_2, hfz163_3⟩ := cf4 BK238; obtain ⟨hcz164_0, hcz164_1, hcz164_2, hcz164_3, hfz164_0, hfz164_1, hfz164_2, hfz164_3⟩ := cf4 BK244; obtain ⟨hcz165_0, hcz165_1, hcz165_2, hcz165_3, hfz165_0, hfz165_1, hfz165_2, hfz165_3⟩ := cf4 BK250))
             go_ret
             exact ⟨by first | rfl | (rw [HR_]; done) | (rw [HRz_]; done) | (simp only [HR_]; done) | (simp [errW_none, errW_some] <;> rfl) | (simp [*, errW_none, errW_some] <;> rfl), (blt HB).out⟩
            ·rw [if_neg c110] at H
             have c110b0 : (t249 == t252) = false := beq_eq_false_iff_ne.mpr c110
             have c110b1 : (t249 != t252) = true := bne_iff_ne.mpr c110
             exact absurd H (by first | decide | (cases k <;> simp [l10_ComplexesRoots.j0]))
           ·rw [if_neg c109] at H
            have c109b0 : (t239 == 0 && (t240 == 0 && (t241 == 0 && (t242.toList == ([] : List UInt8))))) = false := by simpa using c109
            have c109b0z := c109b0
            simp only [beqn] at c109b0z
            (try (have c109b1 : decide (t239 = 0 && (t240 == 0 && (t241 == 0 && (t242.toList == ([] : List UInt8))))) = false := by simpa using c109))
            (try (have c109b2 : (t239 == 0 && (t240 == 0 && (t241 == 0 && (t242.toList == ([] : List UInt8))))) = false := by simpa using c109))
            (try (have c109b3 : ¬ (t239 = 0 && (t240 == 0 && (t241 == 0 && (t242.toList == ([] : List UInt8))))) := by simpa using c109))
            clear c109
            exact absurd H (by first | decide | (cases k <;> simp [l10_ComplexesRoots.j0]))
          ·rw [if_neg c108] at H
           have c108b0 : (t243 == t252) = false := beq_eq_false_iff_ne.mpr c108
           have c108b1 : (t243 != t252) = true := bne_iff_ne.mpr c108
           exact absurd H (by first | decide | (cases k <;> simp [l10_ComplexesRoots.j0]))
         ·rw [if_neg c107] at H
          have c107b0 : (t233 == 0 && (t234 == 0 && (t235 == 0 && (t236.toList == ([] : List UInt8))))) = false := by simpa using c107
          have c107b0z := c107b0
          simp only [beqn] at c107b0z
          (try (have c107b1 : decide (t233 = 0 && (t234 == 0 && (t235 == 0 && (t236.toList == ([] : List UInt8))))) = false := by simpa using c107))
          (try (have c107b2 : (t233 == 0 && (t234 == 0 && (t235 == 0 && (t236.toList == ([] : List UInt8))))) = false := by simpa using c107))
          (try (have c107b3 : ¬ (t233 = 0 && (t234 == 0 && (t235 == 0 && (t236.toList == ([] : List UInt8))))) := by simpa using c107))
          clear c107
          exact absurd H (by first | decide | (cases k <;> simp [l10_ComplexesRoots.j0]))
        ·rw [if_neg c106] at H
         have c106b0 : (t237 == t252) = false := beq_eq_false_iff_ne.mpr c106
         have c106b1 : (t237 != t252) = true := bne_iff_ne.mpr c106
         exact absurd H (by first | decide | (cases k <;> simp [l10_ComplexesRoots.j0]))
       ·rw [if_neg c105] at H
        have c105b0 : (t227 == 0 && (t228 == 0 && (t229 == 0 && (t230.toList == ([] : List UInt8))))) = false := by simpa using c105
        have c105b0z := c105b0
        simp only [beqn] at c105b0z
        (try (have c105b1 : decide (t227 = 0 && (t228 == 0 && (t229 == 0 && (t230.toList == ([] : List UInt8))))) = false := by simpa using c105))
        (try (have c105b2 : (t227 == 0 && (t228 == 0 && (t229 == 0 && (t230.toList == ([] : List UInt8))))) = false := by simpa using c105))
        (try (have c105b3 : ¬ (t227 = 0 && (t228 == 0 && (t229 == 0 && (t230.toList == ([] : List UInt8))))) := by simpa using c105))
        clear c105
        exact absurd H (by first | decide | (cases k <;> simp [l10_ComplexesRoots.j0]))
      ·rw [if_neg c104] at H
       have c104b0 : (t231 == t252) = false := beq_eq_false_iff_ne.mpr c104
       have c104b1 : (t231 != t252) = true := bne_iff_ne.mpr c104
       exact absurd H (by first | decide | (cases k <;> simp [l10_ComplexesRoots.j0]))
     ·rw [if_neg c103] at H
      have c103b0 : (t221 == 0 && (t222 == 0 && (t223 == 0 && (t224.toList == ([] : List UInt8))))) = false := by simpa using c103
      have c103b0z := c103b0
      simp only [beqn] at c103b0z
      (try (have c103b1 : decide (t221 = 0 && (t222 == 0 && (t223 == 0 && (t224.toList == ([] : List UInt8))))) = false := by simpa using c103))
      (try (have c103b2 : (t221 == 0 && (t222 == 0 && (t223 == 0 && (t224.toList == ([] : List UInt8))))) = false := by simpa using c103))
      (try (have c103b3 : ¬ (t221 = 0 && (t222 == 0 && (t223 == 0 && (t224.toList == ([] : List UInt8))))) := by simpa using c103))
      clear c103
      exact absurd H (by first | decide | (cases k <;> simp [l10_ComplexesRoots.j0]))
    ·rw [if_neg c102] at H
     have c102b0 : (t225 == t252) = false := beq_eq_false_iff_ne.mpr c102
     have c102b1 : (t225 != t252) = true := bne_iff_ne.mpr c102
     exact absurd H (by first | decide | (cases k <;> simp [l10_ComplexesRoots.j0]))
  ·replace c6 := Bool.eq_false_iff.mpr c6
   subst c6
   rw [if_neg (show ¬ (false = true) by decide)] at H
   have HR_ := Option.some.inj H
   clear H
   go_enter Tryz.func6, Tryz.ntmps6
   go_wp2_with (first | ((with_reducible refine gd_ (N := 2) rfl ?_); refine bxe 2 (cs := #[.int .i64 a0_0, .int .u64 a0_1, .int .u64 a0_2, .string a0_3]) (t := 24) ?_; intro gb218 hg w166 hbox hb; have BK218 := Zs.mk hbox; have GW218 := bsz HB hg; have GE218 := bsz HB hg; replace HB := bls HB hb; clear hb hbox hg) | ((with_reducible refine gc_ (f := 10) rfl ?_); refine gLc 18 Tryz.func10 (l10_awake.calls  true _ A3.out) (fun w167 hb => ?_); replace BK218 := bkb BK218 hb; replace HB := bls HB hb; clear hb; obtain ⟨hcz168_0, hcz168_1, hcz168_2, hcz168_3, hfz168_0, hfz168_1, hfz168_2, hfz168_3⟩ := cf4 BK218) | ((with_reducible refine gc_ (f := 11) rfl ?_); refine gLc 21 Tryz.func11 (l10_brief.calls a0_0 a0_1 a0_2 a0_3 false _ A5.out) (fun w169 hb => ?_); replace BK218 := bkb BK218 hb; replace HB := bls HB hb; clear hb))
   go_ret
   exact ⟨by first | rfl | (rw [HR_]; done) | (rw [HRz_]; done) | (simp only [HR_]; done) | (simp [errW_none, errW_some] <;> rfl) | (simp [*, errW_none, errW_some] <;> rfl), (blt HB).out⟩
 ·replace c4 := Bool.eq_false_iff.mpr c4
  subst c4
  rw [if_neg (show ¬ (false = true) by decide)] at H
  exact absurd H (by first | decide | (cases k <;> simp [l10_ComplexesRoots.j0]))
end Go.Proofs.YtmoimcblmmcffaaGreat.PLO

namespace Go.Proofs.YtmoimcblmmcffaaGreat.B
open Go.RowKit NC N PPC PRA PLO PN Go.Proofs.YtmoimcblmmcffaaGreatW.PrintWords
set_option linter.unusedSimpArgs false
set_option linter.unusedVariables false
theorem within_f (n lo hi : Int) : bs_Within.f n lo hi = some (decide (lo ≤ n ∧ n ≤ hi)) := by
 unfold bs_Within.f
 by_cases h1 : n < lo
 ·rw [if_pos h1, decide_eq_false (show ¬ (lo ≤ n ∧ n ≤ hi) by omega)]; rfl
 ·rw [if_neg h1]
  by_cases h2 : n ≤ hi
  ·rw [decide_eq_true (show lo ≤ n ∧ n ≤ hi by omega)]; simp [h2]
  ·rw [decide_eq_false (show ¬ (lo ≤ n ∧ n ≤ hi) by omega)]; simp; omega
theorem numErr_f (n : Int) : r10_NumberErr.f n = some (if -2147483648 ≤ n ∧ n ≤ 2147483647 then 0 else 2) := by
 unfold r10_NumberErr.f r7_NumberErr.f r7_IsInteger.f
 rw [within_f, Option.bind_some, Option.bind_some]
 by_cases h : -2147483648 ≤ n ∧ n ≤ 2147483647
 ·rw [decide_eq_true h, if_pos rfl, if_pos h, Option.bind_some]
 ·rw [decide_eq_false h, if_neg (by decide), if_neg h, Option.bind_some]
section
variable {s : Bool} {p : Nat × Nat} {S : ByteArray} (hS : S.toList = []) (hp : okP s p)
include hS hp
theorem val_neg : cx_Negated.f (ct s) (p.1 : Int) (p.2 : Int) S = some (ct s, ((negR s p.1 : Nat) : Int), ((negR s p.2 : Nat) : Int), NB, 0) := by
 unfold cx_Negated.f
 rw [open_f hS hp, Option.bind_some, if_pos rfl]
 unfold cx_Negated_1.f
 dsimp only
 rw [fnegated hp.1, Option.bind_some, fnegated hp.2, Option.bind_some, Option.bind_some, fvalue, Option.bind_some]
theorem val_sqrt {A B : Int} (h : fd_squareRoot.f 40 (tv s) (p.1 : Int) (p.2 : Int) = some (A, B)) : cx_SqrtOf.f (ct s) (p.1 : Int) (p.2 : Int) S = some (ct s, A, B, NB, 0) := by
 unfold cx_SqrtOf.f
 rw [open_f hS hp, Option.bind_some, if_pos rfl]
 dsimp only
 rw [h, Option.bind_some, fvalue, Option.bind_some]
theorem val_power {A B n : Int} (h0 : -2147483648 ≤ n) (h1 : n ≤ 2147483647) (h : fd_power.f 40 (tv s) (p.1 : Int) (p.2 : Int) n = some (A, B)) : cx_PowerOf.f 71 (ct s) (p.1 : Int) (p.2 : Int) S n = some (ct s, A, B, NB, 0) := by
 have h69 : fd_power.f 69 (tv s) (p.1 : Int) (p.2 : Int) n = some (A, B) := le_add (f := fun k => fd_power.f k (tv s) (p.1 : Int) (p.2 : Int) n) (fun k => fd_power.mono _ _ _ _ k) 40 29 _ h
 unfold cx_PowerOf.f
 rw [open_f hS hp, Option.bind_some, if_pos rfl, if_neg (show ¬ (n < -2147483648) by omega), decide_eq_false (show ¬ (n > 2147483647) by omega)]
 simp only [cx_PowerOf.j0, cx_PowerOf.j1]
 rw [if_neg (by decide), if_pos trivial, h69, Option.bind_some]
 dsimp only
 rw [fvalue, Option.bind_some]
theorem val_range {n : Int} (h : ¬ (-2147483648 ≤ n ∧ n ≤ 2147483647)) : cx_PowerOf.f 71 (ct s) (p.1 : Int) (p.2 : Int) S n = some (0, 0, 0, NB, 2) := by
 unfold cx_PowerOf.f
 rw [open_f hS hp, Option.bind_some, if_pos rfl]
 by_cases h0 : n < -2147483648
 ·rw [if_pos h0]
  simp only [cx_PowerOf.j0, cx_PowerOf.j1]
  simp
 ·rw [if_neg h0, decide_eq_true (show n > 2147483647 by omega)]
  simp only [cx_PowerOf.j0, cx_PowerOf.j1]
  simp
omit hS
theorem ref_neg : r10_Negated.f (ct s) (p.1 : Int) (p.2 : Int) S = some (ct s, ((negR s p.1 : Nat) : Int), ((negR s p.2 : Nat) : Int), NB) := by
 unfold r10_Negated.f
 rw [rpart, Option.bind_some, rneg hp.1, Option.bind_some, rneg hp.2, Option.bind_some]; rfl
theorem ref_conj : r10_Conjugate.f (ct s) (p.1 : Int) (p.2 : Int) S = some (ct s, ((conjP s p).1 : Int), ((conjP s p).2 : Int), NB) := by
 unfold r10_Conjugate.f
 rw [rpart, Option.bind_some, rneg hp.2, Option.bind_some]; rfl
end
theorem roots_end {s : Bool} {x y : Nat} {S : ByteArray} {n : Int} (hS : S.toList = []) (hx : x < 2 * signN s) (hy : y < 2 * signN s) : ∃ v0 v1 v2 v3 e, cx_PowerOf.f 71 (ct s) (x : Int) (y : Int) S n = some (v0, v1, v2, v3, e) ∧ l10_ComplexesRoots.j0 71 n e false (ct s) (x : Int) (y : Int) S v0 v1 v2 v3 0 0 0 NB = some true := by
 have hp : okP s (x, y) := ⟨hx, hy⟩
 by_cases h : -2147483648 ≤ n ∧ n ≤ 2147483647
 ·obtain ⟨A, B, g1, g2⟩ := pow_both S h.1 h.2 hp
  refine ⟨_, _, _, _, _, val_power hS hp h.1 h.2 g1, ?_⟩
  simp only [l10_ComplexesRoots.j0]
  rw [if_neg (by decide), numErr_f, if_pos h, Option.bind_some, if_pos rfl, if_pos trivial, g2, Option.bind_some]
  simp
 ·refine ⟨_, _, _, _, _, val_range hS hp h, ?_⟩
  simp only [l10_ComplexesRoots.j0]
  rw [if_neg (by decide), numErr_f, if_neg h, Option.bind_some, if_neg (by decide), if_pos rfl]
  simp
theorem roots_f {t a b n : Int} {S : ByteArray} (ha : U64 a) (hb : U64 b) : l10_ComplexesRoots.f 71 t a b S n = some true := by
 have hu : ∀ z : Int, U64 z → u64B z = true := fun z hz => by unfold u64B; rw [decide_eq_true hz.1, decide_eq_true hz.2]; rfl
 have hop : cx_open.f t a b S = some (cpart t, a, b, openErrV t a b S) := by
  unfold cx_open.f
  rw [hu a ha, hu b hb, if_pos (by decide)]
 unfold l10_ComplexesRoots.f
 rw [show l10_awake.f = some true from rfl, Option.bind_some, if_pos rfl, show l10_brief.f t a b S = some (decide ((S.size : Int) ≤ 60)) from rfl, Option.bind_some]
 by_cases h1 : (S.size : Int) ≤ 60
 ·rw [decide_eq_true h1, if_pos rfl, valueErr_f S ha hb]
  by_cases hv : openErrV t a b S = 0
  ·obtain ⟨s, x, y, rfl, rfl, rfl, hx, hy⟩ := open_ok ha hb hv
   have hS := open_text hv
   have hp : okP s (x, y) := ⟨hx, hy⟩
   obtain ⟨v0, v1, v2, v3, e, hw, hj⟩ := roots_end (n := n) hS hx hy
   obtain ⟨A, B, g1, g2⟩ := root_both S hx hy
   have g3 : r10_Sqrt.f 71 (ct s) (x : Int) (y : Int) S = some (ct s, A, B, NB) := le_add (f := fun k => r10_Sqrt.f k (ct s) (x : Int) (y : Int) S) (fun k => r10_Sqrt.mono _ _ _ _ k) 40 31 _ g2
   have w0 := val_neg hS hp
   have w1 := val_conj hS hp
   have w2 := val_size hS hp 69
   have w3 := val_sqrt hS hp g1
   have u0 := ref_neg (S := S) hp
   have u1 := ref_conj (S := S) hp
   have u2 := rsize (S := S) (k := 69) hx hy
   dsimp only at w0 w1 w2 w3 u0 u1
   rw [w0, Option.bind_some, w1, Option.bind_some, w2, Option.bind_some, w3, Option.bind_some, hw, Option.bind_some, Option.bind_some]
   rw [if_pos hv]
   dsimp only
   rw [if_pos rfl, u0, Option.bind_some]
   dsimp only
   rw [if_neg (by simp), if_pos rfl, u1, Option.bind_some]
   dsimp only
   rw [if_neg (by simp), if_pos rfl, rpart, Option.bind_some, u2, Option.bind_some, if_neg (by simp [nb_text]), if_pos rfl, g3, Option.bind_some]
   dsimp only
   rw [show (!(ct s == ct s) || (!(A == A) || (!(B == B) || (!(NB.toList == NB.toList))))) = false from by simp]
   exact hj
  ·have e0 : cx_Negated.f t a b S = some (0, 0, 0, NB, openErrV t a b S) := by unfold cx_Negated.f; rw [hop, Option.bind_some, if_neg hv]
   have e1 : cx_Conjugate.f t a b S = some (0, 0, 0, NB, openErrV t a b S) := by unfold cx_Conjugate.f; rw [hop, Option.bind_some, if_neg hv]
   have e2 : cx_SqrtOf.f t a b S = some (0, 0, 0, NB, openErrV t a b S) := by unfold cx_SqrtOf.f; rw [hop, Option.bind_some, if_neg hv]
   have e3 : cx_SizeOf.f 71 t a b S = some (0, 0, 0, NB, openErrV t a b S) := by unfold cx_SizeOf.f; rw [hop, Option.bind_some, if_neg hv]
   have e4 : cx_PowerOf.f 71 t a b S n = some (0, 0, 0, NB, openErrV t a b S) := by
    unfold cx_PowerOf.f
    rw [hop, Option.bind_some, if_neg hv]
    simp only [cx_PowerOf.j0, cx_PowerOf.j1]
    rw [if_neg (by decide), if_neg hv]
   rw [e0, Option.bind_some, e1, Option.bind_some, e3, Option.bind_some, e2, Option.bind_some, e4, Option.bind_some, Option.bind_some, if_neg hv]
   dsimp only
   have hc : ((0 : Int) == 0 && ((0 : Int) == 0 && ((0 : Int) == 0 && (NB.toList == ([] : List UInt8))))) = true := by rw [nb_text]; rfl
   simp only [hc, if_true]
 ·rw [decide_eq_false h1, if_neg (by decide)]
theorem law_roots (t a b : Int) (S : ByteArray) (n : Int) (w : World) (ha : U64 a) (hb : U64 b) :
  Calls Tryz.prog 6 #[.agg #[.int .i64 t, .int .u64 a, .int .u64 b, .string S], .int .i64 n] w (Ret (.bool true) w) :=
 l10_ComplexesRoots.calls 71 t a b S n w (roots_f ha hb)
end Go.Proofs.YtmoimcblmmcffaaGreat.B

namespace Go.Proofs.YtmoimcblmmcffaaGreat.Law
open Go.ChangeShapes Go.WideShapes Go.ChangeAt Go.RowKit
open Go.ChangeMaps (open_string shut_string)
set_option linter.unusedVariables false
theorem own : ownKnob Tryz.prog.godebug = none := by kernel_rfl
theorem u64_wf {a : Int} (h : (Lit.int .u64 a).wf = true) : 0 ≤ a ∧ a ≤ 18446744073709551615 := by
 have h' : (decide (0 ≤ a) && decide (a ≤ 18446744073709551615)) = true := h
 simpa using h'
theorem value_cells : Tryz.prog.cellsOf 24 = 4 := by kernel_rfl
set_option maxRecDepth 100000 in
theorem complexesRoots_lifted (os : Os) (started : os.Started) (H : Type) (enc : TypeId × Value → H) :
  ReturnsInHanded {} Tryz.checked os 6 .any (Rows.complexesRootsSpec.pre6 enc Tryz.prog Tryz.f6 Rows.complexesRootsRow.domain false) (Rows.complexesRootsSpec.post enc Tryz.prog Tryz.f6 false true false false) := by
 refine returnsInHanded_of_change_sized (C := Tryz.checked) own started (by kernel_rfl) Tryz.func6
  (ChangeSpec.witness6 (enc := enc) (C := Tryz.checked) false ⟨#[], #[.agg #[.int .i64 0, .int .u64 0, .int .u64 0, .string ByteArray.empty], .int .i64 0], []⟩ 8 (by kernel_rfl) (by kernel_rfl) (by kernel_rfl) (by kernel_rfl)) ?_
 intro W base args ds gs before hval0 hW hcnd hsz0 _
 have hval : ∀ (j : Nat) t v, Tryz.f6.params[j]? = some t → args[j]? = some v → Value.okWide Tryz.prog W .any base t v := hval0
 have hW' := hW
 obtain ⟨p, q, hA0, hV, rfl, hfz, hnd⟩ := hW
 have hA : DataW.TrodAll enc Tryz.prog W 0 (fun _ => true) true Tryz.f6.params.toList args.toList ds p := hA0
 rw [Tryz.params6] at hA hval
 obtain ⟨v0, vs0, d0, ds0, p0, q0, hargs, rfl, rfl, h0, r0⟩ := trodAll_cons hA
 obtain ⟨v1, vs1, d1, ds1, p1, q1, rfl, rfl, rfl, h1, r1⟩ := trodAll_cons r0
 obtain ⟨rfl, rfl, rfl⟩ := trodAll_nil r1
 obtain rfl : args = #[v0, v1] := by cases args; simp_all
 obtain ⟨rfl, rfl⟩ := trodVars_none hV
 obtain ⟨c00, c01, c02, c03, y00, y01, y02, y03, m0, rfl, rfl, rfl, g00, g01, g02, g03⟩ := Joins.open_agg4 Tryz.underlying24 (by kernel_rfl) value_cells (hval 0 24 v0 rfl rfl) h0
 obtain ⟨t0, e00, rfl, u00⟩ := DataW.trod_int Tryz.underlying3 g00
 obtain ⟨a0, e01, rfl, u01⟩ := DataW.trod_int Tryz.underlying22 g01
 obtain ⟨b0, e02, rfl, u02⟩ := DataW.trod_int Tryz.underlying22 g02
 obtain ⟨s0, e03, rfl, u03⟩ := DataW.trod_string Tryz.underlying9 g03
 simp at e00 e01 e02 e03
 subst e00 e01 e02 e03
 have reads0 : ∀ (W' : World) (sp : Nat → Bool), DataW.Trod enc Tryz.prog W' 0 sp true 24 (.agg #[.int .i64 t0, .int .u64 a0, .int .u64 b0, .string s0]) (.agg [.lit (.int .i64 t0), .lit (.int .u64 a0), .lit (.int .u64 b0), .lit (.string s0.data.toList)]) [] := fun W' sp =>
  Joins.shut_agg4 (y0 := (.lit (.int .i64 t0), [])) (y1 := (.lit (.int .u64 a0), [])) (y2 := (.lit (.int .u64 b0), [])) (y3 := (.lit (.string s0.data.toList), [])) Tryz.underlying24 (by kernel_rfl) value_cells ⟨1, by simp [DataW.trod, Tryz.underlying3, u00]⟩ ⟨1, by simp [DataW.trod, Tryz.underlying22, u01]⟩ ⟨1, by simp [DataW.trod, Tryz.underlying22, u02]⟩ ⟨1, by simp [DataW.trod, Tryz.underlying9, u03]⟩
 obtain ⟨z1, rfl, rfl, rfl, w1⟩ := open_int Tryz.underlying3 (hval 1 3 v1 rfl rfl) h1
 clear hA0 hval0 hsz0
 simp only [List.append_nil] at hW'
 refine (B.law_roots t0 a0 b0 s0 z1 W (u64_wf u01) (u64_wf u02)).mono fun e W' ⟨he, bel⟩ => ?_
 subst he
 exact ⟨_, rfl, _, _, _, [], [], [], hW', trodAll_mk1 (shut_bool Tryz.underlying4 _), (trodAll_cons_mk (reads0 _ _) (trodAll_cons_mk (shut_int Tryz.underlying3 w1) trodAll_mk0)), rfl, bel.frame _, fun h => by cases h⟩
theorem complexesRoots_over : Rows.complexesRootsRow.holds Tryz.pinned (OpenSpec.ofChange Rows.complexesRootsSpec) :=
 OpenClaim.holds_of_wide 6 Tryz.f6 rfl rfl rfl rfl rfl rfl rfl ⟨rfl, rfl, rfl, rfl, rfl⟩ rfl rfl rfl rfl rfl (by kernel_rfl) Tryz.func6 (by kernel_rfl)
  (of_decide_eq_true (by kernel_rfl)) (by unfold Func.isWrapper; first | (rw [if_pos (by decide +kernel)]; kernel_rfl) | (rw [if_neg (by decide +kernel)]; exact ⟨rfl, rfl⟩))
  (fun os started H enc _ => complexesRoots_lifted os started H enc)
theorem complexesRoots_holds : Rows.ComplexesRootsSaid := complexesRoots_over
end Go.Proofs.YtmoimcblmmcffaaGreat.Law
