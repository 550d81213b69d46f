/- PROVED: formularylaw10.ComplexesValues returns true for every input, and leaves its arguments as they were: the value of two parts, the parts of a value, and whether two values are equal are as specified, or the errors. CONDITIONS: the row's own; nothing else. -/
import Derived.Test.YtmoimcblmmcffaaGreatQComplexesValuesA
import Derived.Test.YtmoimcblmmcffaaGreatQComplexesValuesJ
import Derived.Test.YtmoimcblmmcffaaGreatRows
import Derived.WalkKit
import Derived.ProofKit
import Derived.OpenShut
import Derived.ShutString
import Derived.ChangeOld
import Derived.Below
import Derived.SizedLaws
import Derived.Lib.SmallJoins

namespace Go.Proofs.YtmoimcblmmcffaaGreat.PLV
open Go.RowKit Go.Proofs.YtmoimcblmmcffaaGreat.PPC Go.Proofs.YtmoimcblmmcffaaGreat.PRA Go.Proofs.YtmoimcblmmcffaaGreatW.PrintWords Go.Proofs.YtmoimcblmmcffaaGreatW.PrintLast Go.Proofs.YtmoimcblmmcffaaGreatW.PrintMore Go.Proofs.YtmoimcblmmcffaaGreatW.PrintZ
attribute [local go_sem] max2_int min2_int max_two min_two max_three min_three max_four min_four   -- for this text's walks alone
set_option linter.unusedVariables false
set_option linter.unusedSimpArgs false
attribute [local go_sem high] eqA24 eqA62

mutual
def l10_ComplexesValues.j0 : Nat → Int → Bool → Int → Int → Int → ByteArray → Int → Int → Int → ByteArray → Option (Bool)
 | 0, _, _, _, _, _, _, _, _, _, _ => none
 | k + 1, x0, x23, x107000, x107001, x107002, x107003, x108000, x108001, x108002, x108003 => if x23 = true then (some true) else ((cx_Made.f k x0 x107001 x107002).bind fun bt111 => ((r10_TypeErr.f x0).bind fun t117 => (if t117 = 0 then (if x0 = 3 then (if x107001 ≥ 4294967296 then (l10_ComplexesValues.j1 k x0 bt111.2.2.2.2 t117 true x107000 x107001 x107002 x107003 x108000 x108001 x108002 x108003 bt111.1 bt111.2.1 bt111.2.2.1 bt111.2.2.2.1) else (l10_ComplexesValues.j1 k x0 bt111.2.2.2.2 t117 (decide (x107002 ≥ 4294967296)) x107000 x107001 x107002 x107003 x108000 x108001 x108002 x108003 bt111.1 bt111.2.1 bt111.2.2.1 bt111.2.2.2.1)) else (l10_ComplexesValues.j1 k x0 bt111.2.2.2.2 t117 false x107000 x107001 x107002 x107003 x108000 x108001 x108002 x108003 bt111.1 bt111.2.1 bt111.2.2.1 bt111.2.2.2.1)) else (l10_ComplexesValues.j1 k x0 bt111.2.2.2.2 t117 false x107000 x107001 x107002 x107003 x108000 x108001 x108002 x108003 bt111.1 bt111.2.1 bt111.2.2.1 bt111.2.2.2.1))))
def l10_ComplexesValues.j1 : Nat → Int → Int → Int → Bool → Int → Int → Int → ByteArray → Int → Int → Int → ByteArray → Int → Int → Int → ByteArray → Option (Bool)
 | 0, _, _, _, _, _, _, _, _, _, _, _, _, _, _, _, _ => none
 | k + 1, x0, x8, x9, x50, x107000, x107001, x107002, x107003, x108000, x108001, x108002, x108003, x117000, x117001, x117002, x117003 => if x50 = true then (l10_ComplexesValues.j2 k x0 x8 2 x107000 x107001 x107002 x107003 x108000 x108001 x108002 x108003 x117000 x117001 x117002 x117003) else (l10_ComplexesValues.j2 k x0 x8 x9 x107000 x107001 x107002 x107003 x108000 x108001 x108002 x108003 x117000 x117001 x117002 x117003)
def l10_ComplexesValues.j2 : Nat → Int → Int → Int → Int → Int → Int → ByteArray → Int → Int → Int → ByteArray → Int → Int → Int → ByteArray → Option (Bool)
 | 0, _, _, _, _, _, _, _, _, _, _, _, _, _, _, _ => none
 | k + 1, x0, x8, x9, x107000, x107001, x107002, x107003, x108000, x108001, x108002, x108003, x117000, x117001, x117002, x117003 => if x9 = 0 then (if x8 = 0 then ((r10_Made.f x0 x107001 x107002).bind fun bt118 => (l10_ComplexesValues.j3 k (!(x117000 == bt118.1) || (!(x117001 == bt118.2.1) || (!(x117002 == bt118.2.2.1) || (!(x117003.toList == bt118.2.2.2.toList))))) x107000 x107001 x107002 x107003 x108000 x108001 x108002 x108003)) else (l10_ComplexesValues.j3 k true x107000 x107001 x107002 x107003 x108000 x108001 x108002 x108003)) else (if x8 = x9 then (if (!(x117000 == 0) || (!(x117001 == 0) || (!(x117002 == 0) || (!(x117003.toList == ([] : List UInt8)))))) = true then (l10_ComplexesValues.j3 k true x107000 x107001 x107002 x107003 x108000 x108001 x108002 x108003) else (l10_ComplexesValues.j3 k false x107000 x107001 x107002 x107003 x108000 x108001 x108002 x108003)) else (l10_ComplexesValues.j3 k true x107000 x107001 x107002 x107003 x108000 x108001 x108002 x108003))
def l10_ComplexesValues.j3 : Nat → Bool → Int → Int → Int → ByteArray → Int → Int → Int → ByteArray → Option (Bool)
 | 0, _, _, _, _, _, _, _, _, _ => none
 | k + 1, x80, x107000, x107001, x107002, x107003, x108000, x108001, x108002, x108003 => if x80 = true then (some false) else ((cx_PartsOf.f x107000 x107001 x107002 x107003).bind fun bt122 => ((r10_ValueErr.f x107000 x107001 x107002 x107003).bind fun t127 => (if t127 = 0 then (if bt122.2.2.2 = 0 then ((r10_PartType.f x107000).bind fun t128 => (if (!(bt122.1 == t128) || (!(bt122.2.1 == x107001) || (!(bt122.2.2.1 == x107002)))) = true then (some false) else (l10_ComplexesValues.j4 k x107000 x107001 x107002 x107003 x108000 x108001 x108002 x108003))) else (some false)) else (if bt122.2.2.2 = t127 then (if (!(bt122.1 == 0) || (!(bt122.2.1 == 0) || (!(bt122.2.2.1 == 0)))) = true then (some false) else (l10_ComplexesValues.j4 k x107000 x107001 x107002 x107003 x108000 x108001 x108002 x108003)) else (some false)))))
def l10_ComplexesValues.j4 : Nat → Int → Int → Int → ByteArray → Int → Int → Int → ByteArray → Option (Bool)
 | 0, _, _, _, _, _, _, _, _ => none
 | k + 1, x107000, x107001, x107002, x107003, x108000, x108001, x108002, x108003 => (cx_Same.f x107000 x107001 x107002 x107003 x108000 x108001 x108002 x108003).bind fun bt129 => ((r10_TwoErr.f x107000 x107001 x107002 x107003 x108000 x108001 x108002 x108003).bind fun t131 => (if t131 = 0 then (if bt129.2 = 0 then ((r10_Same.f x107000 x107001 x107002 x107003 x108000 x108001 x108002 x108003).bind fun t132 => (some (bt129.1 == t132))) else (some false)) else (if bt129.2 = t131 then (some (!bt129.1)) else (some false))))
end
def l10_ComplexesValues.f (k : Nat) (a0 : Int) (a1_0 : Int) (a1_1 : Int) (a1_2 : Int) (a1_3 : ByteArray) (a2_0 : Int) (a2_1 : Int) (a2_2 : Int) (a2_3 : ByteArray) : Option (Bool) := (l10_awake.f).bind fun t108 => (if t108 = true then ((l10_brief.f a1_0 a1_1 a1_2 a1_3).bind fun t109 => (if t109 = true then ((l10_brief.f a2_0 a2_1 a2_2 a2_3).bind fun t110 => (l10_ComplexesValues.j0 k a0 (!t110) a1_0 a1_1 a1_2 a1_3 a2_0 a2_1 a2_2 a2_3)) else (l10_ComplexesValues.j0 k a0 true a1_0 a1_1 a1_2 a1_3 a2_0 a2_1 a2_2 a2_3))) else (some false))
def l10_ComplexesValues.T9 : Bool × List (List Nat × List Nat) := (true, [([], []), ([0], [0]), ([1], [1]), ([2], [2]), ([2], [2]), ([3, 4, 2], [2, 3, 4]), ([5, 2, 2], [2, 5]), ([6], [6]), ([6], [6]), ([7, 8, 6], [6, 7, 8]), ([6, 9, 2], [2, 6, 9]), ([2, 10], [2, 10]), ([11, 6], [11]), ([12], [12]), ([13, 12], [12, 13]), ([14, 12, 12], [12, 14]), ([15], [15]), ([16, 15], [15, 16]), ([17, 15, 15], [15, 17]), ([18], [18]), ([18], [18]), ([18], [18]), ([21, 18], [18, 21]), ([18], [18]), ([23, 18], [18, 23]), ([20, 22, 24, 18, 18], [18, 20, 22, 24]), ([19, 25, 18], [18, 19, 25]), ([18, 26, 15], [15, 18, 26]), ([15, 27, 12], [12, 15, 27]), ([12, 28], [12, 28])])
def l10_ComplexesValues.B9 : List Nat := [0, 1, 3, 7, 7, 31, 63, 127, 127, 511, 1023, 2047, 4095, 8191, 16383, 32767, 65535, 131071, 262143, 524287, 524287, 524287, 2621439, 524287, 8912895, 33030143, 67108863, 134217727, 268435455, 536870911]
theorem l10_ComplexesValues.tab9 : rtab .any (opsOf Tryz.f8 9) = l10_ComplexesValues.T9 := by kernel_rfl
theorem l10_ComplexesValues.bits9 : waitsOk l10_ComplexesValues.T9.2 l10_ComplexesValues.B9 = true := by kernel_rfl
def l10_ComplexesValues.T16 : Bool × List (List Nat × List Nat) := (true, [([], []), ([0], [0]), ([1], [1]), ([2], [2]), ([2], [2]), ([4, 2], [2, 4]), ([5, 2, 2], [2, 5]), ([2], [2]), ([7, 2], [2, 7]), ([2], [2]), ([9, 2], [2, 9]), ([6, 8, 10, 2], [2, 6, 8, 10]), ([3, 11, 2], [2, 3, 11]), ([2, 12], [2, 12])])
def l10_ComplexesValues.B16 : List Nat := [0, 1, 3, 7, 7, 23, 55, 7, 135, 7, 519, 2039, 4095, 8191]
theorem l10_ComplexesValues.tab16 : rtab .any (opsOf Tryz.f8 16) = l10_ComplexesValues.T16 := by kernel_rfl
theorem l10_ComplexesValues.bits16 : waitsOk l10_ComplexesValues.T16.2 l10_ComplexesValues.B16 = true := by kernel_rfl
set_option maxHeartbeats 8000000 in
set_option maxRecDepth 100000 in
theorem l10_ComplexesValues.calls (k : Nat) (a0 : Int) (a1_0 : Int) (a1_1 : Int) (a1_2 : Int) (a1_3 : ByteArray) (a2_0 : Int) (a2_1 : Int) (a2_2 : Int) (a2_3 : ByteArray) (w : World) (h : l10_ComplexesValues.f k a0 a1_0 a1_1 a1_2 a1_3 a2_0 a2_1 a2_2 a2_3 = some true) :
  Calls Tryz.prog 8 #[.int .i64 a0, .agg #[.int .i64 a1_0, .int .u64 a1_1, .int .u64 a1_2, .string a1_3], .agg #[.int .i64 a2_0, .int .u64 a2_1, .int .u64 a2_2, .string a2_3]] w fun e w' => e = .returned (.bool true) ∧ Below w.heap.size w w' := by
 have hu24 := Tryz.underlying24
 have hu62 := Tryz.underlying62
 have HB := Aside0.mk (Below.refl w.heap.size w)
 have H : ((l10_awake.f).bind fun t108 => (if t108 = true then ((l10_brief.f a1_0 a1_1 a1_2 a1_3).bind fun t109 => (if t109 = true then ((l10_brief.f a2_0 a2_1 a2_2 a2_3).bind fun t110 => (l10_ComplexesValues.j0 k a0 (!t110) a1_0 a1_1 a1_2 a1_3 a2_0 a2_1 a2_2 a2_3)) else (l10_ComplexesValues.j0 k a0 true a1_0 a1_1 a1_2 a1_3 a2_0 a2_1 a2_2 a2_3))) else (some false))) = some true := h
 clear h
 replace H := Option.bind_eq_some_iff.mp H
 obtain ⟨t108, A4, H⟩ := H
 try dsimp only at H
 replace A4 := Aside0.mk A4
 by_cases c5 : t108 = true
 ·subst c5
  have H1 : ((l10_brief.f a1_0 a1_1 a1_2 a1_3).bind fun t109 => (if t109 = true then ((l10_brief.f a2_0 a2_1 a2_2 a2_3).bind fun t110 => (l10_ComplexesValues.j0 k a0 (!t110) a1_0 a1_1 a1_2 a1_3 a2_0 a2_1 a2_2 a2_3)) else (l10_ComplexesValues.j0 k a0 true a1_0 a1_1 a1_2 a1_3 a2_0 a2_1 a2_2 a2_3))) = some true := by first | (rw [if_pos rfl] at H; exact H) | rfl
  clear H
  have H := H1
  clear H1
  have HC6 := Aside0.mk H
  clear H
  go_enter Tryz.func8, Tryz.ntmps8
  go_upto_region 3 with (first | ((with_reducible refine gate_dst (N := 4) rfl ?_); refine bxe 4 (cs := #[.int .i64 a1_0, .int .u64 a1_1, .int .u64 a1_2, .string a1_3]) (t := 24) ?_; intro gb106 hg w7 hbox hb; have BK106 := Aside0.mk hbox; have GW106 := bsz HB hg; have GE106 := bsz HB hg; replace HB := bls HB hb; clear hb hbox hg) | ((with_reducible refine gate_dst (N := 5) rfl ?_); refine bxe 5 (cs := #[.int .i64 a2_0, .int .u64 a2_1, .int .u64 a2_2, .string a2_3]) (t := 24) ?_; intro gb107 hg w8 hbox hb; have BK107 := Aside0.mk hbox; have GW107 := bsz HB hg; have GE107 := bsz HB hg; have NB106_107 := bnl BK106 hg; have NB107_106 := bng BK106 hg; replace BK106 := bkb BK106 hb; replace HB := bls HB hb; clear hb hbox hg) | ((with_reducible refine gate_callee (f := 10) rfl ?_); refine gL 14 Tryz.func10 #[] ?_; (with_reducible refine (l10_awake.calls  true _ A4.out).mono ?_); rintro e w9 ⟨rfl, hb⟩; refine ⟨_, rfl, ?_⟩; replace BK106 := bkb BK106 hb; replace BK107 := bkb BK107 hb; replace HB := bls HB hb; clear hb))
  (try simp only [Act.put, List.setIfInBounds_toArray, List.set_cons_zero, List.set_cons_succ])
  go_cut [23] (fun v23 wc => ∃ (kq : Nat) (x23_5 : Bool), v23 = .bool x23_5 ∧ Aside0 (l10_ComplexesValues.j0 kq a0 x23_5 a1_0 a1_1 a1_2 a1_3 a2_0 a2_1 a2_2 a2_3 = some true) ∧ Aside0 (kq ≤ k) ∧ Aside0 (wc.heap[gb106]? = some (.cells #[.int .i64 a1_0, .int .u64 a1_1, .int .u64 a1_2, .string a1_3] 24 (0, 0))) ∧ Aside0 (wc.heap[gb107]? = some (.cells #[.int .i64 a2_0, .int .u64 a2_1, .int .u64 a2_2, .string a2_3] 24 (0, 0))) ∧ Aside0 (Below w.heap.size w wc))
  case first =>
   have H := HC6.out
   clear HC6
   replace H := Option.bind_eq_some_iff.mp H
   obtain ⟨t109, A10, H⟩ := H
   try dsimp only at H
   replace A10 := Aside0.mk A10
   by_cases c11 : t109 = true
   ·subst c11
    have H1 : ((l10_brief.f a2_0 a2_1 a2_2 a2_3).bind fun t110 => (l10_ComplexesValues.j0 k a0 (!t110) a1_0 a1_1 a1_2 a1_3 a2_0 a2_1 a2_2 a2_3)) = some true := by first | (rw [if_pos rfl] at H; exact H) | rfl
    clear H
    have H := H1
    clear H1
    replace H := Option.bind_eq_some_iff.mp H
    obtain ⟨t110, A12, H⟩ := H
    try dsimp only at H
    replace A12 := Aside0.mk A12
    have H' := Aside0.mk H
    clear H
    have hnb13 := NB106_107.out
    have hnc13 := NB107_106.out
    obtain ⟨hcz14_0, hcz14_1, hcz14_2, hcz14_3, hfz14_0, hfz14_1, hfz14_2, hfz14_3⟩ := cf4 BK106
    go_wp2_with (first | ((with_reducible refine gate_callee (f := 11) rfl ?_); refine gL 17 Tryz.func11 #[.agg #[.int .i64 a1_0, .int .u64 a1_1, .int .u64 a1_2, .string a1_3]] ?_; (with_reducible refine (l10_brief.calls a1_0 a1_1 a1_2 a1_3 true _ A10.out).mono ?_); rintro e w15 ⟨rfl, hb⟩; refine ⟨_, rfl, ?_⟩; replace BK106 := bkb BK106 hb; replace BK107 := bkb BK107 hb; replace HB := bls HB hb; clear hb; have hcz16_0 : w15.cell? ⟨gb107, 0, none⟩ = some (.int .i64 a2_0) := (blk_cell BK107.out 0).trans rfl; have hcz16_1 : w15.cell? ⟨gb107, 1, none⟩ = some (.int .u64 a2_1) := (blk_cell BK107.out 1).trans rfl; have hcz16_2 : w15.cell? ⟨gb107, 2, none⟩ = some (.int .u64 a2_2) := (blk_cell BK107.out 2).trans rfl; have hcz16_3 : w15.cell? ⟨gb107, 3, none⟩ = some (.string a2_3) := (blk_cell BK107.out 3).trans rfl; have hfz16_0 := blk_frozen BK107.out 0; have hfz16_1 := blk_frozen BK107.out 1; have hfz16_2 := blk_frozen BK107.out 2; have hfz16_3 := blk_frozen BK107.out 3) | (go_at_call 11; (with_reducible refine (l10_brief.calls a2_0 a2_1 a2_2 a2_3 t110 _ A12.out).mono ?_); rintro e w17 ⟨rfl, hb⟩; replace BK106 := bkb BK106 hb; replace BK107 := bkb BK107 hb; replace HB := bls HB hb; clear hb))
    go_meet
    case rel => exact ⟨_, (!t110), (by first | rfl | (simp; done) | (simp [*]; done)), H', ⟨by first | omega | exact Nat.le_refl _⟩, bks BK106, bks BK107, blt HB⟩
   ·replace c11 := Bool.eq_false_iff.mpr c11
    subst c11
    have H1 : (l10_ComplexesValues.j0 k a0 true a1_0 a1_1 a1_2 a1_3 a2_0 a2_1 a2_2 a2_3) = some true := by first | (rw [if_neg (show ¬ (false = true) by decide)] at H; exact H) | rfl
    clear H
    have H := H1
    clear H1
    have H' := Aside0.mk H
    clear H
    have hnb18 := NB106_107.out
    have hnc18 := NB107_106.out
    obtain ⟨hcz19_0, hcz19_1, hcz19_2, hcz19_3, hfz19_0, hfz19_1, hfz19_2, hfz19_3⟩ := cf4 BK106
    go_wp2_with (first | ((with_reducible refine gate_callee (f := 11) rfl ?_); refine gL 17 Tryz.func11 #[.agg #[.int .i64 a1_0, .int .u64 a1_1, .int .u64 a1_2, .string a1_3]] ?_; (with_reducible refine (l10_brief.calls a1_0 a1_1 a1_2 a1_3 false _ A10.out).mono ?_); rintro e w20 ⟨rfl, hb⟩; refine ⟨_, rfl, ?_⟩; replace BK106 := bkb BK106 hb; replace BK107 := bkb BK107 hb; replace HB := bls HB hb; clear hb))
    go_meet
    case rel => exact ⟨_, (true), (by first | rfl | (simp; done) | (simp [*]; done)), H', ⟨by first | omega | exact Nat.le_refl _⟩, bks BK106, bks BK107, blt HB⟩
  case rest =>
   clear HC6
   try clear c1
   try clear p2
   try clear c5
   try clear c8
   try clear c10
   try clear c11
   try clear c13
   try clear c18
   try clear hcz14_0
   try clear hcz14_1
   try clear hcz14_2
   try clear hcz14_3
   try clear hcz16_0
   try clear hcz16_1
   try clear hcz16_2
   try clear hcz16_3
   try clear hcz19_0
   try clear hcz19_1
   try clear hcz19_2
   try clear hcz19_3
   try clear hfz14_0
   try clear hfz14_1
   try clear hfz14_2
   try clear hfz14_3
   try clear hfz16_0
   try clear hfz16_1
   try clear hfz16_2
   try clear hfz16_3
   try clear hfz19_0
   try clear hfz19_1
   try clear hfz19_2
   try clear hfz19_3
   obtain ⟨kq, x23_5, rfl, HA, HJ5, BK106, BK107, HB⟩ := hcut
   cases kq with
   | zero => exact absurd HA.out (by simp [l10_ComplexesValues.j0])
   | succ kj5 =>
    have H := HA.out
    clear HA
    simp only [l10_ComplexesValues.j0] at H
    by_cases c21 : x23_5 = true
    ·subst c21
     have H1 : (some true) = some true := by first | (rw [if_pos rfl] at H; exact H) | rfl
     clear H
     have H := H1
     clear H1
     have HR_ := Option.some.inj H
     clear H
     go_wp2
     go_ret
     exact ⟨by first | rfl | (rw [HR_]; done) | (simp only [HR_]; done) | (simp [errW_none, errW_some] <;> rfl) | (simp [*, errW_none, errW_some] <;> rfl), (blt HB).out⟩
    ·replace c21 := Bool.eq_false_iff.mpr c21
     subst c21
     have H1 : ((cx_Made.f kj5 a0 a1_1 a1_2).bind fun bt111 => ((r10_TypeErr.f a0).bind fun t117 => (if t117 = 0 then (if a0 = 3 then (if a1_1 ≥ 4294967296 then (l10_ComplexesValues.j1 kj5 a0 bt111.2.2.2.2 t117 true a1_0 a1_1 a1_2 a1_3 a2_0 a2_1 a2_2 a2_3 bt111.1 bt111.2.1 bt111.2.2.1 bt111.2.2.2.1) else (l10_ComplexesValues.j1 kj5 a0 bt111.2.2.2.2 t117 (decide (a1_2 ≥ 4294967296)) a1_0 a1_1 a1_2 a1_3 a2_0 a2_1 a2_2 a2_3 bt111.1 bt111.2.1 bt111.2.2.1 bt111.2.2.2.1)) else (l10_ComplexesValues.j1 kj5 a0 bt111.2.2.2.2 t117 false a1_0 a1_1 a1_2 a1_3 a2_0 a2_1 a2_2 a2_3 bt111.1 bt111.2.1 bt111.2.2.1 bt111.2.2.2.1)) else (l10_ComplexesValues.j1 kj5 a0 bt111.2.2.2.2 t117 false a1_0 a1_1 a1_2 a1_3 a2_0 a2_1 a2_2 a2_3 bt111.1 bt111.2.1 bt111.2.2.1 bt111.2.2.2.1)))) = some true := by first | (rw [if_neg (show ¬ (false = true) by decide)] at H; exact H) | rfl
     clear H
     have H := H1
     clear H1
     replace H := Option.bind_eq_some_iff.mp H
     obtain ⟨⟨t111, t112, t113, t114, t115⟩, A22, H⟩ := H
     try dsimp only at H
     replace A22 := Aside0.mk A22
     replace H := Option.bind_eq_some_iff.mp H
     obtain ⟨t117, A23, H⟩ := H
     try dsimp only at H
     replace A23 := Aside0.mk A23
     have HC24 := Aside0.mk H
     clear H
     have hnb25 := NB106_107.out
     have hnc25 := NB107_106.out
     obtain ⟨hcz26_0, hcz26_1, hcz26_2, hcz26_3, hfz26_0, hfz26_1, hfz26_2, hfz26_3⟩ := cf4 BK106
     go_upto_region 7 with (first | ((with_reducible refine gate_callee (f := 43) rfl ?_); refine gL 30 Tryz.func43 #[.int .i64 a0, .int .u64 a1_1, .int .u64 a1_2] ?_; (with_reducible refine (cx_Made.calls kj5 a0 a1_1 a1_2 t111 t112 t113 t114 t115 _ A22.out).mono ?_); rintro e w27 ⟨rfl, hb⟩; refine ⟨_, rfl, ?_⟩; replace BK106 := bkb BK106 hb; replace BK107 := bkb BK107 hb; replace HB := bls HB hb; clear hb) | ((with_reducible refine gate_dst (N := 7) rfl ?_); refine bxe 7 (cs := #[.int .i64 0, .int .u64 0, .int .u64 0, .string (⟨#[]⟩ : ByteArray)]) (t := 24) ?_; intro gb116 hg w28 hbox hb; have BK116 := Aside0.mk hbox; have GW116 := bsz HB hg; have GE116 := bsz HB hg; have NB106_116 := bnl BK106 hg; have NB116_106 := bng BK106 hg; have NB107_116 := bnl BK107 hg; have NB116_107 := bng BK107 hg; replace BK106 := bkb BK106 hb; replace BK107 := bkb BK107 hb; replace HB := bls HB hb; clear hb hbox hg; have hnb29 := NB116_106.out; have hnc29 := NB106_116.out; have hnb30 := NB116_107.out; have hnc30 := NB107_116.out; have hcz31_0 : w28.cell? ⟨gb116, 0, none⟩ = some (.int .i64 0) := (blk_cell BK116.out 0).trans rfl; have hcz31_1 : w28.cell? ⟨gb116, 1, none⟩ = some (.int .u64 0) := (blk_cell BK116.out 1).trans rfl; have hcz31_2 : w28.cell? ⟨gb116, 2, none⟩ = some (.int .u64 0) := (blk_cell BK116.out 2).trans rfl; have hcz31_3 : w28.cell? ⟨gb116, 3, none⟩ = some (.string (⟨#[]⟩ : ByteArray)) := (blk_cell BK116.out 3).trans rfl; have hfz31_0 := blk_frozen BK116.out 0; have hfz31_1 := blk_frozen BK116.out 1; have hfz31_2 := blk_frozen BK116.out 2; have hfz31_3 := blk_frozen BK116.out 3) | ((with_reducible refine gate_callee (f := 39) rfl ?_); refine gL 34 Tryz.func39 #[.int .i64 a0] ?_; (with_reducible refine (r10_TypeErr.calls a0 t117 _ A23.out).mono ?_); rintro e w' ⟨rfl, ⟨nd, rfl⟩⟩; refine ⟨_, rfl, ?_⟩))
     (try simp only [Act.put, List.setIfInBounds_toArray, List.set_cons_zero, List.set_cons_succ])
     go_cut [50] (fun v50 wc => ∃ (kq : Nat) (x50_23 : Bool), v50 = .bool x50_23 ∧ Aside0 (l10_ComplexesValues.j1 kq a0 t115 t117 x50_23 a1_0 a1_1 a1_2 a1_3 a2_0 a2_1 a2_2 a2_3 t111 t112 t113 t114 = some true) ∧ Aside0 (kq ≤ kj5) ∧ Aside0 (wc.heap[gb106]? = some (.cells #[.int .i64 a1_0, .int .u64 a1_1, .int .u64 a1_2, .string a1_3] 24 (0, 0))) ∧ Aside0 (wc.heap[gb107]? = some (.cells #[.int .i64 a2_0, .int .u64 a2_1, .int .u64 a2_2, .string a2_3] 24 (0, 0))) ∧ Aside0 (wc.heap[gb116]? = some (.cells #[.int .i64 t111, .int .u64 t112, .int .u64 t113, .string t114] 24 (0, 0))) ∧ Aside0 (Below w.heap.size w wc))
     case first =>
      have H := HC24.out
      clear HC24
      by_cases c32 : t117 = 0
      ·rw [if_pos c32] at H
       have c32b0 : (t117 == 0) = true := beq_iff_eq.mpr c32
       have c32b1 : (t117 != 0) = false := bne_eq_false_iff_eq.mpr c32
       clear c32
       (first | rw [c32b0] | (simp only [i64_w, i32_w]; rw [c32b0]) | skip)
       by_cases c33 : a0 = 3
       ·rw [if_pos c33] at H
        have c33b0 : (a0 == 3) = true := beq_iff_eq.mpr c33
        have c33b1 : (a0 != 3) = false := bne_eq_false_iff_eq.mpr c33
        clear c33
        by_cases c34 : a1_1 ≥ 4294967296
        ·rw [if_pos c34] at H
         have c34b0 : decide (4294967296 ≤ a1_1) = true := decide_eq_true c34
         clear c34
         have H' := Aside0.mk H
         clear H
         have hnb35 := NB106_107.out
         have hnc35 := NB107_106.out
         have hnb36 := NB106_116.out
         have hnc36 := NB116_106.out
         obtain ⟨hcz37_0, hcz37_1, hcz37_2, hcz37_3, hfz37_0, hfz37_1, hfz37_2, hfz37_3⟩ := cf4 BK106
         go_wp2
         go_meet
         case rel => exact ⟨_, (true), (by first | rfl | (simp; done) | (simp [*]; done)), H', ⟨by have := HJ5.out; first | omega | exact Nat.le_refl _⟩, bkf BK106, bkf BK107, ⟨by (with_reducible repeat (first | refine blk_drewN ?_ _ | refine blk_drew ?_ | refine blk_alloc ?_ _)); refine blk_put (cs := #[.int .i64 t111, .int .u64 t112, .int .u64 t113, .string (⟨#[]⟩ : ByteArray)]) ?_ 3 _ rfl; (with_reducible repeat (first | refine blk_drewN ?_ _ | refine blk_drew ?_ | refine blk_alloc ?_ _)); refine blk_put (cs := #[.int .i64 t111, .int .u64 t112, .int .u64 0, .string (⟨#[]⟩ : ByteArray)]) ?_ 2 _ rfl; (with_reducible repeat (first | refine blk_drewN ?_ _ | refine blk_drew ?_ | refine blk_alloc ?_ _)); refine blk_put (cs := #[.int .i64 t111, .int .u64 0, .int .u64 0, .string (⟨#[]⟩ : ByteArray)]) ?_ 1 _ rfl; (with_reducible repeat (first | refine blk_drewN ?_ _ | refine blk_drew ?_ | refine blk_alloc ?_ _)); refine blk_put (cs := #[.int .i64 0, .int .u64 0, .int .u64 0, .string (⟨#[]⟩ : ByteArray)]) ?_ 0 _ rfl; (with_reducible repeat (first | refine blk_drewN ?_ _ | refine blk_drew ?_ | refine blk_alloc ?_ _)); exact BK116.out⟩, blt HB⟩
        ·rw [if_neg c34] at H
         have c34b0 : decide (4294967296 ≤ a1_1) = false := decide_eq_false c34
         clear c34
         have H' := Aside0.mk H
         clear H
         have hnb38 := NB106_107.out
         have hnc38 := NB107_106.out
         have hnb39 := NB106_116.out
         have hnc39 := NB116_106.out
         obtain ⟨hcz40_0, hcz40_1, hcz40_2, hcz40_3, hfz40_0, hfz40_1, hfz40_2, hfz40_3⟩ := cf4 BK106
         go_wp2
         go_meet
         case rel => exact ⟨_, (decide (a1_2 ≥ 4294967296)), (by first | rfl | (simp; done) | (simp [*]; done)), H', ⟨by have := HJ5.out; first | omega | exact Nat.le_refl _⟩, bkf BK106, bkf BK107, ⟨by (with_reducible repeat (first | refine blk_drewN ?_ _ | refine blk_drew ?_ | refine blk_alloc ?_ _)); refine blk_put (cs := #[.int .i64 t111, .int .u64 t112, .int .u64 t113, .string (⟨#[]⟩ : ByteArray)]) ?_ 3 _ rfl; (with_reducible repeat (first | refine blk_drewN ?_ _ | refine blk_drew ?_ | refine blk_alloc ?_ _)); refine blk_put (cs := #[.int .i64 t111, .int .u64 t112, .int .u64 0, .string (⟨#[]⟩ : ByteArray)]) ?_ 2 _ rfl; (with_reducible repeat (first | refine blk_drewN ?_ _ | refine blk_drew ?_ | refine blk_alloc ?_ _)); refine blk_put (cs := #[.int .i64 t111, .int .u64 0, .int .u64 0, .string (⟨#[]⟩ : ByteArray)]) ?_ 1 _ rfl; (with_reducible repeat (first | refine blk_drewN ?_ _ | refine blk_drew ?_ | refine blk_alloc ?_ _)); refine blk_put (cs := #[.int .i64 0, .int .u64 0, .int .u64 0, .string (⟨#[]⟩ : ByteArray)]) ?_ 0 _ rfl; (with_reducible repeat (first | refine blk_drewN ?_ _ | refine blk_drew ?_ | refine blk_alloc ?_ _)); exact BK116.out⟩, blt HB⟩
       ·rw [if_neg c33] at H
        have c33b0 : (a0 == 3) = false := beq_eq_false_iff_ne.mpr c33
        have c33b1 : (a0 != 3) = true := bne_iff_ne.mpr c33
        have H' := Aside0.mk H
        clear H
        go_wp2
        go_meet
        case rel => exact ⟨_, (false), (by first | rfl | (simp; done) | (simp [*]; done)), H', ⟨by have := HJ5.out; first | omega | exact Nat.le_refl _⟩, bkf BK106, bkf BK107, ⟨by (with_reducible repeat (first | refine blk_drewN ?_ _ | refine blk_drew ?_ | refine blk_alloc ?_ _)); refine blk_put (cs := #[.int .i64 t111, .int .u64 t112, .int .u64 t113, .string (⟨#[]⟩ : ByteArray)]) ?_ 3 _ rfl; (with_reducible repeat (first | refine blk_drewN ?_ _ | refine blk_drew ?_ | refine blk_alloc ?_ _)); refine blk_put (cs := #[.int .i64 t111, .int .u64 t112, .int .u64 0, .string (⟨#[]⟩ : ByteArray)]) ?_ 2 _ rfl; (with_reducible repeat (first | refine blk_drewN ?_ _ | refine blk_drew ?_ | refine blk_alloc ?_ _)); refine blk_put (cs := #[.int .i64 t111, .int .u64 0, .int .u64 0, .string (⟨#[]⟩ : ByteArray)]) ?_ 1 _ rfl; (with_reducible repeat (first | refine blk_drewN ?_ _ | refine blk_drew ?_ | refine blk_alloc ?_ _)); refine blk_put (cs := #[.int .i64 0, .int .u64 0, .int .u64 0, .string (⟨#[]⟩ : ByteArray)]) ?_ 0 _ rfl; (with_reducible repeat (first | refine blk_drewN ?_ _ | refine blk_drew ?_ | refine blk_alloc ?_ _)); exact BK116.out⟩, blt HB⟩
      ·rw [if_neg c32] at H
       have c32b0 : (t117 == 0) = false := beq_eq_false_iff_ne.mpr c32
       have c32b1 : (t117 != 0) = true := bne_iff_ne.mpr c32
       (first | rw [c32b0] | (simp only [i64_w, i32_w]; rw [c32b0]) | skip)
       have H' := Aside0.mk H
       clear H
       go_wp2
       go_meet
       case rel => exact ⟨_, (false), (by first | rfl | (simp; done) | (simp [*]; done)), H', ⟨by have := HJ5.out; first | omega | exact Nat.le_refl _⟩, bkf BK106, bkf BK107, ⟨by (with_reducible repeat (first | refine blk_drewN ?_ _ | refine blk_drew ?_ | refine blk_alloc ?_ _)); refine blk_put (cs := #[.int .i64 t111, .int .u64 t112, .int .u64 t113, .string (⟨#[]⟩ : ByteArray)]) ?_ 3 _ rfl; (with_reducible repeat (first | refine blk_drewN ?_ _ | refine blk_drew ?_ | refine blk_alloc ?_ _)); refine blk_put (cs := #[.int .i64 t111, .int .u64 t112, .int .u64 0, .string (⟨#[]⟩ : ByteArray)]) ?_ 2 _ rfl; (with_reducible repeat (first | refine blk_drewN ?_ _ | refine blk_drew ?_ | refine blk_alloc ?_ _)); refine blk_put (cs := #[.int .i64 t111, .int .u64 0, .int .u64 0, .string (⟨#[]⟩ : ByteArray)]) ?_ 1 _ rfl; (with_reducible repeat (first | refine blk_drewN ?_ _ | refine blk_drew ?_ | refine blk_alloc ?_ _)); refine blk_put (cs := #[.int .i64 0, .int .u64 0, .int .u64 0, .string (⟨#[]⟩ : ByteArray)]) ?_ 0 _ rfl; (with_reducible repeat (first | refine blk_drewN ?_ _ | refine blk_drew ?_ | refine blk_alloc ?_ _)); exact BK116.out⟩, blt HB⟩
     case rest =>
      clear HC24
      try clear c1
      try clear c2
      try clear p2
      try clear c3
      try clear c4
      try clear c5
      try clear c8
      try clear c10
      try clear c11
      try clear c13
      try clear c18
      try clear c21
      try clear c25
      try clear c29
      try clear c30
      try clear c32
      try clear c32b0
      try clear c32b1
      try clear c33
      try clear c33b0
      try clear c33b1
      try clear c34
      try clear c34b0
      try clear c35
      try clear c36
      try clear c38
      try clear c39
      try clear hcz14_0
      try clear hcz14_1
      try clear hcz14_2
      try clear hcz14_3
      try clear hcz16_0
      try clear hcz16_1
      try clear hcz16_2
      try clear hcz16_3
      try clear hcz19_0
      try clear hcz19_1
      try clear hcz19_2
      try clear hcz19_3
      try clear hcz26_0
      try clear hcz26_1
      try clear hcz26_2
      try clear hcz26_3
      try clear hcz31_0
      try clear hcz31_1
      try clear hcz31_2
      try clear hcz31_3
      try clear hcz37_0
      try clear hcz37_1
      try clear hcz37_2
      try clear hcz37_3
      try clear hcz40_0
      try clear hcz40_1
      try clear hcz40_2
      try clear hcz40_3
      try clear hfz14_0
      try clear hfz14_1
      try clear hfz14_2
      try clear hfz14_3
      try clear hfz16_0
      try clear hfz16_1
      try clear hfz16_2
      try clear hfz16_3
      try clear hfz19_0
      try clear hfz19_1
      try clear hfz19_2
      try clear hfz19_3
      try clear hfz26_0
      try clear hfz26_1
      try clear hfz26_2
      try clear hfz26_3
      try clear hfz31_0
      try clear hfz31_1
      try clear hfz31_2
      try clear hfz31_3
      try clear hfz37_0
      try clear hfz37_1
      try clear hfz37_2
      try clear hfz37_3
      try clear hfz40_0
      try clear hfz40_1
      try clear hfz40_2
      try clear hfz40_3
      try clear p2
      obtain ⟨kq, x50_23, rfl, HA, HJ23, BK106, BK107, BK116, HB⟩ := hcut
      cases kq with
      | zero => exact absurd HA.out (by simp [l10_ComplexesValues.j1])
      | succ kj23 =>
       have H := HA.out
       clear HA
       simp only [l10_ComplexesValues.j1] at H
       have HC41 := Aside0.mk H
       clear H
       go_upto_if 50 with (fail)
       go_cut [9] (fun v9 wc => ∃ (kq : Nat) (x9_40 : Int), v9 = .int .i64 x9_40 ∧ Aside0 (l10_ComplexesValues.j2 kq a0 t115 x9_40 a1_0 a1_1 a1_2 a1_3 a2_0 a2_1 a2_2 a2_3 t111 t112 t113 t114 = some true) ∧ Aside0 (kq ≤ kj23) ∧ Aside0 (wc.heap[gb106]? = some (.cells #[.int .i64 a1_0, .int .u64 a1_1, .int .u64 a1_2, .string a1_3] 24 (0, 0))) ∧ Aside0 (wc.heap[gb107]? = some (.cells #[.int .i64 a2_0, .int .u64 a2_1, .int .u64 a2_2, .string a2_3] 24 (0, 0))) ∧ Aside0 (wc.heap[gb116]? = some (.cells #[.int .i64 t111, .int .u64 t112, .int .u64 t113, .string t114] 24 (0, 0))) ∧ Aside0 (Below w.heap.size w wc))
       case first =>
        have H := HC41.out
        clear HC41
        by_cases c42 : x50_23 = true
        ·subst c42
         have H1 : (l10_ComplexesValues.j2 kj23 a0 t115 2 a1_0 a1_1 a1_2 a1_3 a2_0 a2_1 a2_2 a2_3 t111 t112 t113 t114) = some true := by first | (rw [if_pos rfl] at H; exact H) | rfl
         clear H
         have H := H1
         clear H1
         have H' := Aside0.mk H
         clear H
         go_wp2
         go_meet
         case rel => exact ⟨_, (2), (by first | rfl | (simp; done) | (simp [*]; done)), H', ⟨by have := HJ5.out; have := HJ23.out; first | omega | exact Nat.le_refl _⟩, bks BK106, bks BK107, bks BK116, blt HB⟩
        ·replace c42 := Bool.eq_false_iff.mpr c42
         subst c42
         have H1 : (l10_ComplexesValues.j2 kj23 a0 t115 t117 a1_0 a1_1 a1_2 a1_3 a2_0 a2_1 a2_2 a2_3 t111 t112 t113 t114) = some true := by first | (rw [if_neg (show ¬ (false = true) by decide)] at H; exact H) | rfl
         clear H
         have H := H1
         clear H1
         have H' := Aside0.mk H
         clear H
         go_wp2
         go_meet
         case rel => exact ⟨_, (t117), (by first | rfl | (simp; done) | (simp [*]; done)), H', ⟨by have := HJ5.out; have := HJ23.out; first | omega | exact Nat.le_refl _⟩, bks BK106, bks BK107, bks BK116, blt HB⟩
       case rest =>
        clear HC41
        try clear c1
        try clear c2
        try clear p2
        try clear c3
        try clear c4
        try clear c5
        try clear c8
        try clear c10
        try clear c11
        try clear c13
        try clear c18
        try clear c21
        try clear c25
        try clear c29
        try clear c30
        try clear c32
        try clear c32b0
        try clear c32b1
        try clear c33
        try clear c33b0
        try clear c33b1
        try clear c34
        try clear c34b0
        try clear c35
        try clear c36
        try clear c38
        try clear c39
        try clear c42
        try clear hcz14_0
        try clear hcz14_1
        try clear hcz14_2
        try clear hcz14_3
        try clear hcz16_0
        try clear hcz16_1
        try clear hcz16_2
        try clear hcz16_3
        try clear hcz19_0
        try clear hcz19_1
        try clear hcz19_2
        try clear hcz19_3
        try clear hcz26_0
        try clear hcz26_1
        try clear hcz26_2
        try clear hcz26_3
        try clear hcz31_0
        try clear hcz31_1
        try clear hcz31_2
        try clear hcz31_3
        try clear hcz37_0
        try clear hcz37_1
        try clear hcz37_2
        try clear hcz37_3
        try clear hcz40_0
        try clear hcz40_1
        try clear hcz40_2
        try clear hcz40_3
        try clear hfz14_0
        try clear hfz14_1
        try clear hfz14_2
        try clear hfz14_3
        try clear hfz16_0
        try clear hfz16_1
        try clear hfz16_2
        try clear hfz16_3
        try clear hfz19_0
        try clear hfz19_1
        try clear hfz19_2
        try clear hfz19_3
        try clear hfz26_0
        try clear hfz26_1
        try clear hfz26_2
        try clear hfz26_3
        try clear hfz31_0
        try clear hfz31_1
        try clear hfz31_2
        try clear hfz31_3
        try clear hfz37_0
        try clear hfz37_1
        try clear hfz37_2
        try clear hfz37_3
        try clear hfz40_0
        try clear hfz40_1
        try clear hfz40_2
        try clear hfz40_3
        try clear p2
        obtain ⟨kq, x9_40, rfl, HA, HJ40, BK106, BK107, BK116, HB⟩ := hcut
        cases kq with
        | zero => exact absurd HA.out (by simp [l10_ComplexesValues.j2])
        | succ kj40 =>
         have H := HA.out
         clear HA
         simp only [l10_ComplexesValues.j2] at H
         have HC43 := Aside0.mk H
         clear H
         go_upto_region 9 with (fail)
         go_cut [80] (fun v80 wc => ∃ (kq : Nat) (x80_42 : Bool), v80 = .bool x80_42 ∧ Aside0 (l10_ComplexesValues.j3 kq x80_42 a1_0 a1_1 a1_2 a1_3 a2_0 a2_1 a2_2 a2_3 = some true) ∧ Aside0 (kq ≤ kj40) ∧ Aside0 (wc.heap[gb106]? = some (.cells #[.int .i64 a1_0, .int .u64 a1_1, .int .u64 a1_2, .string a1_3] 24 (0, 0))) ∧ Aside0 (wc.heap[gb107]? = some (.cells #[.int .i64 a2_0, .int .u64 a2_1, .int .u64 a2_2, .string a2_3] 24 (0, 0))) ∧ Aside0 (wc.heap[gb116]? = some (.cells #[.int .i64 t111, .int .u64 t112, .int .u64 t113, .string t114] 24 (0, 0))) ∧ Aside0 (Below w.heap.size w wc))
         case first =>
          have H := HC43.out
          clear HC43
          by_cases c44 : x9_40 = 0
          ·rw [if_pos c44] at H
           have c44b0 : (x9_40 == 0) = true := beq_iff_eq.mpr c44
           have c44b1 : (x9_40 != 0) = false := bne_eq_false_iff_eq.mpr c44
           clear c44
           (first | rw [c44b0] | (simp only [i64_w, i32_w]; rw [c44b0]) | skip)
           by_cases c45 : t115 = 0
           ·rw [if_pos c45] at H
            have c45b0 : (t115 == 0) = true := beq_iff_eq.mpr c45
            have c45b1 : (t115 != 0) = false := bne_eq_false_iff_eq.mpr c45
            clear c45
            replace H := Option.bind_eq_some_iff.mp H
            obtain ⟨⟨t118, t119, t120, t121⟩, A46, H⟩ := H
            try dsimp only at H
            replace A46 := Aside0.mk A46
            have H' := Aside0.mk H
            clear H
            try go_wp2
            replace BK106 := Aside0.mk (blk_drew BK106.out)
            replace BK107 := Aside0.mk (blk_drew BK107.out)
            replace BK116 := Aside0.mk (blk_drew BK116.out)
            replace HB := Aside0.mk (below_drew1 HB.out)
            refine start_ (n := 30) (S := fun w' => w'.cell? ⟨gb116, 0, none⟩ = some (.int .i64 t111) ∧ w'.cell? ⟨gb116, 1, none⟩ = some (.int .u64 t112) ∧ w'.cell? ⟨gb116, 2, none⟩ = some (.int .u64 t113) ∧ w'.cell? ⟨gb116, 3, none⟩ = some (.string t114) ∧ w'.cell? ⟨gb106, 0, none⟩ = some (.int .i64 a1_0) ∧ w'.cell? ⟨gb106, 1, none⟩ = some (.int .u64 a1_1) ∧ w'.cell? ⟨gb106, 2, none⟩ = some (.int .u64 a1_2) ∧ w'.cell? ⟨gb106, 3, none⟩ = some (.string a1_3)) (ds := []) #[false, false, false, false, false, false, false, false, false, false, false, false, false, false, false, false, false, false, false, false, false, false, false, false, false, false, false, false, false, false] (by kernel_rfl) rfl rfl ⟨(blk_cell BK116.out 0).trans rfl, (blk_cell BK116.out 1).trans rfl, (blk_cell BK116.out 2).trans rfl, (blk_cell BK116.out 3).trans rfl, (blk_cell BK106.out 0).trans rfl, (blk_cell BK106.out 1).trans rfl, (blk_cell BK106.out 2).trans rfl, (blk_cell BK106.out 3).trans rfl⟩ (fun hHeld => ?_); refine with_tabW l10_ComplexesValues.tab9 l10_ComplexesValues.bits9 (fun HT_ HW_ => ?_)
            generalize wc.drew = w47 at BK106 BK107 BK116 HB hHeld ⊢
            refine pu 0 51 HT_ ?_
            refine pu 1 52 HT_ ?_
            refine pu 2 53 HT_ ?_
            refine pn 3 54 HT_ ?_
            refine pn 4 55 HT_ ?_
            refine pn 5 56 HT_ ?_
            refine pn 6 57 HT_ ?_
            refine pn 7 58 HT_ ?_
            refine pn 8 59 HT_ ?_
            refine pn 9 60 HT_ ?_
            refine pn 10 61 HT_ ?_
            refine pu 11 62 HT_ ?_
            refine pu 12 63 HT_ ?_
            refine pu 13 64 HT_ ?_
            refine pu 14 65 HT_ ?_
            refine pu 15 66 HT_ ?_
            refine pu 16 67 HT_ ?_
            refine pu 17 68 HT_ ?_
            refine pu 18 69 HT_ ?_
            refine pu 20 71 HT_ ?_
            refine pu 21 72 HT_ ?_
            refine pu 23 74 HT_ ?_
            refine tk 19 70 HT_ HW_ hHeld ?_
            refine tk 22 73 HT_ HW_ hHeld ?_
            refine tk 24 75 HT_ HW_ hHeld ?_
            refine one_ (i := 25) (N := some 76) #[true, true, true, true, true, true, true, true, true, true, true, true, true, true, true, true, true, true, true, true, true, true, true, true, true, true, false, false, false, false] rfl rfl (one_of HT_.out (by kernel_rfl)) (by decide) (fun K hK => ?_)
            refine goes_ Tryz.func18 (by kernel_rfl) rfl #[.int .i64 a0, .int .u64 a1_1, .int .u64 a1_2] (by rfl) rfl rfl (by (try simp only [List.map_toArray, List.map_cons, List.map_nil]); first | done | rfl | (simp only [List.length_drop, List.length_take]; rfl)) ?_
            with_reducible refine (r10_Made.calls a0 a1_1 a1_2 t118 t119 t120 t121 _ A46.out).mono ?_
            rintro e w48 ⟨rfl, hb⟩
            refine ⟨_, rfl, ?_⟩
            replace BK106 := bkb BK106 hb
            replace BK107 := bkb BK107 hb
            replace BK116 := bkb BK116 hb
            replace HB := bls HB hb
            (try clear hb)
            (try clear hb2)
            (try clear hk)
            (try clear hi)
            refine hK.out _ _ ⟨(blk_cell BK116.out 0).trans rfl, (blk_cell BK116.out 1).trans rfl, (blk_cell BK116.out 2).trans rfl, (blk_cell BK116.out 3).trans rfl, (blk_cell BK106.out 0).trans rfl, (blk_cell BK106.out 1).trans rfl, (blk_cell BK106.out 2).trans rfl, (blk_cell BK106.out 3).trans rfl⟩ (fun hHeld => ?_)
            clear hK K
            refine norm_ (a' := ?_) ?_ ?_
            rotate_left
            ·show Act.put _ (some 76) _ = _
             simp only [Act.put, List.setIfInBounds_toArray, List.set_cons_zero, List.set_cons_succ, i64_w, i32_w]
             rfl
            refine pu 26 77 HT_ ?_
            refine pu 27 78 HT_ ?_
            refine pu 28 79 HT_ ?_
            refine pu 29 80 HT_ ?_
            refine done_ (done_of HT_.out (by kernel_rfl)) ?_
            try go_wp2
            go_meet
            case rel => exact ⟨_, ((!(t111 == t118) || (!(t112 == t119) || (!(t113 == t120) || (!(t114.toList == t121.toList)))))), (by first | rfl | (simp; done) | (simp [*]; done)), H', ⟨by have := HJ5.out; have := HJ23.out; have := HJ40.out; first | omega | exact Nat.le_refl _⟩, bks BK106, bks BK107, bks BK116, blt HB⟩
           ·rw [if_neg c45] at H
            have c45b0 : (t115 == 0) = false := beq_eq_false_iff_ne.mpr c45
            have c45b1 : (t115 != 0) = true := bne_iff_ne.mpr c45
            exact absurd H (by first | decide | (cases kj40 <;> simp [l10_ComplexesValues.j0, l10_ComplexesValues.j1, l10_ComplexesValues.j2, l10_ComplexesValues.j3, l10_ComplexesValues.j4]))
          ·rw [if_neg c44] at H
           have c44b0 : (x9_40 == 0) = false := beq_eq_false_iff_ne.mpr c44
           have c44b1 : (x9_40 != 0) = true := bne_iff_ne.mpr c44
           (first | rw [c44b0] | (simp only [i64_w, i32_w]; rw [c44b0]) | skip)
           by_cases c49 : t115 = x9_40
           ·rw [if_pos c49] at H
            have c49b0 : (t115 == x9_40) = true := beq_iff_eq.mpr c49
            have c49b1 : (t115 != x9_40) = false := bne_eq_false_iff_eq.mpr c49
            clear c49
            by_cases c50 : (!(t111 == 0) || (!(t112 == 0) || (!(t113 == 0) || (!(t114.toList == ([] : List UInt8)))))) = true
            ·rw [if_pos c50] at H
             have c50b0 : (!(t111 == 0) || (!(t112 == 0) || (!(t113 == 0) || (!(t114.toList == ([] : List UInt8)))))) = true := c50
             have c50b0z := c50b0
             simp only [beqn] at c50b0z
             clear c50
             exact absurd H (by first | decide | (cases kj40 <;> simp [l10_ComplexesValues.j0, l10_ComplexesValues.j1, l10_ComplexesValues.j2, l10_ComplexesValues.j3, l10_ComplexesValues.j4]))
            ·rw [if_neg c50] at H
             have c50b0 : (!(t111 == 0) || (!(t112 == 0) || (!(t113 == 0) || (!(t114.toList == ([] : List UInt8)))))) = false := by simpa using c50
             have c50b0z := c50b0
             simp only [beqn] at c50b0z
             clear c50
             have H' := Aside0.mk H
             clear H
             try go_wp2
             replace BK106 := Aside0.mk (blk_drew BK106.out)
             replace BK107 := Aside0.mk (blk_drew BK107.out)
             replace BK116 := Aside0.mk (blk_drew BK116.out)
             replace HB := Aside0.mk (below_drew1 HB.out)
             refine start_ (n := 30) (S := fun w' => w'.cell? ⟨gb116, 0, none⟩ = some (.int .i64 t111) ∧ w'.cell? ⟨gb116, 1, none⟩ = some (.int .u64 t112) ∧ w'.cell? ⟨gb116, 2, none⟩ = some (.int .u64 t113) ∧ w'.cell? ⟨gb116, 3, none⟩ = some (.string t114)) (ds := []) #[false, false, false, false, false, false, false, false, false, false, false, false, false, false, false, false, false, false, false, false, false, false, false, false, false, false, false, false, false, false] (by kernel_rfl) rfl rfl ⟨(blk_cell BK116.out 0).trans rfl, (blk_cell BK116.out 1).trans rfl, (blk_cell BK116.out 2).trans rfl, (blk_cell BK116.out 3).trans rfl⟩ (fun hHeld => ?_); refine with_tabW l10_ComplexesValues.tab9 l10_ComplexesValues.bits9 (fun HT_ HW_ => ?_)
             generalize wc.drew = w51 at BK106 BK107 BK116 HB hHeld ⊢
             refine pu 0 51 HT_ ?_
             refine pu 1 52 HT_ ?_
             refine pu 2 53 HT_ ?_
             refine pu 3 54 HT_ ?_
             refine pu 4 55 HT_ ?_
             refine pu 5 56 HT_ ?_
             refine pu 6 57 HT_ ?_
             refine pu 8 59 HT_ ?_
             refine tk 7 58 HT_ HW_ hHeld ?_
             refine pu 9 60 HT_ ?_
             refine pu 10 61 HT_ ?_
             refine pu 11 62 HT_ ?_
             refine pu 12 63 HT_ ?_
             refine pu 13 64 HT_ ?_
             refine pu 14 65 HT_ ?_
             refine pu 15 66 HT_ ?_
             refine pn 16 67 HT_ ?_
             refine pn 17 68 HT_ ?_
             refine pn 18 69 HT_ ?_
             refine pn 19 70 HT_ ?_
             refine pn 20 71 HT_ ?_
             refine pn 21 72 HT_ ?_
             refine pn 22 73 HT_ ?_
             refine pn 23 74 HT_ ?_
             refine pn 24 75 HT_ ?_
             refine pn 25 76 HT_ ?_
             refine pn 26 77 HT_ ?_
             refine pn 27 78 HT_ ?_
             refine pu 28 79 HT_ ?_
             refine pu 29 80 HT_ ?_
             refine done_ (done_of HT_.out (by kernel_rfl)) ?_
             try go_wp2
             go_meet
             case rel => exact ⟨_, (false), (by first | rfl | (simp; done) | (simp [*]; done)), H', ⟨by have := HJ5.out; have := HJ23.out; have := HJ40.out; first | omega | exact Nat.le_refl _⟩, bks BK106, bks BK107, bks BK116, blt HB⟩
           ·rw [if_neg c49] at H
            have c49b0 : (t115 == x9_40) = false := beq_eq_false_iff_ne.mpr c49
            have c49b1 : (t115 != x9_40) = true := bne_iff_ne.mpr c49
            exact absurd H (by first | decide | (cases kj40 <;> simp [l10_ComplexesValues.j0, l10_ComplexesValues.j1, l10_ComplexesValues.j2, l10_ComplexesValues.j3, l10_ComplexesValues.j4]))
         case rest =>
          clear HC43
          try clear c1
          try clear c2
          try clear p2
          try clear c3
          try clear c4
          try clear c5
          try clear c10
          try clear c11
          try clear c13
          try clear c18
          try clear c21
          try clear c25
          try clear c29
          try clear c30
          try clear c32
          try clear c32b0
          try clear c32b1
          try clear c33
          try clear c33b0
          try clear c33b1
          try clear c34
          try clear c34b0
          try clear c35
          try clear c36
          try clear c38
          try clear c39
          try clear c42
          try clear c44
          try clear c44b0
          try clear c44b1
          try clear c45
          try clear c45b0
          try clear c45b1
          try clear c49
          try clear c49b0
          try clear c49b1
          try clear c50
          try clear c50b0
          try clear hcz14_0
          try clear hcz14_1
          try clear hcz14_2
          try clear hcz14_3
          try clear hcz16_0
          try clear hcz16_1
          try clear hcz16_2
          try clear hcz16_3
          try clear hcz19_0
          try clear hcz19_1
          try clear hcz19_2
          try clear hcz19_3
          try clear hcz26_0
          try clear hcz26_1
          try clear hcz26_2
          try clear hcz26_3
          try clear hcz31_0
          try clear hcz31_1
          try clear hcz31_2
          try clear hcz31_3
          try clear hcz37_0
          try clear hcz37_1
          try clear hcz37_2
          try clear hcz37_3
          try clear hcz40_0
          try clear hcz40_1
          try clear hcz40_2
          try clear hcz40_3
          try clear hfz14_0
          try clear hfz14_1
          try clear hfz14_2
          try clear hfz14_3
          try clear hfz16_0
          try clear hfz16_1
          try clear hfz16_2
          try clear hfz16_3
          try clear hfz19_0
          try clear hfz19_1
          try clear hfz19_2
          try clear hfz19_3
          try clear hfz26_0
          try clear hfz26_1
          try clear hfz26_2
          try clear hfz26_3
          try clear hfz31_0
          try clear hfz31_1
          try clear hfz31_2
          try clear hfz31_3
          try clear hfz37_0
          try clear hfz37_1
          try clear hfz37_2
          try clear hfz37_3
          try clear hfz40_0
          try clear hfz40_1
          try clear hfz40_2
          try clear hfz40_3
          try clear p2
          obtain ⟨kq, x80_42, rfl, HA, HJ42, BK106, BK107, BK116, HB⟩ := hcut
          cases kq with
          | zero => exact absurd HA.out (by simp [l10_ComplexesValues.j3])
          | succ kj42 =>
           have H := HA.out
           clear HA
           simp only [l10_ComplexesValues.j3] at H
           by_cases c52 : x80_42 = true
           ·subst c52
            have H1 : (some false) = some true := by first | (rw [if_pos rfl] at H; exact H) | rfl
            clear H
            have H := H1
            clear H1
            exact absurd H (by first | decide | (cases kj42 <;> simp [l10_ComplexesValues.j0, l10_ComplexesValues.j1, l10_ComplexesValues.j2, l10_ComplexesValues.j3, l10_ComplexesValues.j4]))
           ·replace c52 := Bool.eq_false_iff.mpr c52
            subst c52
            have H1 : ((cx_PartsOf.f a1_0 a1_1 a1_2 a1_3).bind fun bt122 => ((r10_ValueErr.f a1_0 a1_1 a1_2 a1_3).bind fun t127 => (if t127 = 0 then (if bt122.2.2.2 = 0 then ((r10_PartType.f a1_0).bind fun t128 => (if (!(bt122.1 == t128) || (!(bt122.2.1 == a1_1) || (!(bt122.2.2.1 == a1_2)))) = true then (some false) else (l10_ComplexesValues.j4 kj42 a1_0 a1_1 a1_2 a1_3 a2_0 a2_1 a2_2 a2_3))) else (some false)) else (if bt122.2.2.2 = t127 then (if (!(bt122.1 == 0) || (!(bt122.2.1 == 0) || (!(bt122.2.2.1 == 0)))) = true then (some false) else (l10_ComplexesValues.j4 kj42 a1_0 a1_1 a1_2 a1_3 a2_0 a2_1 a2_2 a2_3)) else (some false))))) = some true := by first | (rw [if_neg (show ¬ (false = true) by decide)] at H; exact H) | rfl
            clear H
            have H := H1
            clear H1
            replace H := Option.bind_eq_some_iff.mp H
            obtain ⟨⟨t122, t123, t124, t125⟩, A53, H⟩ := H
            try dsimp only at H
            replace A53 := Aside0.mk A53
            replace H := Option.bind_eq_some_iff.mp H
            obtain ⟨t127, A54, H⟩ := H
            try dsimp only at H
            replace A54 := Aside0.mk A54
            have HC55 := Aside0.mk H
            clear H
            have hnb56 := NB106_107.out
            have hnc56 := NB107_106.out
            have hnb57 := NB106_116.out
            have hnc57 := NB116_106.out
            obtain ⟨hcz58_0, hcz58_1, hcz58_2, hcz58_3, hfz58_0, hfz58_1, hfz58_2, hfz58_3⟩ := cf4 BK106
            go_upto_if 89 with (first | ((with_reducible refine gate_callee (f := 44) rfl ?_); refine gL 83 Tryz.func44 #[.agg #[.int .i64 a1_0, .int .u64 a1_1, .int .u64 a1_2, .string a1_3]] ?_; (with_reducible refine (cx_PartsOf.calls a1_0 a1_1 a1_2 a1_3 t122 t123 t124 t125 _ A53.out).mono ?_); rintro e w59 ⟨rfl, hb⟩; refine ⟨_, rfl, ?_⟩; replace BK106 := bkb BK106 hb; replace BK107 := bkb BK107 hb; replace BK116 := bkb BK116 hb; replace HB := bls HB hb; clear hb) | ((with_reducible refine gate_dst (N := 10) rfl ?_); refine bxe 10 (cs := #[.int .i64 0, .int .u64 0, .int .u64 0]) (t := 62) ?_; intro gb126 hg w60 hbox hb; have BK126 := Aside0.mk hbox; have GW126 := bsz HB hg; have GE126 := bsz HB hg; have NB106_126 := bnl BK106 hg; have NB126_106 := bng BK106 hg; have NB107_126 := bnl BK107 hg; have NB126_107 := bng BK107 hg; have NB116_126 := bnl BK116 hg; have NB126_116 := bng BK116 hg; replace BK106 := bkb BK106 hb; replace BK107 := bkb BK107 hb; replace BK116 := bkb BK116 hb; replace HB := bls HB hb; clear hb hbox hg; have hnb61 := NB126_106.out; have hnc61 := NB106_126.out; have hnb62 := NB126_107.out; have hnc62 := NB107_126.out; have hnb63 := NB126_116.out; have hnc63 := NB116_126.out; obtain ⟨hcz64_0, hcz64_1, hcz64_2, hfz64_0, hfz64_1, hfz64_2⟩ := cf3 BK126; have hcz65_0 : w60.cell? ⟨gb106, 0, none⟩ = some (.int .i64 a1_0) := (blk_cell BK106.out 0).trans rfl; have hcz65_1 : w60.cell? ⟨gb106, 1, none⟩ = some (.int .u64 a1_1) := (blk_cell BK106.out 1).trans rfl; have hcz65_2 : w60.cell? ⟨gb106, 2, none⟩ = some (.int .u64 a1_2) := (blk_cell BK106.out 2).trans rfl; have hcz65_3 : w60.cell? ⟨gb106, 3, none⟩ = some (.string a1_3) := (blk_cell BK106.out 3).trans rfl; have hfz65_0 := blk_frozen BK106.out 0; have hfz65_1 := blk_frozen BK106.out 1; have hfz65_2 := blk_frozen BK106.out 2; have hfz65_3 := blk_frozen BK106.out 3) | ((with_reducible refine gate_callee (f := 29) rfl ?_); refine gL 87 Tryz.func29 #[.agg #[.int .i64 a1_0, .int .u64 a1_1, .int .u64 a1_2, .string a1_3]] ?_; (with_reducible refine (r10_ValueErr.calls a1_0 a1_1 a1_2 a1_3 t127 _ A54.out).mono ?_); rintro e w66 ⟨rfl, hb⟩; refine ⟨_, rfl, ?_⟩; replace BK106 := Aside0.mk (blk_below (g := gb106) (o := .cells #[.int .i64 a1_0, .int .u64 a1_1, .int .u64 a1_2, .string a1_3] 24 (0, 0)) (bkf BK106).out hb); replace BK107 := Aside0.mk (blk_below (g := gb107) (o := .cells #[.int .i64 a2_0, .int .u64 a2_1, .int .u64 a2_2, .string a2_3] 24 (0, 0)) (bkf BK107).out hb); replace BK116 := Aside0.mk (blk_below (g := gb116) (o := .cells #[.int .i64 t111, .int .u64 t112, .int .u64 t113, .string t114] 24 (0, 0)) (bkf BK116).out hb); replace BK126 := Aside0.mk (blk_below (g := gb126) (o := .cells #[.int .i64 t122, .int .u64 t123, .int .u64 t124] 62 (0, 0)) (by (with_reducible repeat (first | refine blk_drewN ?_ _ | refine blk_drew ?_ | refine blk_alloc ?_ _)); refine blk_put (cs := #[.int .i64 t122, .int .u64 t123, .int .u64 0]) ?_ 2 _ rfl; (with_reducible repeat (first | refine blk_drewN ?_ _ | refine blk_drew ?_ | refine blk_alloc ?_ _)); refine blk_put (cs := #[.int .i64 t122, .int .u64 0, .int .u64 0]) ?_ 1 _ rfl; (with_reducible repeat (first | refine blk_drewN ?_ _ | refine blk_drew ?_ | refine blk_alloc ?_ _)); refine blk_put (cs := #[.int .i64 0, .int .u64 0, .int .u64 0]) ?_ 0 _ rfl; (with_reducible repeat (first | refine blk_drewN ?_ _ | refine blk_drew ?_ | refine blk_alloc ?_ _)); exact BK126.out) hb); replace HB := bls HB hb; clear hb))
            (try simp only [Act.put, List.setIfInBounds_toArray, List.set_cons_zero, List.set_cons_succ])
            go_cut [] (fun wc => ∃ (kq : Nat), Aside0 (l10_ComplexesValues.j4 kq a1_0 a1_1 a1_2 a1_3 a2_0 a2_1 a2_2 a2_3 = some true) ∧ Aside0 (kq ≤ kj42) ∧ Aside0 (wc.heap[gb106]? = some (.cells #[.int .i64 a1_0, .int .u64 a1_1, .int .u64 a1_2, .string a1_3] 24 (0, 0))) ∧ Aside0 (wc.heap[gb107]? = some (.cells #[.int .i64 a2_0, .int .u64 a2_1, .int .u64 a2_2, .string a2_3] 24 (0, 0))) ∧ Aside0 (wc.heap[gb116]? = some (.cells #[.int .i64 t111, .int .u64 t112, .int .u64 t113, .string t114] 24 (0, 0))) ∧ Aside0 (wc.heap[gb126]? = some (.cells #[.int .i64 t122, .int .u64 t123, .int .u64 t124] 62 (0, 0))) ∧ Aside0 (Below w.heap.size w wc))
            case first =>
             have H := HC55.out
             clear HC55
             by_cases c67 : t127 = 0
             ·rw [if_pos c67] at H
              have c67b0 : (t127 == 0) = true := beq_iff_eq.mpr c67
              have c67b1 : (t127 != 0) = false := bne_eq_false_iff_eq.mpr c67
              clear c67
              (first | rw [c67b0] | (simp only [i64_w, i32_w]; rw [c67b0]) | skip)
              by_cases c68 : t125 = 0
              ·rw [if_pos c68] at H
               have c68b0 : (t125 == 0) = true := beq_iff_eq.mpr c68
               have c68b1 : (t125 != 0) = false := bne_eq_false_iff_eq.mpr c68
               clear c68
               replace H := Option.bind_eq_some_iff.mp H
               obtain ⟨t128, A69, H⟩ := H
               try dsimp only at H
               replace A69 := Aside0.mk A69
               by_cases c70 : (!(t122 == t128) || (!(t123 == a1_1) || (!(t124 == a1_2)))) = true
               ·rw [if_pos c70] at H
                have c70b0 : (!(t122 == t128) || (!(t123 == a1_1) || (!(t124 == a1_2)))) = true := c70
                clear c70
                exact absurd H (by first | decide | (cases kj42 <;> simp [l10_ComplexesValues.j0, l10_ComplexesValues.j1, l10_ComplexesValues.j2, l10_ComplexesValues.j3, l10_ComplexesValues.j4]))
               ·rw [if_neg c70] at H
                have c70b0 : (!(t122 == t128) || (!(t123 == a1_1) || (!(t124 == a1_2)))) = false := by simpa using c70
                clear c70
                have H' := Aside0.mk H
                clear H
                try go_wp2
                replace BK106 := Aside0.mk (blk_drew BK106.out)
                replace BK107 := Aside0.mk (blk_drew BK107.out)
                replace BK116 := Aside0.mk (blk_drew BK116.out)
                replace BK126 := Aside0.mk (blk_drew BK126.out)
                replace HB := Aside0.mk (below_drew1 HB.out)
                refine start_ (n := 14) (S := fun w' => w'.cell? ⟨gb126, 0, none⟩ = some (.int .i64 t122) ∧ w'.cell? ⟨gb126, 1, none⟩ = some (.int .u64 t123) ∧ w'.cell? ⟨gb126, 2, none⟩ = some (.int .u64 t124) ∧ w'.cell? ⟨gb106, 0, none⟩ = some (.int .i64 a1_0) ∧ w'.cell? ⟨gb106, 1, none⟩ = some (.int .u64 a1_1) ∧ w'.cell? ⟨gb106, 2, none⟩ = some (.int .u64 a1_2) ∧ w'.cell? ⟨gb106, 3, none⟩ = some (.string a1_3)) (ds := []) #[false, false, false, false, false, false, false, false, false, false, false, false, false, false] (by kernel_rfl) rfl rfl ⟨(blk_cell BK126.out 0).trans rfl, (blk_cell BK126.out 1).trans rfl, (blk_cell BK126.out 2).trans rfl, (blk_cell BK106.out 0).trans rfl, (blk_cell BK106.out 1).trans rfl, (blk_cell BK106.out 2).trans rfl, (blk_cell BK106.out 3).trans rfl⟩ (fun hHeld => ?_); refine with_tabW l10_ComplexesValues.tab16 l10_ComplexesValues.bits16 (fun HT_ HW_ => ?_)
                generalize w66.drew = w71 at BK106 BK107 BK116 BK126 HB hHeld ⊢
                refine pu 0 98 HT_ ?_
                refine pu 1 99 HT_ ?_
                refine pu 2 100 HT_ ?_
                refine pu 4 102 HT_ ?_
                refine pu 7 105 HT_ ?_
                refine pu 9 107 HT_ ?_
                refine tk 3 101 HT_ HW_ hHeld ?_
                refine tk 5 103 HT_ HW_ hHeld ?_
                refine tk 8 106 HT_ HW_ hHeld ?_
                refine tk 10 108 HT_ HW_ hHeld ?_
                refine one_ (i := 6) (N := some 104) #[true, true, true, true, true, true, true, true, true, true, true, false, false, false] rfl rfl (one_of HT_.out (by kernel_rfl)) (by decide) (fun K hK => ?_)
                refine goes_ Tryz.func16 (by kernel_rfl) rfl #[.int .i64 a1_0] (by rfl) rfl rfl (by (try simp only [List.map_toArray, List.map_cons, List.map_nil]); first | done | rfl | (simp only [List.length_drop, List.length_take]; rfl)) ?_
                with_reducible refine (r10_PartType.calls a1_0 t128 _ A69.out).mono ?_
                rintro e w' ⟨rfl, ⟨nd, rfl⟩⟩
                refine ⟨_, rfl, ?_⟩
                refine hK.out _ _ ⟨(blk_cell BK126.out 0).trans rfl, (blk_cell BK126.out 1).trans rfl, (blk_cell BK126.out 2).trans rfl, (blk_cell BK106.out 0).trans rfl, (blk_cell BK106.out 1).trans rfl, (blk_cell BK106.out 2).trans rfl, (blk_cell BK106.out 3).trans rfl⟩ (fun hHeld => ?_)
                clear hK K
                refine norm_ (a' := ?_) ?_ ?_
                rotate_left
                ·show Act.put _ (some 104) _ = _
                 simp only [Act.put, List.setIfInBounds_toArray, List.set_cons_zero, List.set_cons_succ, i64_w, i32_w]
                 rfl
                refine pu 11 109 HT_ ?_
                refine pu 12 110 HT_ ?_
                refine pu 13 111 HT_ ?_
                refine done_ (done_of HT_.out (by kernel_rfl)) ?_
                try go_wp2
                go_meet
                case rel => exact ⟨_, H', ⟨by have := HJ5.out; have := HJ23.out; have := HJ40.out; have := HJ42.out; first | omega | exact Nat.le_refl _⟩, bks BK106, bks BK107, bks BK116, bks BK126, blt HB⟩
              ·rw [if_neg c68] at H
               have c68b0 : (t125 == 0) = false := beq_eq_false_iff_ne.mpr c68
               have c68b1 : (t125 != 0) = true := bne_iff_ne.mpr c68
               exact absurd H (by first | decide | (cases kj42 <;> simp [l10_ComplexesValues.j0, l10_ComplexesValues.j1, l10_ComplexesValues.j2, l10_ComplexesValues.j3, l10_ComplexesValues.j4]))
             ·rw [if_neg c67] at H
              have c67b0 : (t127 == 0) = false := beq_eq_false_iff_ne.mpr c67
              have c67b1 : (t127 != 0) = true := bne_iff_ne.mpr c67
              (first | rw [c67b0] | (simp only [i64_w, i32_w]; rw [c67b0]) | skip)
              by_cases c72 : t125 = t127
              ·rw [if_pos c72] at H
               have c72b0 : (t125 == t127) = true := beq_iff_eq.mpr c72
               have c72b1 : (t125 != t127) = false := bne_eq_false_iff_eq.mpr c72
               clear c72
               by_cases c73 : (!(t122 == 0) || (!(t123 == 0) || (!(t124 == 0)))) = true
               ·rw [if_pos c73] at H
                have c73b0 : (!(t122 == 0) || (!(t123 == 0) || (!(t124 == 0)))) = true := c73
                clear c73
                exact absurd H (by first | decide | (cases kj42 <;> simp [l10_ComplexesValues.j0, l10_ComplexesValues.j1, l10_ComplexesValues.j2, l10_ComplexesValues.j3, l10_ComplexesValues.j4]))
               ·rw [if_neg c73] at H
                have c73b0 : (!(t122 == 0) || (!(t123 == 0) || (!(t124 == 0)))) = false := by simpa using c73
                clear c73
                have H' := Aside0.mk H
                clear H
                have hnb74 := NB126_106.out
                have hnc74 := NB106_126.out
                have hnb75 := NB126_107.out
                have hnc75 := NB107_126.out
                have hnb76 := NB126_116.out
                have hnc76 := NB116_126.out
                obtain ⟨hcz77_0, hcz77_1, hcz77_2, hfz77_0, hfz77_1, hfz77_2⟩ := cf3 BK126
                go_wp2
                go_meet
                case rel => exact ⟨_, H', ⟨by have := HJ5.out; have := HJ23.out; have := HJ40.out; have := HJ42.out; first | omega | exact Nat.le_refl _⟩, bks BK106, bks BK107, bks BK116, bks BK126, blt HB⟩
              ·rw [if_neg c72] at H
               have c72b0 : (t125 == t127) = false := beq_eq_false_iff_ne.mpr c72
               have c72b1 : (t125 != t127) = true := bne_iff_ne.mpr c72
               exact absurd H (by first | decide | (cases kj42 <;> simp [l10_ComplexesValues.j0, l10_ComplexesValues.j1, l10_ComplexesValues.j2, l10_ComplexesValues.j3, l10_ComplexesValues.j4]))
            case rest =>
             clear HC55
             try clear c1
             try clear c2
             try clear p2
             try clear c3
             try clear c4
             try clear c5
             try clear c6
             try clear c7
             try clear c10
             try clear c11
             try clear c13
             try clear c16
             try clear c18
             try clear c21
             try clear c25
             try clear c29
             try clear c30
             try clear c32
             try clear c32b0
             try clear c32b1
             try clear c33
             try clear c33b0
             try clear c33b1
             try clear c34
             try clear c34b0
             try clear c35
             try clear c36
             try clear c38
             try clear c39
             try clear c42
             try clear c44
             try clear c44b0
             try clear c44b1
             try clear c45
             try clear c45b0
             try clear c45b1
             try clear c49
             try clear c49b0
             try clear c49b1
             try clear c50
             try clear c50b0
             try clear c52
             try clear c56
             try clear c57
             try clear c61
             try clear c62
             try clear c63
             try clear c67
             try clear c67b0
             try clear c67b1
             try clear c68
             try clear c68b0
             try clear c68b1
             try clear c70
             try clear c70b0
             try clear c72
             try clear c72b0
             try clear c72b1
             try clear c73
             try clear c73b0
             try clear c74
             try clear c75
             try clear c76
             try clear hcz14_0
             try clear hcz14_1
             try clear hcz14_2
             try clear hcz14_3
             try clear hcz16_0
             try clear hcz16_1
             try clear hcz16_2
             try clear hcz16_3
             try clear hcz19_0
             try clear hcz19_1
             try clear hcz19_2
             try clear hcz19_3
             try clear hcz26_0
             try clear hcz26_1
             try clear hcz26_2
             try clear hcz26_3
             try clear hcz31_0
             try clear hcz31_1
             try clear hcz31_2
             try clear hcz31_3
             try clear hcz37_0
             try clear hcz37_1
             try clear hcz37_2
             try clear hcz37_3
             try clear hcz40_0
             try clear hcz40_1
             try clear hcz40_2
             try clear hcz40_3
             try clear hcz58_0
             try clear hcz58_1
             try clear hcz58_2
             try clear hcz58_3
             try clear hcz64_0
             try clear hcz64_1
             try clear hcz64_2
             try clear hcz65_0
             try clear hcz65_1
             try clear hcz65_2
             try clear hcz65_3
             try clear hcz77_0
             try clear hcz77_1
             try clear hcz77_2
             try clear hfz14_0
             try clear hfz14_1
             try clear hfz14_2
             try clear hfz14_3
             try clear hfz16_0
             try clear hfz16_1
             try clear hfz16_2
             try clear hfz16_3
             try clear hfz19_0
             try clear hfz19_1
             try clear hfz19_2
             try clear hfz19_3
             try clear hfz26_0
             try clear hfz26_1
             try clear hfz26_2
             try clear hfz26_3
             try clear hfz31_0
             try clear hfz31_1
             try clear hfz31_2
             try clear hfz31_3
             try clear hfz37_0
             try clear hfz37_1
             try clear hfz37_2
             try clear hfz37_3
             try clear hfz40_0
             try clear hfz40_1
             try clear hfz40_2
             try clear hfz40_3
             try clear hfz58_0
             try clear hfz58_1
             try clear hfz58_2
             try clear hfz58_3
             try clear hfz64_0
             try clear hfz64_1
             try clear hfz64_2
             try clear hfz65_0
             try clear hfz65_1
             try clear hfz65_2
             try clear hfz65_3
             try clear hfz77_0
             try clear hfz77_1
             try clear hfz77_2
             try clear p2
             obtain ⟨kq, HA, HJ54, BK106, BK107, BK116, BK126, HB⟩ := hcut
             cases kq with
             | zero => exact absurd HA.out (by simp [l10_ComplexesValues.j4])
             | succ kj54 =>
              have H := HA.out
              clear HA
              simp only [l10_ComplexesValues.j4] at H
              replace H := Option.bind_eq_some_iff.mp H
              obtain ⟨⟨t129, t130⟩, A78, H⟩ := H
              try dsimp only at H
              replace A78 := Aside0.mk A78
              replace H := Option.bind_eq_some_iff.mp H
              obtain ⟨t131, A79, H⟩ := H
              try dsimp only at H
              replace A79 := Aside0.mk A79
              by_cases c80 : t131 = 0
              ·rw [if_pos c80] at H
               have c80b0 : (t131 == 0) = true := beq_iff_eq.mpr c80
               have c80b1 : (t131 != 0) = false := bne_eq_false_iff_eq.mpr c80
               clear c80
               by_cases c81 : t130 = 0
               ·rw [if_pos c81] at H
                have c81b0 : (t130 == 0) = true := beq_iff_eq.mpr c81
                have c81b1 : (t130 != 0) = false := bne_eq_false_iff_eq.mpr c81
                clear c81
                replace H := Option.bind_eq_some_iff.mp H
                obtain ⟨t132, A82, H⟩ := H
                try dsimp only at H
                replace A82 := Aside0.mk A82
                have HR_ := Option.some.inj H
                clear H
                have hnb83 := NB106_107.out
                have hnc83 := NB107_106.out
                have hnb84 := NB106_116.out
                have hnc84 := NB116_106.out
                have hnb85 := NB106_126.out
                have hnc85 := NB126_106.out
                obtain ⟨hcz86_0, hcz86_1, hcz86_2, hcz86_3, hfz86_0, hfz86_1, hfz86_2, hfz86_3⟩ := cf4 BK106
                have hnb87 := NB107_116.out
                have hnc87 := NB116_107.out
                have hnb88 := NB107_126.out
                have hnc88 := NB126_107.out
                obtain ⟨hcz89_0, hcz89_1, hcz89_2, hcz89_3, hfz89_0, hfz89_1, hfz89_2, hfz89_3⟩ := cf4 BK107
                go_wp2_with (first | ((with_reducible refine gate_callee (f := 45) rfl ?_); refine gL 115 Tryz.func45 #[.agg #[.int .i64 a1_0, .int .u64 a1_1, .int .u64 a1_2, .string a1_3], .agg #[.int .i64 a2_0, .int .u64 a2_1, .int .u64 a2_2, .string a2_3]] ?_; (with_reducible refine (cx_Same.calls a1_0 a1_1 a1_2 a1_3 a2_0 a2_1 a2_2 a2_3 t129 t130 _ A78.out).mono ?_); rintro e w90 ⟨rfl, hb⟩; refine ⟨_, rfl, ?_⟩; replace BK106 := bkb BK106 hb; replace BK107 := bkb BK107 hb; replace BK116 := bkb BK116 hb; replace BK126 := bkb BK126 hb; replace HB := bls HB hb; clear hb; obtain ⟨hcz91_0, hcz91_1, hcz91_2, hcz91_3, hfz91_0, hfz91_1, hfz91_2, hfz91_3⟩ := cf4 BK106; have hcz92_0 : w90.cell? ⟨gb107, 0, none⟩ = some (.int .i64 a2_0) := (blk_cell BK107.out 0).trans rfl; have hcz92_1 : w90.cell? ⟨gb107, 1, none⟩ = some (.int .u64 a2_1) := (blk_cell BK107.out 1).trans rfl; have hcz92_2 : w90.cell? ⟨gb107, 2, none⟩ = some (.int .u64 a2_2) := (blk_cell BK107.out 2).trans rfl; have hcz92_3 : w90.cell? ⟨gb107, 3, none⟩ = some (.string a2_3) := (blk_cell BK107.out 3).trans rfl; have hfz92_0 := blk_frozen BK107.out 0; have hfz92_1 := blk_frozen BK107.out 1; have hfz92_2 := blk_frozen BK107.out 2; have hfz92_3 := blk_frozen BK107.out 3) | ((with_reducible refine gate_callee (f := 13) rfl ?_); refine gL 120 Tryz.func13 #[.agg #[.int .i64 a1_0, .int .u64 a1_1, .int .u64 a1_2, .string a1_3], .agg #[.int .i64 a2_0, .int .u64 a2_1, .int .u64 a2_2, .string a2_3]] ?_; (with_reducible refine (r10_TwoErr.calls a1_0 a1_1 a1_2 a1_3 a2_0 a2_1 a2_2 a2_3 t131 _ A79.out).mono ?_); rintro e w93 ⟨rfl, hb⟩; refine ⟨_, rfl, ?_⟩; replace BK106 := bkb BK106 hb; replace BK107 := bkb BK107 hb; replace BK116 := bkb BK116 hb; replace BK126 := bkb BK126 hb; replace HB := bls HB hb; clear hb; obtain ⟨hcz94_0, hcz94_1, hcz94_2, hcz94_3, hfz94_0, hfz94_1, hfz94_2, hfz94_3⟩ := cf4 BK106; have hcz95_0 : w93.cell? ⟨gb107, 0, none⟩ = some (.int .i64 a2_0) := (blk_cell BK107.out 0).trans rfl; have hcz95_1 : w93.cell? ⟨gb107, 1, none⟩ = some (.int .u64 a2_1) := (blk_cell BK107.out 1).trans rfl; have hcz95_2 : w93.cell? ⟨gb107, 2, none⟩ = some (.int .u64 a2_2) := (blk_cell BK107.out 2).trans rfl; have hcz95_3 : w93.cell? ⟨gb107, 3, none⟩ = some (.string a2_3) := (blk_cell BK107.out 3).trans rfl; have hfz95_0 := blk_frozen BK107.out 0; have hfz95_1 := blk_frozen BK107.out 1; have hfz95_2 := blk_frozen BK107.out 2; have hfz95_3 := blk_frozen BK107.out 3) | (go_at_call 46; (with_reducible refine (r10_Same.calls a1_0 a1_1 a1_2 a1_3 a2_0 a2_1 a2_2 a2_3 t132 _ A82.out).mono ?_); rintro e w96 ⟨rfl, hb⟩; replace BK106 := bkb BK106 hb; replace BK107 := bkb BK107 hb; replace BK116 := bkb BK116 hb; replace BK126 := bkb BK126 hb; replace HB := bls HB hb; clear hb))
                go_ret
                exact ⟨by first | rfl | (rw [HR_]; done) | (simp only [HR_]; done) | (simp [errW_none, errW_some] <;> rfl) | (simp [*, errW_none, errW_some] <;> rfl), (blt HB).out⟩
               ·rw [if_neg c81] at H
                have c81b0 : (t130 == 0) = false := beq_eq_false_iff_ne.mpr c81
                have c81b1 : (t130 != 0) = true := bne_iff_ne.mpr c81
                exact absurd H (by first | decide | (cases kj54 <;> simp [l10_ComplexesValues.j0, l10_ComplexesValues.j1, l10_ComplexesValues.j2, l10_ComplexesValues.j3, l10_ComplexesValues.j4]))
              ·rw [if_neg c80] at H
               have c80b0 : (t131 == 0) = false := beq_eq_false_iff_ne.mpr c80
               have c80b1 : (t131 != 0) = true := bne_iff_ne.mpr c80
               by_cases c97 : t130 = t131
               ·rw [if_pos c97] at H
                have c97b0 : (t130 == t131) = true := beq_iff_eq.mpr c97
                have c97b1 : (t130 != t131) = false := bne_eq_false_iff_eq.mpr c97
                clear c97
                have HR_ := Option.some.inj H
                clear H
                have hnb98 := NB106_107.out
                have hnc98 := NB107_106.out
                have hnb99 := NB106_116.out
                have hnc99 := NB116_106.out
                have hnb100 := NB106_126.out
                have hnc100 := NB126_106.out
                obtain ⟨hcz101_0, hcz101_1, hcz101_2, hcz101_3, hfz101_0, hfz101_1, hfz101_2, hfz101_3⟩ := cf4 BK106
                have hnb102 := NB107_116.out
                have hnc102 := NB116_107.out
                have hnb103 := NB107_126.out
                have hnc103 := NB126_107.out
                obtain ⟨hcz104_0, hcz104_1, hcz104_2, hcz104_3, hfz104_0, hfz104_1, hfz104_2, hfz104_3⟩ := cf4 BK107
                go_wp2_with (first | ((with_reducible refine gate_callee (f := 45) rfl ?_); refine gL 115 Tryz.func45 #[.agg #[.int .i64 a1_0, .int .u64 a1_1, .int .u64 a1_2, .string a1_3], .agg #[.int .i64 a2_0, .int .u64 a2_1, .int .u64 a2_2, .string a2_3]] ?_; (with_reducible refine (cx_Same.calls a1_0 a1_1 a1_2 a1_3 a2_0 a2_1 a2_2 a2_3 t129 t130 _ A78.out).mono ?_); rintro e w105 ⟨rfl, hb⟩; refine ⟨_, rfl, ?_⟩; replace BK106 := bkb BK106 hb; replace BK107 := bkb BK107 hb; replace BK116 := bkb BK116 hb; replace BK126 := bkb BK126 hb; replace HB := bls HB hb; clear hb; obtain ⟨hcz106_0, hcz106_1, hcz106_2, hcz106_3, hfz106_0, hfz106_1, hfz106_2, hfz106_3⟩ := cf4 BK106; have hcz107_0 : w105.cell? ⟨gb107, 0, none⟩ = some (.int .i64 a2_0) := (blk_cell BK107.out 0).trans rfl; have hcz107_1 : w105.cell? ⟨gb107, 1, none⟩ = some (.int .u64 a2_1) := (blk_cell BK107.out 1).trans rfl; have hcz107_2 : w105.cell? ⟨gb107, 2, none⟩ = some (.int .u64 a2_2) := (blk_cell BK107.out 2).trans rfl; have hcz107_3 : w105.cell? ⟨gb107, 3, none⟩ = some (.string a2_3) := (blk_cell BK107.out 3).trans rfl; have hfz107_0 := blk_frozen BK107.out 0; have hfz107_1 := blk_frozen BK107.out 1; have hfz107_2 := blk_frozen BK107.out 2; have hfz107_3 := blk_frozen BK107.out 3) | ((with_reducible refine gate_callee (f := 13) rfl ?_); refine gL 120 Tryz.func13 #[.agg #[.int .i64 a1_0, .int .u64 a1_1, .int .u64 a1_2, .string a1_3], .agg #[.int .i64 a2_0, .int .u64 a2_1, .int .u64 a2_2, .string a2_3]] ?_; (with_reducible refine (r10_TwoErr.calls a1_0 a1_1 a1_2 a1_3 a2_0 a2_1 a2_2 a2_3 t131 _ A79.out).mono ?_); rintro e w108 ⟨rfl, hb⟩; refine ⟨_, rfl, ?_⟩; replace BK106 := bkb BK106 hb; replace BK107 := bkb BK107 hb; replace BK116 := bkb BK116 hb; replace BK126 := bkb BK126 hb; replace HB := bls HB hb; clear hb))
                go_ret
                exact ⟨by first | rfl | (rw [HR_]; done) | (simp only [HR_]; done) | (simp [errW_none, errW_some] <;> rfl) | (simp [*, errW_none, errW_some] <;> rfl), (blt HB).out⟩
               ·rw [if_neg c97] at H
                have c97b0 : (t130 == t131) = false := beq_eq_false_iff_ne.mpr c97
                have c97b1 : (t130 != t131) = true := bne_iff_ne.mpr c97
                exact absurd H (by first | decide | (cases kj54 <;> simp [l10_ComplexesValues.j0, l10_ComplexesValues.j1, l10_ComplexesValues.j2, l10_ComplexesValues.j3, l10_ComplexesValues.j4]))
 ·replace c5 := Bool.eq_false_iff.mpr c5
  subst c5
  have H1 : (some false) = some true := by first | (rw [if_neg (show ¬ (false = true) by decide)] at H; exact H) | rfl
  clear H
  have H := H1
  clear H1
  exact absurd H (by first | decide | (cases k <;> simp [l10_ComplexesValues.j0, l10_ComplexesValues.j1, l10_ComplexesValues.j2, l10_ComplexesValues.j3, l10_ComplexesValues.j4]))
end Go.Proofs.YtmoimcblmmcffaaGreat.PLV

namespace Go.Proofs.YtmoimcblmmcffaaGreat.B
open Go.RowKit NC N PPC PRA PLV Go.Proofs.YtmoimcblmmcffaaGreatW.PrintWords
set_option linter.unusedSimpArgs false
set_option linter.unusedVariables false
theorem le_add {α : Type} {f : Nat → Option α} (h : ∀ k, LeO (f k) (f (k + 1))) (n : Nat) : ∀ k, LeO (f n) (f (n + k))
 | 0 => LeO.refl _
 | k + 1 => (le_add h n k).trans (h (n + k))
theorem two_ok {t a b t' a' b' : Int} {S S' : ByteArray} (ha : U64 a) (hb : U64 b) (ha' : U64 a') (hb' : U64 b') (hv : twoV t a b S t' a' b' S' = 0) :
  ∃ s x1 x2 y1 y2, t = ct s ∧ t' = ct s ∧ a = ((x1 : Nat) : Int) ∧ b = ((x2 : Nat) : Int) ∧ a' = ((y1 : Nat) : Int) ∧ b' = ((y2 : Nat) : Int) ∧ x1 < 2 * signN s ∧ x2 < 2 * signN s ∧ y1 < 2 * signN s ∧ y2 < 2 * signN s ∧ bothV t a b S t' a' b' S' = (tv s, a, b, a', b', 0) := by
 have hv2 := hv
 unfold twoV at hv2
 have e1 : openErrV t a b S = 0 := by
  by_cases h : openErrV t a b S = 0
  ·exact h
  ·rw [if_neg h] at hv2; exact absurd hv2 h
 rw [if_pos e1] at hv2
 have e2 : openErrV t' a' b' S' = 0 := by
  by_cases h : openErrV t' a' b' S' = 0
  ·exact h
  ·rw [if_neg h] at hv2; exact absurd hv2 h
 rw [if_pos e2] at hv2
 obtain rfl : t = t' := by
  by_cases h : t = t'
  ·exact h
  ·rw [if_neg h] at hv2; exact absurd hv2 (by decide)
 have hbv : bothV t a b S t a' b' S' = (cpart t, a, b, a', b', 0) := by unfold bothV; rw [if_pos e1, if_pos e2, if_pos rfl]
 obtain ⟨s, x1, x2, rfl, rfl, rfl, hx1, hx2⟩ := open_ok ha hb e1
 obtain ⟨s', y1, y2, hs', rfl, rfl, hy1, hy2⟩ := open_ok ha' hb' e2
 obtain rfl : s = s' := by cases s <;> cases s' <;> first | rfl | (exact absurd hs' (by decide))
 rw [cpart_ct] at hbv
 exact ⟨s, x1, x2, y1, y2, rfl, rfl, rfl, rfl, rfl, rfl, hx1, hx2, hy1, hy2, hbv⟩
section
variable {t ta a b tb a' b' : Int} {S S' : ByteArray} (ha : U64 a) (hb : U64 b) (ha' : U64 a') (hb' : U64 b')
include ha hb ha' hb'
theorem both_f : cx_both.f ta a b S tb a' b' S' = some (bothV ta a b S tb a' b' S') := by
 have hu : ∀ z : Int, U64 z → u64B z = true := fun z hz => by unfold u64B; rw [decide_eq_true hz.1, decide_eq_true hz.2]; rfl
 unfold cx_both.f
 rw [hu a ha, hu b hb, hu a' ha', hu b' hb', if_pos (by decide)]
theorem values_4 (k : Nat) : l10_ComplexesValues.j4 (k + 1) ta a b S tb a' b' S' = some true := by
 simp only [l10_ComplexesValues.j4]
 rw [twoErr_f S S' ha hb ha' hb']
 by_cases hv : twoV ta a b S tb a' b' S' = 0
 ·obtain ⟨s, x1, x2, y1, y2, rfl, rfl, rfl, rfl, rfl, rfl, hx1, hx2, hy1, hy2, hbv⟩ := two_ok ha hb ha' hb' hv
  have hs : cx_Same.f (ct s) (x1 : Int) (x2 : Int) S (ct s) (y1 : Int) (y2 : Int) S' = some (decide (cmpR s x1 y1 = 0) && decide (cmpR s x2 y2 = 0), 0) := by
   unfold cx_Same.f
   rw [both_f ha hb ha' hb', hbv, Option.bind_some]
   dsimp only
   rw [if_pos rfl, forder hx1 hy1, Option.bind_some]
   by_cases h : cmpR s x1 y1 = 0
   ·rw [if_pos h, forder hx2 hy2, Option.bind_some, decide_eq_true h, Bool.true_and]; rfl
   ·rw [if_neg h, decide_eq_false h, Bool.false_and]
  have hr : r10_Same.f (ct s) (x1 : Int) (x2 : Int) S (ct s) (y1 : Int) (y2 : Int) S' = some (decide (cmpR s x1 y1 = 0) && decide (cmpR s x2 y2 = 0)) := by
   unfold r10_Same.f
   rw [rpart, Option.bind_some, rcmp hx1 hy1, Option.bind_some]
   by_cases h : cmpR s x1 y1 = 0
   ·rw [if_pos h, rcmp hx2 hy2, Option.bind_some, decide_eq_true h, Bool.true_and]; rfl
   ·rw [if_neg h, decide_eq_false h, Bool.false_and]
  rw [hs, hr, hv]
  simp
 ·have he := both_err (t := ta) (a := a) (b := b) (t' := tb) (a' := a') (b' := b') (S := S) (S' := S')
  have hs : cx_Same.f ta a b S tb a' b' S' = some (false, twoV ta a b S tb a' b' S') := by
   unfold cx_Same.f
   rw [both_f ha hb ha' hb', Option.bind_some]
   try dsimp only
   rw [he, if_neg hv]
  rw [hs, Option.bind_some, Option.bind_some, if_neg hv, if_pos rfl]
  rfl
theorem values_3 (k : Nat) : l10_ComplexesValues.j3 (k + 2) false ta a b S tb a' b' S' = some true := by
 simp only [l10_ComplexesValues.j3]
 rw [if_neg (by decide), partsOf_f ha hb, Option.bind_some, valueErr_f S ha hb, Option.bind_some, values_4 ha hb ha' hb' k]
 by_cases hv : openErrV ta a b S = 0
 ·obtain ⟨s, x1, x2, rfl, rfl, rfl, hx1, hx2⟩ := open_ok ha hb hv
  rw [if_pos hv]
  try dsimp only
  rw [if_pos hv, if_pos rfl, rpart, cpart_ct, Option.bind_some, if_neg (by simp)]
 ·rw [if_neg hv]
  try dsimp only
  rw [if_neg hv, if_pos rfl, if_neg (by simp)]
theorem values_0 (k : Nat) : l10_ComplexesValues.j0 (k + 9) t false ta a b S tb a' b' S' = some true := by
 have hm : cx_Made.f (k + 8) t a b = some (if madeErrV t a b = 0 then (t, a, b, (⟨#[]⟩ : ByteArray), 0) else (0, 0, 0, (⟨#[]⟩ : ByteArray), madeErrV t a b)) := by
  rw [show k + 8 = 3 + (k + 5) from by omega]
  exact le_add (f := fun k => cx_Made.f k t a b) (fun k => cx_Made.mono _ _ _ k) 3 (k + 5) _ (made_f ha hb)
 have h3 := values_3 (ta := ta) (tb := tb) (S := S) (S' := S') ha hb ha' hb'
 simp only [l10_ComplexesValues.j0]
 rw [if_neg (by decide), hm, Option.bind_some]
 unfold madeErrV ctypeErrV r10_TypeErr.f
 by_cases c3 : t = 3
 ·subst c3
  rw [if_pos rfl, if_pos rfl, Option.bind_some, if_pos rfl, if_pos rfl]
  have hc : cpart 3 = 1 := rfl
  rw [hc]
  by_cases g1 : a ≥ 4294967296
  ·have hbe : bitsErrV 1 [a, b] = 2 := by unfold bitsErrV; rw [if_pos]; simp; omega
   rw [if_pos rfl, if_pos g1, hbe]
   simp only [l10_ComplexesValues.j1, l10_ComplexesValues.j2]
   simpa using h3 (k + 4)
  ·rw [if_pos rfl, if_neg g1]
   by_cases g2 : b ≥ 4294967296
   ·have hbe : bitsErrV 1 [a, b] = 2 := by unfold bitsErrV; rw [if_pos]; simp; omega
    rw [decide_eq_true g2, hbe]
    simp only [l10_ComplexesValues.j1, l10_ComplexesValues.j2]
    simpa using h3 (k + 4)
   ·have hbe : bitsErrV 1 [a, b] = 0 := by unfold bitsErrV; rw [if_neg]; simp; omega
    rw [decide_eq_false g2, hbe]
    simp only [l10_ComplexesValues.j1, l10_ComplexesValues.j2, r10_Made.f]
    simpa using h3 (k + 4)
 ·by_cases c4 : t = 4
  ·subst c4
   have hbe : bitsErrV (cpart 4) [a, b] = 0 := by unfold bitsErrV; rw [if_neg (fun h => absurd h.1 (show ¬ ((2 : Int) = 1) by decide))]
   rw [if_neg c3, if_pos rfl, if_neg c3, if_pos rfl, Option.bind_some, if_pos rfl, if_neg c3, if_pos rfl, hbe]
   simp only [l10_ComplexesValues.j1, l10_ComplexesValues.j2, r10_Made.f]
   simpa using h3 (k + 4)
  ·rw [if_neg c3, if_neg c4, if_neg c3, if_neg c4, Option.bind_some]
   simp only [show ((27 : Int) = 0) = False from by simp, if_false, l10_ComplexesValues.j1, l10_ComplexesValues.j2]
   simpa using h3 (k + 4)
theorem values_f : l10_ComplexesValues.f 20 t ta a b S tb a' b' S' = some true := by
 have hA := values_0 (t := t) (ta := ta) (tb := tb) (S := S) (S' := S') ha hb ha' hb' 11
 have hB : l10_ComplexesValues.j0 20 t true ta a b S tb a' b' S' = some true := by simp only [l10_ComplexesValues.j0, if_true]
 unfold l10_ComplexesValues.f
 rw [show l10_awake.f = some true from rfl, Option.bind_some, if_pos rfl, show l10_brief.f ta a b S = some (decide ((S.size : Int) ≤ 60)) from rfl, Option.bind_some]
 by_cases h1 : (S.size : Int) ≤ 60
 ·rw [decide_eq_true h1, if_pos rfl, show l10_brief.f tb a' b' S' = some (decide ((S'.size : Int) ≤ 60)) from rfl, Option.bind_some]
  by_cases h2 : (S'.size : Int) ≤ 60
  ·rw [decide_eq_true h2]; exact hA
  ·rw [decide_eq_false h2]; exact hB
 ·rw [decide_eq_false h1, if_neg (by decide)]; exact hB
theorem law_values (w : World) : Calls Tryz.prog 8 #[.int .i64 t, .agg #[.int .i64 ta, .int .u64 a, .int .u64 b, .string S], .agg #[.int .i64 tb, .int .u64 a', .int .u64 b', .string S']] w (Ret (.bool true) w) :=
 l10_ComplexesValues.calls 20 t ta a b S tb a' b' S' w (values_f ha hb ha' hb')
end
theorem law_val (t ta a b : Int) (S : ByteArray) (tb a' b' : Int) (S' : ByteArray) (w : World) (ha : U64 a) (hb : U64 b) (ha' : U64 a') (hb' : U64 b') :
  Calls Tryz.prog 8 #[.int .i64 t, .agg #[.int .i64 ta, .int .u64 a, .int .u64 b, .string S], .agg #[.int .i64 tb, .int .u64 a', .int .u64 b', .string S']] w (Ret (.bool true) w) := law_values ha hb ha' hb' w
end Go.Proofs.YtmoimcblmmcffaaGreat.B

namespace Go.Proofs.YtmoimcblmmcffaaGreat.Law
open Go.ChangeShapes Go.WideShapes Go.ChangeAt Go.RowKit
open Go.ChangeMaps (open_string shut_string)
set_option linter.unusedVariables false
theorem own : ownKnob Tryz.prog.godebug = none := by kernel_rfl
theorem u64_wf {a : Int} (h : (Lit.int .u64 a).wf = true) : 0 ≤ a ∧ a ≤ 18446744073709551615 := by
 have h' : (decide (0 ≤ a) && decide (a ≤ 18446744073709551615)) = true := h
 simpa using h'
theorem value_cells : Tryz.prog.cellsOf 24 = 4 := by kernel_rfl
set_option maxRecDepth 100000 in
theorem complexesValues_lifted (os : Os) (started : os.Started) (H : Type) (enc : TypeId × Value → H) :
  ReturnsInHanded {} Tryz.checked os 8 .any (Rows.complexesValuesSpec.pre6 enc Tryz.prog Tryz.f8 Rows.complexesValuesRow.domain false) (Rows.complexesValuesSpec.post enc Tryz.prog Tryz.f8 false true false false) := by
 refine returnsInHanded_of_change_sized (C := Tryz.checked) own started (by kernel_rfl) Tryz.func8
  (ChangeSpec.witness6 (enc := enc) (C := Tryz.checked) false ⟨#[], #[.int .i64 0, .agg #[.int .i64 0, .int .u64 0, .int .u64 0, .string ByteArray.empty], .agg #[.int .i64 0, .int .u64 0, .int .u64 0, .string ByteArray.empty]], []⟩ 8 (by kernel_rfl) (by kernel_rfl) (by kernel_rfl) (by kernel_rfl)) ?_
 intro W base args ds gs before hval0 hW hcnd hsz0 _
 have hval : ∀ (j : Nat) t v, Tryz.f8.params[j]? = some t → args[j]? = some v → Value.okWide Tryz.prog W .any base t v := hval0
 have hW' := hW
 obtain ⟨p, q, hA0, hV, rfl, hfz, hnd⟩ := hW
 have hA : DataW.TrodAll enc Tryz.prog W 0 (fun _ => true) true Tryz.f8.params.toList args.toList ds p := hA0
 rw [Tryz.params8] at hA hval
 obtain ⟨v0, vs0, d0, ds0, p0, q0, hargs, rfl, rfl, h0, r0⟩ := trodAll_cons hA
 obtain ⟨v1, vs1, d1, ds1, p1, q1, rfl, rfl, rfl, h1, r1⟩ := trodAll_cons r0
 obtain ⟨v2, vs2, d2, ds2, p2, q2, rfl, rfl, rfl, h2, r2⟩ := trodAll_cons r1
 obtain ⟨rfl, rfl, rfl⟩ := trodAll_nil r2
 obtain rfl : args = #[v0, v1, v2] := by cases args; simp_all
 obtain ⟨rfl, rfl⟩ := trodVars_none hV
 obtain ⟨z0, rfl, rfl, rfl, w0⟩ := open_int Tryz.underlying3 (hval 0 3 v0 rfl rfl) h0
 obtain ⟨c10, c11, c12, c13, y10, y11, y12, y13, m1, rfl, rfl, rfl, g10, g11, g12, g13⟩ := Joins.open_agg4 Tryz.underlying24 (by kernel_rfl) value_cells (hval 1 24 v1 rfl rfl) h1
 obtain ⟨t1, e10, rfl, u10⟩ := DataW.trod_int Tryz.underlying3 g10
 obtain ⟨a1, e11, rfl, u11⟩ := DataW.trod_int Tryz.underlying22 g11
 obtain ⟨b1, e12, rfl, u12⟩ := DataW.trod_int Tryz.underlying22 g12
 obtain ⟨s1, e13, rfl, u13⟩ := DataW.trod_string Tryz.underlying9 g13
 simp at e10 e11 e12 e13
 subst e10 e11 e12 e13
 have reads1 : ∀ (W' : World) (sp : Nat → Bool), DataW.Trod enc Tryz.prog W' 0 sp true 24 (.agg #[.int .i64 t1, .int .u64 a1, .int .u64 b1, .string s1]) (.agg [.lit (.int .i64 t1), .lit (.int .u64 a1), .lit (.int .u64 b1), .lit (.string s1.data.toList)]) [] := fun W' sp =>
  Joins.shut_agg4 (y0 := (.lit (.int .i64 t1), [])) (y1 := (.lit (.int .u64 a1), [])) (y2 := (.lit (.int .u64 b1), [])) (y3 := (.lit (.string s1.data.toList), [])) Tryz.underlying24 (by kernel_rfl) value_cells ⟨1, by simp [DataW.trod, Tryz.underlying3, u10]⟩ ⟨1, by simp [DataW.trod, Tryz.underlying22, u11]⟩ ⟨1, by simp [DataW.trod, Tryz.underlying22, u12]⟩ ⟨1, by simp [DataW.trod, Tryz.underlying9, u13]⟩
 obtain ⟨c20, c21, c22, c23, y20, y21, y22, y23, m2, rfl, rfl, rfl, g20, g21, g22, g23⟩ := Joins.open_agg4 Tryz.underlying24 (by kernel_rfl) value_cells (hval 2 24 v2 rfl rfl) h2
 obtain ⟨t2, e20, rfl, u20⟩ := DataW.trod_int Tryz.underlying3 g20
 obtain ⟨a2, e21, rfl, u21⟩ := DataW.trod_int Tryz.underlying22 g21
 obtain ⟨b2, e22, rfl, u22⟩ := DataW.trod_int Tryz.underlying22 g22
 obtain ⟨s2, e23, rfl, u23⟩ := DataW.trod_string Tryz.underlying9 g23
 simp at e20 e21 e22 e23
 subst e20 e21 e22 e23
 have reads2 : ∀ (W' : World) (sp : Nat → Bool), DataW.Trod enc Tryz.prog W' 0 sp true 24 (.agg #[.int .i64 t2, .int .u64 a2, .int .u64 b2, .string s2]) (.agg [.lit (.int .i64 t2), .lit (.int .u64 a2), .lit (.int .u64 b2), .lit (.string s2.data.toList)]) [] := fun W' sp =>
  Joins.shut_agg4 (y0 := (.lit (.int .i64 t2), [])) (y1 := (.lit (.int .u64 a2), [])) (y2 := (.lit (.int .u64 b2), [])) (y3 := (.lit (.string s2.data.toList), [])) Tryz.underlying24 (by kernel_rfl) value_cells ⟨1, by simp [DataW.trod, Tryz.underlying3, u20]⟩ ⟨1, by simp [DataW.trod, Tryz.underlying22, u21]⟩ ⟨1, by simp [DataW.trod, Tryz.underlying22, u22]⟩ ⟨1, by simp [DataW.trod, Tryz.underlying9, u23]⟩
 clear hA0 hval0 hsz0
 simp only [List.append_nil] at hW'
 refine (B.law_val z0 t1 a1 b1 s1 t2 a2 b2 s2 W (u64_wf u11) (u64_wf u12) (u64_wf u21) (u64_wf u22)).mono fun e W' ⟨he, bel⟩ => ?_
 subst he
 exact ⟨_, rfl, _, _, _, [], [], [], hW', trodAll_mk1 (shut_bool Tryz.underlying4 _), (trodAll_cons_mk (shut_int Tryz.underlying3 w0) (trodAll_cons_mk (reads1 _ _) (trodAll_cons_mk (reads2 _ _) trodAll_mk0))), rfl, bel.frame _, fun h => by cases h⟩
theorem complexesValues_over : Rows.complexesValuesRow.holds Tryz.pinned (OpenSpec.ofChange Rows.complexesValuesSpec) :=
 OpenClaim.holds_of_wide 8 Tryz.f8 rfl rfl rfl rfl rfl rfl rfl ⟨rfl, rfl, rfl, rfl, rfl⟩ rfl rfl rfl rfl rfl (by kernel_rfl) Tryz.func8 (by kernel_rfl)
  (of_decide_eq_true (by kernel_rfl)) (by unfold Func.isWrapper; first | (rw [if_pos (by decide +kernel)]; kernel_rfl) | (rw [if_neg (by decide +kernel)]; exact ⟨rfl, rfl⟩))
  (fun os started H enc _ => complexesValues_lifted os started H enc)
theorem complexesValues_holds : Rows.ComplexesValuesSaid := complexesValues_over
end Go.Proofs.YtmoimcblmmcffaaGreat.Law
