/- Contracts and plain laws that the law ComplexesReal leans on (texts joined by program; what it does not come to is left out). -/
import Derived.Test.YtmoimcblmmcffaaGreatQComplexesRealB
import Derived.Test.YtmoimcblmmcffaaGreatQComplexesRealK

namespace Go.Proofs.YtmoimcblmmcffaaGreat.PLR
open Go.RowKit Go.Proofs.YtmoimcblmmcffaaGreat.PPC Go.Proofs.YtmoimcblmmcffaaGreat.PRA Go.Proofs.YtmoimcblmmcffaaGreat.PN Go.Proofs.YtmoimcblmmcffaaGreatW.PrintWords Go.Proofs.YtmoimcblmmcffaaGreatW.PrintLast Go.Proofs.YtmoimcblmmcffaaGreatW.PrintMore Go.Proofs.YtmoimcblmmcffaaGreatW.PrintZ
attribute [local go_sem] max2_int min2_int max_two min_two max_three min_three max_four min_four   -- for this text's walks alone
attribute [local go_sem high] Go.Proofs.YtmoimcblmmcffaaGreat.NC.fld0
set_option linter.unusedVariables false
set_option linter.unusedSimpArgs false
attribute [local go_sem high] eqA24

mutual
def l10_ComplexesReal.j0 : Nat → Int → Bool → Int → Int → Int → ByteArray → Int → Int → Int → ByteArray → Option (Bool)
 | 0, _, _, _, _, _, _, _, _, _, _ => none
 | k + 1, x5, x46, x108000, x108001, x108002, x108003, x109000, x109001, x109002, x109003 => if x46 = true then (some true) else (l10_ComplexesReal.l0 k x5 (([0, 1, 2] : List Int)) (([0, 1, 2] : List Int)) 0 x108000 x108001 x108002 x108003 x109000 x109001 x109002 x109003)
def l10_ComplexesReal.l0 : Nat → Int → List Int → List Int → Int → Int → Int → Int → ByteArray → Int → Int → Int → ByteArray → Option (Bool)
 | 0, _, _, _, _, _, _, _, _, _, _, _, _ => none
 | k + 1, x5, x6, x7, x8, x108000, x108001, x108002, x108003, x109000, x109001, x109002, x109003 => if x8 < 3 then (if 0 ≤ x8 then (if x8 < (x6.length : Int) then ((r10_Made.f x108000 x108001 0).bind fun bt122 => ((r10_Made.f x108000 x109001 0).bind fun bt126 => ((cx_Apply.f (rd x6 x8) bt122.1 bt122.2.1 bt122.2.2.1 bt122.2.2.2 bt126.1 bt126.2.1 bt126.2.2.1 bt126.2.2.2).bind fun bt130 => (if bt130.2.2.2.2 = 0 then (if x8 < (x7.length : Int) then ((r8_Apply.f (rd x7 x8) x5 x108001 x109001).bind fun t137 => ((l10_equal.f x5 bt130.2.1 t137).bind fun t138 => (if t138 = true then (if bt130.1 = x108000 then ((r8_Parts.f x5 bt130.2.2.1).bind fun bt139 => (if bt139.1 = 0 then (l10_ComplexesReal.l0 k x5 x6 x7 (wrap64 (x8 + 1)) x108000 x108001 x108002 x108003 x109000 x109001 x109002 x109003) else (some false))) else (some false)) else (some false)))) else (none)) else (some false))))) else (none)) else (none)) else ((cx_PowerOf.f k x108000 x108001 x108002 x108003 0).bind fun bt143 => ((cx_PowerOf.f k x108000 x108001 x108002 x108003 1).bind fun bt149 => ((cx_PowerOf.f k x108000 x108001 x108002 x108003 2).bind fun bt155 => ((cx_Apply.f 2 x108000 x108001 x108002 x108003 x108000 x108001 x108002 x108003).bind fun bt161 => (if bt143.2.2.2.2 = 0 then ((r8_FromInteger.f x5 1).bind fun t167 => ((r10_Made.f x108000 t167 0).bind fun bt168 => (if (bt143.1 == bt168.1 && (bt143.2.1 == bt168.2.1 && (bt143.2.2.1 == bt168.2.2.1 && (bt143.2.2.2.1.toList == bt168.2.2.2.toList)))) = true then (if bt149.2.2.2.2 = 0 then ((l10_near.f bt149.1 bt149.2.1 bt149.2.2.1 bt149.2.2.2.1 x108000 x108001 x108002 x108003).bind fun t172 => (if t172 = true then (if bt155.2.2.2.2 = 0 then (if bt161.2.2.2.2 = 0 then ((l10_near.f bt155.1 bt155.2.1 bt155.2.2.1 bt155.2.2.2.1 bt161.1 bt161.2.1 bt161.2.2.1 bt161.2.2.2.1).bind fun t173 => (some t173)) else (some false)) else (some false)) else (some false))) else (some false)) else (some false)))) else (some false))))))
end
def l10_ComplexesReal.f (k : Nat) (a0_0 : Int) (a0_1 : Int) (a0_2 : Int) (a0_3 : ByteArray) (a1_0 : Int) (a1_1 : Int) (a1_2 : Int) (a1_3 : ByteArray) : Option (Bool) := (l10_awake.f).bind fun t109 => (if t109 = true then ((r10_TwoErr.f a0_0 a0_1 a0_2 a0_3 a1_0 a1_1 a1_2 a1_3).bind fun t110 => (if t110 = 0 then ((r10_PartType.f a0_0).bind fun t111 => ((r8_IsNumber.f t111 a0_1).bind fun t112 => (if t112 = true then ((r8_IsNumber.f t111 a0_2).bind fun t113 => (if t113 = true then ((r8_IsNumber.f t111 a1_1).bind fun t114 => (l10_ComplexesReal.j0 k t111 (!t114) a0_0 a0_1 a0_2 a0_3 a1_0 a1_1 a1_2 a1_3)) else (l10_ComplexesReal.j0 k t111 true a0_0 a0_1 a0_2 a0_3 a1_0 a1_1 a1_2 a1_3))) else (l10_ComplexesReal.j0 k t111 true a0_0 a0_1 a0_2 a0_3 a1_0 a1_1 a1_2 a1_3)))) else (some true))) else (some false))
def l10_ComplexesReal.T13 : Bool × List (List Nat × List Nat) := (true, [([], []), ([], []), ([0, 1], [0, 1]), ([2], [2]), ([], []), ([4], [4]), ([], []), ([6], [6]), ([5, 7], [5, 7]), ([], []), ([9], [9]), ([], []), ([11], [11]), ([10, 12, 8], [10, 12]), ([3, 8, 13, 13], [3, 8, 13]), ([14], [14]), ([15], [15]), ([15], [15]), ([], []), ([18, 16, 14, 0, 1, 2, 3, 4, 5, 6, 7, 8, 9, 10, 11, 12, 13, 14, 15, 16, 18], [16, 18]), ([17, 19, 0, 1, 2, 3, 4, 5, 6, 7, 8, 9, 10, 11, 12, 13, 14, 15, 16, 17, 18, 19], [17])])
def l10_ComplexesReal.B13 : List Nat := [0, 0, 3, 7, 0, 16, 0, 64, 240, 0, 512, 0, 2048, 8176, 16383, 32767, 65535, 65535, 0, 393215, 1048575]
theorem l10_ComplexesReal.tab13 : rtab .any (opsOf Tryz.f4 13) = l10_ComplexesReal.T13 := by kernel_rfl
theorem l10_ComplexesReal.bits13 : waitsOk l10_ComplexesReal.T13.2 l10_ComplexesReal.B13 = true := by kernel_rfl
def l10_ComplexesReal.T14 : Bool × List (List Nat × List Nat) := (true, [([], []), ([0], [0]), ([1], [1]), ([2], [2]), ([2], [2]), ([4, 2], [2, 4]), ([2], [2]), ([2], [2]), ([6, 7, 2], [2, 6, 7]), ([8, 2], [2, 8]), ([2], [2]), ([2], [2]), ([11, 2], [2, 11]), ([2], [2]), ([13, 2], [2, 13]), ([9, 10, 12, 14, 2, 2], [2, 9, 10, 12, 14]), ([3, 5, 15, 15, 2], [2, 3, 5, 15]), ([16, 2], [2, 16]), ([2, 17], [2, 17]), ([18, 16], [18]), ([19], [19]), ([20, 19], [19, 20]), ([19], [19]), ([22, 19], [19, 22]), ([21, 23, 19], [19, 21, 23]), ([19, 24], [19, 24]), ([25, 19], [25]), ([26], [26]), ([26], [26]), ([28, 26], [26, 28]), ([27, 29, 26, 26], [26, 27, 29]), ([30, 26], [26, 30]), ([31, 26], [26, 31]), ([26, 32], [26, 32])])
def l10_ComplexesReal.B14 : List Nat := [0, 1, 3, 7, 7, 23, 7, 7, 199, 455, 7, 7, 2055, 7, 8199, 32711, 65535, 131071, 262143, 524287, 1048575, 2097151, 1048575, 5242879, 16777215, 33554431, 67108863, 134217727, 134217727, 402653183, 1073741823, 2147483647, 4294967295, 8589934591]
theorem l10_ComplexesReal.tab14 : rtab .any (opsOf Tryz.f4 14) = l10_ComplexesReal.T14 := by kernel_rfl
theorem l10_ComplexesReal.bits14 : waitsOk l10_ComplexesReal.T14.2 l10_ComplexesReal.B14 = true := by kernel_rfl
def l10_ComplexesReal.T20 : Bool × List (List Nat × List Nat) := (true, [([], []), ([0], [0]), ([1], [1]), ([2], [2]), ([2], [2]), ([4, 2], [2, 4]), ([2], [2]), ([6, 2, 2], [2, 6]), ([5, 7, 7, 2], [2, 5, 7]), ([3, 8, 2], [2, 3, 8]), ([2, 9], [2, 9]), ([10, 8], [10]), ([11], [11]), ([12, 11], [11, 12]), ([11, 13], [11, 13]), ([14, 11], [14]), ([15], [15]), ([15], [15]), ([16, 17, 15, 15], [15, 16, 17]), ([15, 18], [15, 18]), ([19, 18], [19]), ([20], [20]), ([21, 20], [20, 21]), ([20, 22], [20, 22]), ([23, 20], [23]), ([24], [24]), ([25, 24], [24, 25]), ([24, 26], [24, 26]), ([27, 24], [27]), ([28], [28]), ([28], [28]), ([29, 30, 28, 28], [28, 29, 30]), ([28, 31], [28, 31]), ([32, 31, 0, 1, 2, 3, 4, 5, 6, 7, 8, 9, 10, 11, 12, 13, 14, 15, 16, 17, 18, 19, 20, 21, 22, 23, 24, 25, 26, 27, 28, 29, 30, 31, 32], [32])])
def l10_ComplexesReal.B20 : List Nat := [0, 1, 3, 7, 7, 23, 7, 71, 247, 511, 1023, 2047, 4095, 8191, 16383, 32767, 65535, 65535, 262143, 524287, 1048575, 2097151, 4194303, 8388607, 16777215, 33554431, 67108863, 134217727, 268435455, 536870911, 536870911, 2147483647, 4294967295, 8589934591]
theorem l10_ComplexesReal.tab20 : rtab .any (opsOf Tryz.f4 20) = l10_ComplexesReal.T20 := by kernel_rfl
theorem l10_ComplexesReal.bits20 : waitsOk l10_ComplexesReal.T20.2 l10_ComplexesReal.B20 = true := by kernel_rfl
set_option maxHeartbeats 8000000 in
set_option maxRecDepth 100000 in
theorem l10_ComplexesReal.calls (k : Nat) (a0_0 : Int) (a0_1 : Int) (a0_2 : Int) (a0_3 : ByteArray) (a1_0 : Int) (a1_1 : Int) (a1_2 : Int) (a1_3 : ByteArray) (w : World) (h : l10_ComplexesReal.f k a0_0 a0_1 a0_2 a0_3 a1_0 a1_1 a1_2 a1_3 = some true) :
  Calls Tryz.prog 4 #[.agg #[.int .i64 a0_0, .int .u64 a0_1, .int .u64 a0_2, .string a0_3], .agg #[.int .i64 a1_0, .int .u64 a1_1, .int .u64 a1_2, .string a1_3]] w fun e w' => e = .returned (.bool true) ∧ Below w.heap.size w w' := by
 have hu24 := Tryz.underlying24
 have HB := Aside0.mk (Below.refl w.heap.size w)
 have H : ((l10_awake.f).bind fun t109 => (if t109 = true then ((r10_TwoErr.f a0_0 a0_1 a0_2 a0_3 a1_0 a1_1 a1_2 a1_3).bind fun t110 => (if t110 = 0 then ((r10_PartType.f a0_0).bind fun t111 => ((r8_IsNumber.f t111 a0_1).bind fun t112 => (if t112 = true then ((r8_IsNumber.f t111 a0_2).bind fun t113 => (if t113 = true then ((r8_IsNumber.f t111 a1_1).bind fun t114 => (l10_ComplexesReal.j0 k t111 (!t114) a0_0 a0_1 a0_2 a0_3 a1_0 a1_1 a1_2 a1_3)) else (l10_ComplexesReal.j0 k t111 true a0_0 a0_1 a0_2 a0_3 a1_0 a1_1 a1_2 a1_3))) else (l10_ComplexesReal.j0 k t111 true a0_0 a0_1 a0_2 a0_3 a1_0 a1_1 a1_2 a1_3)))) else (some true))) else (some false))) = some true := h
 clear h
 replace H := Option.bind_eq_some_iff.mp H
 obtain ⟨t109, A3, H⟩ := H
 try dsimp only at H
 replace A3 := Aside0.mk A3
 by_cases c4 : t109 = true
 ·subst c4
  rw [if_pos rfl] at H
  replace H := Option.bind_eq_some_iff.mp H
  obtain ⟨t110, A5, H⟩ := H
  try dsimp only at H
  replace A5 := Aside0.mk A5
  by_cases c6 : t110 = 0
  ·rw [if_pos c6] at H
   have c6b0 : (t110 == 0) = true := beq_iff_eq.mpr c6
   have c6b1 : (t110 != 0) = false := bne_eq_false_iff_eq.mpr c6
   clear c6
   replace H := Option.bind_eq_some_iff.mp H
   obtain ⟨t111, A7, H⟩ := H
   try dsimp only at H
   replace A7 := Aside0.mk A7
   have HC8 := Aside0.mk H
   clear H
   go_enter Tryz.func4, Tryz.ntmps4
   go_upto_region 6 with (first | ((with_reducible refine gate_dst (N := 2) rfl ?_); refine bxe 2 (cs := #[.int .i64 a0_0, .int .u64 a0_1, .int .u64 a0_2, .string a0_3]) (t := 24) ?_; intro gb107 hg w9 hbox hb; have BK107 := Aside0.mk hbox; have GW107 := bsz HB hg; have GE107 := bsz HB hg; replace HB := bls HB hb; clear hb hbox hg) | ((with_reducible refine gate_dst (N := 3) rfl ?_); refine bxe 3 (cs := #[.int .i64 a1_0, .int .u64 a1_1, .int .u64 a1_2, .string a1_3]) (t := 24) ?_; intro gb108 hg w10 hbox hb; have BK108 := Aside0.mk hbox; have GW108 := bsz HB hg; have GE108 := bsz HB hg; have NB107_108 := bnl BK107 hg; have NB108_107 := bng BK107 hg; replace BK107 := bkb BK107 hb; replace HB := bls HB hb; clear hb hbox hg) | ((with_reducible refine gate_callee (f := 10) rfl ?_); refine gLc 19 Tryz.func10 (l10_awake.calls  true _ A3.out) (fun w11 hb => ?_); replace BK107 := bkb BK107 hb; replace BK108 := bkb BK108 hb; replace HB := bls HB hb; clear hb; have hnb12 := NB107_108.out; have hnc12 := NB108_107.out; obtain ⟨hcz13_0, hcz13_1, hcz13_2, hcz13_3, hfz13_0, hfz13_1, hfz13_2, hfz13_3⟩ := cf4 BK107; obtain ⟨hcz14_0, hcz14_1, hcz14_2, hcz14_3, hfz14_0, hfz14_1, hfz14_2, hfz14_3⟩ := cf4 BK108) | ((with_reducible refine gate_callee (f := 13) rfl ?_); refine gLc 23 Tryz.func13 (r10_TwoErr.calls a0_0 a0_1 a0_2 a0_3 a1_0 a1_1 a1_2 a1_3 t110 _ A5.out) (fun w15 hb => ?_); replace BK107 := bkb BK107 hb; replace BK108 := bkb BK108 hb; replace HB := bls HB hb; clear hb; obtain ⟨hcz16_0, hcz16_1, hcz16_2, hcz16_3, hfz16_0, hfz16_1, hfz16_2, hfz16_3⟩ := cf4 BK107) | ((with_reducible refine gate_callee (f := 16) rfl ?_); refine gLc 27 Tryz.func16 (r10_PartType.calls a0_0 t111 _ A7.out) (fun _ h_ => ?_); obtain ⟨nd, rfl⟩ := h_))
   (try simp only [Act.put, List.setIfInBounds_toArray, List.set_cons_zero, List.set_cons_succ])
   go_cut [46] (fun v46 wc => ∃ (kq : Nat) (x46_7 : Bool), v46 = .bool x46_7 ∧ Aside0 (l10_ComplexesReal.j0 kq t111 x46_7 a0_0 a0_1 a0_2 a0_3 a1_0 a1_1 a1_2 a1_3 = some true) ∧ Aside0 (kq ≤ k) ∧ Aside0 (wc.heap[gb107]? = some (.cells #[.int .i64 a0_0, .int .u64 a0_1, .int .u64 a0_2, .string a0_3] 24 (0, 0))) ∧ Aside0 (wc.heap[gb108]? = some (.cells #[.int .i64 a1_0, .int .u64 a1_1, .int .u64 a1_2, .string a1_3] 24 (0, 0))) ∧ Aside0 (Below w.heap.size w wc))
   case first =>
    have H := HC8.out
    clear HC8
    replace H := Option.bind_eq_some_iff.mp H
    obtain ⟨t112, A17, H⟩ := H
    try dsimp only at H
    replace A17 := Aside0.mk A17
    by_cases c18 : t112 = true
    ·subst c18
     rw [if_pos rfl] at H
     replace H := Option.bind_eq_some_iff.mp H
     obtain ⟨t113, A19, H⟩ := H
     try dsimp only at H
     replace A19 := Aside0.mk A19
     by_cases c20 : t113 = true
     ·subst c20
      rw [if_pos rfl] at H
      replace H := Option.bind_eq_some_iff.mp H
      obtain ⟨t114, A21, H⟩ := H
      try dsimp only at H
      replace A21 := Aside0.mk A21
      have H' := Aside0.mk H
      clear H
      have hnb22 := NB107_108.out
      have hnc22 := NB108_107.out
      obtain ⟨hcz23_0, hcz23_1, hcz23_2, hcz23_3, hfz23_0, hfz23_1, hfz23_2, hfz23_3⟩ := cf4 BK107
      go_wp2_with (first | ((with_reducible refine gate_callee (f := 17) rfl ?_); refine gLc 31 Tryz.func17 (r8_IsNumber.calls t111 a0_1 true _ A17.out) (fun w24 hb => ?_); replace BK107 := bkb BK107 hb; replace BK108 := bkb BK108 hb; replace HB := bls HB hb; clear hb; obtain ⟨hcz25_0, hcz25_1, hcz25_2, hcz25_3, hfz25_0, hfz25_1, hfz25_2, hfz25_3⟩ := cf4 BK107) | (go_at_call 17; (with_reducible refine (r8_IsNumber.calls t111 a0_2 true _ A19.out).mono ?_); rintro e w26 ⟨rfl, hb⟩; replace BK107 := bkb BK107 hb; replace BK108 := bkb BK108 hb; replace HB := bls HB hb; clear hb; obtain ⟨hcz27_0, hcz27_1, hcz27_2, hcz27_3, hfz27_0, hfz27_1, hfz27_2, hfz27_3⟩ := cf4 BK108) | (go_at_call 17; (with_reducible refine (r8_IsNumber.calls t111 a1_1 t114 _ A21.out).mono ?_); rintro e w28 ⟨rfl, hb⟩; replace BK107 := bkb BK107 hb; replace BK108 := bkb BK108 hb; replace HB := bls HB hb; clear hb))
      go_meet
      case rel => exact ⟨_, (!t114), (by first | rfl | (simp; done) | (simp [*]; done)), H', ⟨by first | omega | exact Nat.le_refl _⟩, bks BK107, bks BK108, blt HB⟩
     ·replace c20 := Bool.eq_false_iff.mpr c20
      subst c20
      rw [if_neg (show ¬ (false = true) by decide)] at H
      have H' := Aside0.mk H
      clear H
      have hnb29 := NB107_108.out
      have hnc29 := NB108_107.out
      obtain ⟨hcz30_0, hcz30_1, hcz30_2, hcz30_3, hfz30_0, hfz30_1, hfz30_2, hfz30_3⟩ := cf4 BK107
      go_wp2_with (first | ((with_reducible refine gate_callee (f := 17) rfl ?_); refine gLc 31 Tryz.func17 (r8_IsNumber.calls t111 a0_1 true _ A17.out) (fun w31 hb => ?_); replace BK107 := bkb BK107 hb; replace BK108 := bkb BK108 hb; replace HB := bls HB hb; clear hb; obtain ⟨hcz32_0, hcz32_1, hcz32_2, hcz32_3, hfz32_0, hfz32_1, hfz32_2, hfz32_3⟩ := cf4 BK107) | (go_at_call 17; (with_reducible refine (r8_IsNumber.calls t111 a0_2 false _ A19.out).mono ?_); rintro e w33 ⟨rfl, hb⟩; replace BK107 := bkb BK107 hb; replace BK108 := bkb BK108 hb; replace HB := bls HB hb; clear hb))
      go_meet
      case rel => exact ⟨_, (true), (by first | rfl | (simp; done) | (simp [*]; done)), H', ⟨by first | omega | exact Nat.le_refl _⟩, bks BK107, bks BK108, blt HB⟩
    ·replace c18 := Bool.eq_false_iff.mpr c18
     subst c18
     rw [if_neg (show ¬ (false = true) by decide)] at H
     have H' := Aside0.mk H
     clear H
     have hnb34 := NB107_108.out
     have hnc34 := NB108_107.out
     obtain ⟨hcz35_0, hcz35_1, hcz35_2, hcz35_3, hfz35_0, hfz35_1, hfz35_2, hfz35_3⟩ := cf4 BK107
     go_wp2_with (first | ((with_reducible refine gate_callee (f := 17) rfl ?_); refine gLc 31 Tryz.func17 (r8_IsNumber.calls t111 a0_1 false _ A17.out) (fun w36 hb => ?_); replace BK107 := bkb BK107 hb; replace BK108 := bkb BK108 hb; replace HB := bls HB hb; clear hb))
     go_meet
     case rel => exact ⟨_, (true), (by first | rfl | (simp; done) | (simp [*]; done)), H', ⟨by first | omega | exact Nat.le_refl _⟩, bks BK107, bks BK108, blt HB⟩
   case rest =>
    clear HC8
    try clear c1
    try clear c2
    try clear p2
    try clear c3
    try clear c4
    try clear c6
    try clear c6b0
    try clear c6b1
    try clear c10
    try clear c12
    try clear c13
    try clear c16
    try clear c17
    try clear c18
    try clear c20
    try clear c22
    try clear c29
    try clear c34
    try clear hcz13_0
    try clear hcz13_1
    try clear hcz13_2
    try clear hcz13_3
    try clear hcz14_0
    try clear hcz14_1
    try clear hcz14_2
    try clear hcz14_3
    try clear hcz16_0
    try clear hcz16_1
    try clear hcz16_2
    try clear hcz16_3
    try clear hcz23_0
    try clear hcz23_1
    try clear hcz23_2
    try clear hcz23_3
    try clear hcz25_0
    try clear hcz25_1
    try clear hcz25_2
    try clear hcz25_3
    try clear hcz27_0
    try clear hcz27_1
    try clear hcz27_2
    try clear hcz27_3
    try clear hcz30_0
    try clear hcz30_1
    try clear hcz30_2
    try clear hcz30_3
    try clear hcz32_0
    try clear hcz32_1
    try clear hcz32_2
    try clear hcz32_3
    try clear hcz35_0
    try clear hcz35_1
    try clear hcz35_2
    try clear hcz35_3
    try clear hfz13_0
    try clear hfz13_1
    try clear hfz13_2
    try clear hfz13_3
    try clear hfz14_0
    try clear hfz14_1
    try clear hfz14_2
    try clear hfz14_3
    try clear hfz16_0
    try clear hfz16_1
    try clear hfz16_2
    try clear hfz16_3
    try clear hfz23_0
    try clear hfz23_1
    try clear hfz23_2
    try clear hfz23_3
    try clear hfz25_0
    try clear hfz25_1
    try clear hfz25_2
    try clear hfz25_3
    try clear hfz27_0
    try clear hfz27_1
    try clear hfz27_2
    try clear hfz27_3
    try clear hfz30_0
    try clear hfz30_1
    try clear hfz30_2
    try clear hfz30_3
    try clear hfz32_0
    try clear hfz32_1
    try clear hfz32_2
    try clear hfz32_3
    try clear hfz35_0
    try clear hfz35_1
    try clear hfz35_2
    try clear hfz35_3
    obtain ⟨kq, x46_7, rfl, HA, HJ7, BK107, BK108, HB⟩ := hcut
    cases kq with
    | zero => exact absurd HA.out (by simp [l10_ComplexesReal.j0])
    | succ kj7 =>
     have H := HA.out
     clear HA
     simp only [l10_ComplexesReal.j0] at H
     by_cases c37 : x46_7 = true
     ·subst c37
      rw [if_pos rfl] at H
      have HR_ := Option.some.inj H
      clear H
      go_wp2
      go_ret
      exact ⟨by first | rfl | (rw [HR_]; done) | (rw [HRz_]; done) | (simp only [HR_]; done) | (simp [errW_none, errW_some] <;> rfl) | (simp [*, errW_none, errW_some] <;> rfl), (blt HB).out⟩
     ·replace c37 := Bool.eq_false_iff.mpr c37
      subst c37
      rw [if_neg (show ¬ (false = true) by decide)] at H
      obtain ⟨y115, hy115⟩ : ∃ y_ : List Int, y_ = (([0, 1, 2] : List Int)) := ⟨_, rfl⟩
      replace H : (l10_ComplexesReal.l0 kj7 t111 y115 (([0, 1, 2] : List Int)) 0 a0_0 a0_1 a0_2 a0_3 a1_0 a1_1 a1_2 a1_3) = some true := by first | (rw [hy115]; with_reducible exact H) | (have H2_ := (Option.bind_some _ _).symm.trans H; rw [hy115]; with_reducible exact H2_) | (have H2_ := (Option.bind_some _ _).symm.trans H; with_reducible exact H2_) | with_reducible exact H | (rw [hy115]; exact H) | exact H
      have Ny115 := Aside0.mk hy115
      clear hy115
      obtain ⟨y118, hy118⟩ : ∃ y_ : List Int, y_ = (([0, 1, 2] : List Int)) := ⟨_, rfl⟩
      replace H : (l10_ComplexesReal.l0 kj7 t111 y115 y118 0 a0_0 a0_1 a0_2 a0_3 a1_0 a1_1 a1_2 a1_3) = some true := by first | (rw [hy118]; with_reducible exact H) | (have H2_ := (Option.bind_some _ _).symm.trans H; rw [hy118]; with_reducible exact H2_) | (have H2_ := (Option.bind_some _ _).symm.trans H; with_reducible exact H2_) | with_reducible exact H | (rw [hy118]; exact H) | exact H
      have Ny118 := Aside0.mk hy118
      clear hy118
      have H' := Aside0.mk H
      clear H
      go_wp2_with (first | ((with_reducible refine gate_dst (N := 47) rfl ?_); refine Kd.R_lit (Kd.int .i64) _ 3 ?hg (N := 47) ?hd (xs := ([0, 1, 2] : List Int)) (inner := [.int .i64 0, .int .i64 1, .int .i64 2]) (ok := fun _ => True) (okp := fun _ => True) ?hr ?hp (fun _ hk => hk) trivial (Below.refl _ _) (Nat.le_refl _) (by simp) ?_; (case hd => rfl); (case hg => rfl); (case hr => first | (go_simp; done) | (go_simp; rfl)); (case hp => exact (Reps.one (show Kd.M (Kd.int .i64) _ _ _ 0 [.int .i64 0] from rfl) (Reps.one (show Kd.M (Kd.int .i64) _ _ _ 1 [.int .i64 1] from rfl) (Reps.one (show Kd.M (Kd.int .i64) _ _ _ 2 [.int .i64 2] from rfl) (Reps.none _ _))))); intro v116 w38 ho39 hb hg_ hnew_; clear hg_ hnew_; (first | rw [← Ny115.out] at ho39 | (simp only [Int.reduceToNat] at ho39; rw [← Ny115.out] at ho39)); have HO117 := Aside0.mk (Kd.R_lower ho39 (below_size (blt HB).out)); replace BK107 := bkb BK107 hb; replace BK108 := bkb BK108 hb; replace HB := bls HB hb; clear hb ho39) | ((with_reducible refine gate_dst (N := 48) rfl ?_); refine Kd.R_lit (Kd.int .i64) _ 3 ?hg (N := 48) ?hd (xs := ([0, 1, 2] : List Int)) (inner := [.int .i64 0, .int .i64 1, .int .i64 2]) (ok := fun _ => True) (okp := fun _ => True) ?hr ?hp (fun _ hk => hk) trivial (Below.refl _ _) (Nat.le_refl _) (by simp) ?_; (case hd => rfl); (case hg => rfl); (case hr => first | (go_simp; done) | (go_simp; rfl)); (case hp => exact (Reps.one (show Kd.M (Kd.int .i64) _ _ _ 0 [.int .i64 0] from rfl) (Reps.one (show Kd.M (Kd.int .i64) _ _ _ 1 [.int .i64 1] from rfl) (Reps.one (show Kd.M (Kd.int .i64) _ _ _ 2 [.int .i64 2] from rfl) (Reps.none _ _))))); intro v119 w40 ho41 hb hg_ hnew_; clear hg_ hnew_; (first | rw [← Ny118.out] at ho41 | (simp only [Int.reduceToNat] at ho41; rw [← Ny118.out] at ho41)); have HO120 := Aside0.mk (Kd.R_lower (Kd.R_new' ho41 (Kd.R_lt (by (with_reducible repeat (first | apply Kd.R_alloc | apply Kd.R_drewN | apply Kd.R_drew)); exact HO117.out))) (below_size (blt HB).out)); replace HO117 := Aside0.mk (Kd.R_elder' (by (with_reducible repeat (first | apply Kd.R_alloc | apply Kd.R_drewN | apply Kd.R_drew)); exact HO117.out) (Kd.R_base ho41) hb); replace BK107 := bkb BK107 hb; replace BK108 := bkb BK108 hb; replace HB := bls HB hb; clear hb ho41))
      go_loopg [8] kj7 (fun kq v8 w' => ∃ (x8_2 : Int), v8 = .int .i64 x8_2 ∧ Aside0 (l10_ComplexesReal.l0 kq t111 y115 y118 x8_2 a0_0 a0_1 a0_2 a0_3 a1_0 a1_1 a1_2 a1_3 = some true) ∧ Aside0 (kq ≤ kj7) ∧ Aside0 (Kd.R (Kd.int .i64) 3 w' w.heap.size (fun k_ => some k_ ≠ (v119 : Value).ownBlock) v116 y115) ∧ Aside0 (Kd.R (Kd.int .i64) 3 w' w.heap.size (fun k_ => some k_ ≠ (v116 : Value).ownBlock) v119 y118) ∧ Aside0 (w'.heap[gb107]? = some (.cells #[.int .i64 a0_0, .int .u64 a0_1, .int .u64 a0_2, .string a0_3] 24 (0, 0))) ∧ Aside0 (w'.heap[gb108]? = some (.cells #[.int .i64 a1_0, .int .u64 a1_1, .int .u64 a1_2, .string a1_3] 24 (0, 0))) ∧ Aside0 (Below w.heap.size w w'))
      case atStart => exact ⟨(0), (by first | rfl | (simp; done) | (simp [*]; done)), H', ⟨Nat.le_refl _⟩, ⟨by (with_reducible repeat (first | apply Kd.R_alloc | apply Kd.R_drewN | apply Kd.R_drew)); exact Kd.R_mono HO117.out (fun _ hk => hk.2)⟩, ⟨by (with_reducible repeat (first | apply Kd.R_alloc | apply Kd.R_drewN | apply Kd.R_drew)); exact Kd.R_mono HO120.out (fun _ hk => hk.2)⟩, bks BK107, bks BK108, blt HB⟩
      case round =>
       clear H'
       try clear c1
       try clear c2
       try clear p2
       try clear c3
       try clear c4
       try clear c6
       try clear c6b0
       try clear c6b1
       try clear c10
       try clear c12
       try clear c13
       try clear c16
       try clear c17
       try clear c18
       try clear c20
       try clear c22
       try clear c29
       try clear c34
       try clear c37
       try clear hcz13_0
       try clear hcz13_1
       try clear hcz13_2
       try clear hcz13_3
       try clear hcz14_0
       try clear hcz14_1
       try clear hcz14_2
       try clear hcz14_3
       try clear hcz16_0
       try clear hcz16_1
       try clear hcz16_2
       try clear hcz16_3
       try clear hcz23_0
       try clear hcz23_1
       try clear hcz23_2
       try clear hcz23_3
       try clear hcz25_0
       try clear hcz25_1
       try clear hcz25_2
       try clear hcz25_3
       try clear hcz27_0
       try clear hcz27_1
       try clear hcz27_2
       try clear hcz27_3
       try clear hcz30_0
       try clear hcz30_1
       try clear hcz30_2
       try clear hcz30_3
       try clear hcz32_0
       try clear hcz32_1
       try clear hcz32_2
       try clear hcz32_3
       try clear hcz35_0
       try clear hcz35_1
       try clear hcz35_2
       try clear hcz35_3
       try clear hfz13_0
       try clear hfz13_1
       try clear hfz13_2
       try clear hfz13_3
       try clear hfz14_0
       try clear hfz14_1
       try clear hfz14_2
       try clear hfz14_3
       try clear hfz16_0
       try clear hfz16_1
       try clear hfz16_2
       try clear hfz16_3
       try clear hfz23_0
       try clear hfz23_1
       try clear hfz23_2
       try clear hfz23_3
       try clear hfz25_0
       try clear hfz25_1
       try clear hfz25_2
       try clear hfz25_3
       try clear hfz27_0
       try clear hfz27_1
       try clear hfz27_2
       try clear hfz27_3
       try clear hfz30_0
       try clear hfz30_1
       try clear hfz30_2
       try clear hfz30_3
       try clear hfz32_0
       try clear hfz32_1
       try clear hfz32_2
       try clear hfz32_3
       try clear hfz35_0
       try clear hfz35_1
       try clear hfz35_2
       try clear hfz35_3
       try clear p2
       obtain ⟨x8_2, rfl, HA, HK2, HO_6, HO_7, BK107, BK108, HB⟩ := hrel
       cases gk with
       | zero => exact absurd HA.out (by simp [l10_ComplexesReal.l0])
       | succ k2 =>
        have H := HA.out
        clear HA
        simp only [l10_ComplexesReal.l0] at H
        by_cases c42 : x8_2 < 3
        ·rw [if_pos c42] at H
         have c42b0 : decide (x8_2 < 3) = true := decide_eq_true c42
         clear c42
         by_cases c43 : 0 ≤ x8_2
         ·rw [if_pos c43] at H
          have c43b0 : decide (0 ≤ x8_2) = true := decide_eq_true c43
          clear c43
          by_cases c44 : x8_2 < (y115.length : Int)
          ·rw [if_pos c44] at H
           have c44b0 : decide (x8_2 < (y115.length : Int)) = true := decide_eq_true c44
           clear c44
           replace H := Option.bind_eq_some_iff.mp H
           obtain ⟨⟨t122, t123, t124, t125⟩, A45, H⟩ := H
           try dsimp only at H
           replace A45 := Aside0.mk A45
           replace H := Option.bind_eq_some_iff.mp H
           obtain ⟨⟨t126, t127, t128, t129⟩, A46, H⟩ := H
           try dsimp only at H
           replace A46 := Aside0.mk A46
           replace H := Option.bind_eq_some_iff.mp H
           obtain ⟨⟨t130, t131, t132, t133, t134⟩, A47, H⟩ := H
           try dsimp only at H
           replace A47 := Aside0.mk A47
           by_cases c48 : t134 = 0
           ·rw [if_pos c48] at H
            have c48b0 : (t134 == 0) = true := beq_iff_eq.mpr c48
            have c48b1 : (t134 != 0) = false := bne_eq_false_iff_eq.mpr c48
            clear c48
            by_cases c49 : x8_2 < (y118.length : Int)
            ·rw [if_pos c49] at H
             have c49b0 : decide (x8_2 < (y118.length : Int)) = true := decide_eq_true c49
             clear c49
             replace H := Option.bind_eq_some_iff.mp H
             obtain ⟨t137, A50, H⟩ := H
             try dsimp only at H
             replace A50 := Aside0.mk A50
             replace H := Option.bind_eq_some_iff.mp H
             obtain ⟨t138, A51, H⟩ := H
             try dsimp only at H
             replace A51 := Aside0.mk A51
             by_cases c52 : t138 = true
             ·subst c52
              rw [if_pos rfl] at H
              by_cases c53 : t130 = a0_0
              ·rw [if_pos c53] at H
               have c53b0 : (t130 == a0_0) = true := beq_iff_eq.mpr c53
               have c53b1 : (t130 != a0_0) = false := bne_eq_false_iff_eq.mpr c53
               clear c53
               replace H := Option.bind_eq_some_iff.mp H
               obtain ⟨⟨t139, t140, t141, t142⟩, A54, H⟩ := H
               try dsimp only at H
               replace A54 := Aside0.mk A54
               by_cases c55 : t139 = 0
               ·rw [if_pos c55] at H
                have c55b0 : (t139 == 0) = true := beq_iff_eq.mpr c55
                have c55b1 : (t139 != 0) = false := bne_eq_false_iff_eq.mpr c55
                clear c55
                have H' := Aside0.mk H
                clear H
                try go_wp2
                replace HO_6 := Aside0.mk (Kd.R_drew HO_6.out)
                replace HO_7 := Aside0.mk (Kd.R_drew HO_7.out)
                replace BK107 := Aside0.mk (blk_drew BK107.out)
                replace BK108 := Aside0.mk (blk_drew BK108.out)
                replace HB := Aside0.mk (below_drew1 HB.out)
                obtain ⟨Ao57, co57, eo57⟩ := Kd.R_slice HO_6.out
                (first | subst eo57 | (injection eo57 with f1_ f2_ f3_; have f4_ := f1_.symm; have f5_ := f3_.symm; clear f1_ f2_ f3_; subst f4_; subst f5_))
                have p121 : 0 ≤ (x8_2 : Int) := of_decide_eq_true (by first | (with_reducible assumption) | assumption)
                have q121 : x8_2 < (y115.length : Int) := of_decide_eq_true (by first | (with_reducible assumption) | assumption)
                obtain ⟨ad121, e121, hx121_0⟩ := Kd.at_int (Kd.R_reads' HO_6.out).2.2 x8_2 p121 q121
                cases e121
                replace p121 := eq_true p121
                replace q121 := eq_true q121
                refine start_ (n := 21) (S := fun w' => w'.cell? ⟨gb107, 0, none⟩ = some (.int .i64 a0_0) ∧ w'.cell? ⟨gb107, 1, none⟩ = some (.int .u64 a0_1) ∧ w'.cell? ⟨gb107, 2, none⟩ = some (.int .u64 a0_2) ∧ w'.cell? ⟨gb107, 3, none⟩ = some (.string a0_3) ∧ w'.cell? ⟨gb108, 0, none⟩ = some (.int .i64 a1_0) ∧ w'.cell? ⟨gb108, 1, none⟩ = some (.int .u64 a1_1) ∧ w'.cell? ⟨gb108, 2, none⟩ = some (.int .u64 a1_2) ∧ w'.cell? ⟨gb108, 3, none⟩ = some (.string a1_3) ∧ w'.cell? (ad121.add (x8_2).toNat) = some (.int .i64 (rd y115 x8_2))) (ds := []) #[false, false, false, false, false, false, false, false, false, false, false, false, false, false, false, false, false, false, false, false, false] (by kernel_rfl) rfl rfl ⟨(blk_cell BK107.out 0).trans rfl, (blk_cell BK107.out 1).trans rfl, (blk_cell BK107.out 2).trans rfl, (blk_cell BK107.out 3).trans rfl, (blk_cell BK108.out 0).trans rfl, (blk_cell BK108.out 1).trans rfl, (blk_cell BK108.out 2).trans rfl, (blk_cell BK108.out 3).trans rfl, hx121_0⟩ (fun hHeld => ?_); refine with_tabW l10_ComplexesReal.tab13 l10_ComplexesReal.bits13 (fun HT_ HW_ => ?_)
                generalize wr.drew = w56 at HO_6 HO_7 BK107 BK108 HB hx121_0 hHeld ⊢
                refine pu 0 54 HT_ ?_
                refine pu 1 55 HT_ ?_
                refine pu 2 56 HT_ ?_
                refine pu 4 58 HT_ ?_
                refine pu 6 60 HT_ ?_
                refine pu 9 63 HT_ ?_
                refine pu 11 65 HT_ ?_
                refine tk 3 57 HT_ HW_ hHeld ?_
                refine tk 5 59 HT_ HW_ hHeld ?_
                refine tk 7 61 HT_ HW_ hHeld ?_
                refine tk 10 64 HT_ HW_ hHeld ?_
                refine tk 12 66 HT_ HW_ hHeld ?_
                refine join_ (σ := Nat) 2 #[true, true, true, true, true, true, true, true, true, true, true, true, true, true, true, true, true, true, true, false, false] (fun s_ => [(62, .agg #[.int .i64 t122, .int .u64 t123, .int .u64 t124, .string t125]), (67, .agg #[.int .i64 t126, .int .u64 t127, .int .u64 t128, .string t129]), (68, .tuple #[.agg #[.int .i64 t130, .int .u64 t131, .int .u64 t132, .string t133], .int .i64 t134]), (9, .pointer (some ⟨s_, 0, none⟩)), (53, .tuple #[.agg #[.int .i64 t130, .int .u64 t131, .int .u64 t132, .string t133], .int .i64 t134]), (69, .agg #[.int .i64 t130, .int .u64 t131, .int .u64 t132, .string t133]), (70, .int .i64 t134)]) (fun s_ w' => (w'.cell? ⟨gb107, 0, none⟩ = some (.int .i64 a0_0) ∧ w'.cell? ⟨gb107, 1, none⟩ = some (.int .u64 a0_1) ∧ w'.cell? ⟨gb107, 2, none⟩ = some (.int .u64 a0_2) ∧ w'.cell? ⟨gb107, 3, none⟩ = some (.string a0_3) ∧ w'.cell? ⟨gb108, 0, none⟩ = some (.int .i64 a1_0) ∧ w'.cell? ⟨gb108, 1, none⟩ = some (.int .u64 a1_1) ∧ w'.cell? ⟨gb108, 2, none⟩ = some (.int .u64 a1_2) ∧ w'.cell? ⟨gb108, 3, none⟩ = some (.string a1_3) ∧ w'.cell? (ad121.add (x8_2).toNat) = some (.int .i64 (rd y115 x8_2))) ∧ (Kd.R (Kd.int .i64) 3 w' w.heap.size (fun k_ => some k_ ≠ (v119 : Value).ownBlock) (.slice (some ad121) y115.length co57) y115) ∧ (Kd.R (Kd.int .i64) 3 w' w.heap.size (fun k_ => some k_ ≠ (.slice (some ad121) y115.length co57 : Value).ownBlock) v119 y118) ∧ (w'.heap[gb107]? = some (.cells #[.int .i64 a0_0, .int .u64 a0_1, .int .u64 a0_2, .string a0_3] 24 (0, 0))) ∧ (w'.heap[gb108]? = some (.cells #[.int .i64 a1_0, .int .u64 a1_1, .int .u64 a1_2, .string a1_3] 24 (0, 0))) ∧ (w'.heap[s_]? = some (.cells #[.int .i64 0, .int .u64 0, .int .u64 0, .string (⟨#[]⟩ : ByteArray)] 24 (0, 0))) ∧ (w.heap.size ≤ s_) ∧ (w.heap.size ≤ s_) ∧ (gb107 ≠ s_) ∧ (s_ ≠ gb107) ∧ (gb108 ≠ s_) ∧ (s_ ≠ gb108) ∧ (Below w.heap.size w w')) ?_ ?_
                rotate_left
                ·intro hCont
                 refine two_ (i := 8) (j := 18) (Ni := some 62) (Nj := some 9) #[true, true, true, true, true, true, true, true, true, true, true, true, true, false, false, false, false, false, false, false, false] #[true, true, true, true, true, true, true, true, false, true, true, true, true, false, false, false, false, false, true, false, false] rfl rfl rfl rfl (two_of HT_.out (by kernel_rfl)) (by decide) (by decide) (fun K hK => ?_) (fun K hK => ?_)
                 ·skip
                  refine goes_ Tryz.func18 (by kernel_rfl) rfl #[.int .i64 a0_0, .int .u64 a0_1, .int .u64 0] (by rfl) rfl rfl (by (try simp only [List.map_toArray, List.map_cons, List.map_nil]); first | done | rfl | (simp only [List.length_drop, List.length_take]; rfl)) ?_
                  with_reducible refine (r10_Made.calls a0_0 a0_1 0 t122 t123 t124 t125 _ A45.out).mono ?_
                  rintro e w58 ⟨rfl, hb⟩
                  have HS8_ := (hb.cell (World.block_lt_of_cell? _ _ (hHeld.2.2.2.2.2.2.2.2))).trans (hHeld.2.2.2.2.2.2.2.2)
                  refine ⟨_, rfl, ?_⟩
                  replace HO_6 := Aside0.mk (Kd.R_below (by (with_reducible repeat (first | apply Kd.R_alloc | apply Kd.R_drewN | apply Kd.R_drew)); exact HO_6.out) hb)
                  replace HO_7 := Aside0.mk (Kd.R_below (by (with_reducible repeat (first | apply Kd.R_alloc | apply Kd.R_drewN | apply Kd.R_drew)); exact HO_7.out) hb)
                  replace BK107 := bkb BK107 hb
                  replace BK108 := bkb BK108 hb
                  replace HB := bls HB hb
                  (try clear hb)
                  (try clear hb2)
                  (try clear hk)
                  (try clear hi)
                  refine hK.out _ _ ⟨(blk_cell BK107.out 0).trans rfl, (blk_cell BK107.out 1).trans rfl, (blk_cell BK107.out 2).trans rfl, (blk_cell BK107.out 3).trans rfl, (blk_cell BK108.out 0).trans rfl, (blk_cell BK108.out 1).trans rfl, (blk_cell BK108.out 2).trans rfl, (blk_cell BK108.out 3).trans rfl, HS8_⟩ (fun hHeld => ?_)
                  clear hK K
                  refine nm 62 ?_
                  refine two_ (i := 13) (j := 18) (Ni := some 67) (Nj := some 9) #[true, true, true, true, true, true, true, true, true, true, true, true, true, true, false, false, false, false, false, false, false] #[true, true, true, true, true, true, true, true, true, true, true, true, true, false, false, false, false, false, true, false, false] rfl rfl rfl rfl (two_of HT_.out (by kernel_rfl)) (by decide) (by decide) (fun K hK => ?_) (fun K hK => ?_)
                  ·skip
                   refine goes_ Tryz.func18 (by kernel_rfl) rfl #[.int .i64 a0_0, .int .u64 a1_1, .int .u64 0] (by rfl) rfl rfl (by (try simp only [List.map_toArray, List.map_cons, List.map_nil]); first | done | rfl | (simp only [List.length_drop, List.length_take]; rfl)) ?_
                   with_reducible refine (r10_Made.calls a0_0 a1_1 0 t126 t127 t128 t129 _ A46.out).mono ?_
                   rintro e w59 ⟨rfl, hb⟩
                   have HS8_ := (hb.cell (World.block_lt_of_cell? _ _ (hHeld.2.2.2.2.2.2.2.2))).trans (hHeld.2.2.2.2.2.2.2.2)
                   refine ⟨_, rfl, ?_⟩
                   replace HO_6 := Aside0.mk (Kd.R_below (by (with_reducible repeat (first | apply Kd.R_alloc | apply Kd.R_drewN | apply Kd.R_drew)); exact HO_6.out) hb)
                   replace HO_7 := Aside0.mk (Kd.R_below (by (with_reducible repeat (first | apply Kd.R_alloc | apply Kd.R_drewN | apply Kd.R_drew)); exact HO_7.out) hb)
                   replace BK107 := bkb BK107 hb
                   replace BK108 := bkb BK108 hb
                   replace HB := bls HB hb
                   (try clear hb)
                   (try clear hb2)
                   (try clear hk)
                   (try clear hi)
                   refine hK.out _ _ ⟨(blk_cell BK107.out 0).trans rfl, (blk_cell BK107.out 1).trans rfl, (blk_cell BK107.out 2).trans rfl, (blk_cell BK107.out 3).trans rfl, (blk_cell BK108.out 0).trans rfl, (blk_cell BK108.out 1).trans rfl, (blk_cell BK108.out 2).trans rfl, (blk_cell BK108.out 3).trans rfl, HS8_⟩ (fun hHeld => ?_)
                   clear hK K
                   refine nm 67 ?_
                   refine two_ (i := 14) (j := 18) (Ni := some 68) (Nj := some 9) #[true, true, true, true, true, true, true, true, true, true, true, true, true, true, true, false, false, false, false, false, false] #[true, true, true, true, true, true, true, true, true, true, true, true, true, true, false, false, false, false, true, false, false] rfl rfl rfl rfl (two_of HT_.out (by kernel_rfl)) (by decide) (by decide) (fun K hK => ?_) (fun K hK => ?_)
                   ·skip
                    refine goes_ Tryz.func12 (by kernel_rfl) rfl #[.int .i64 (rd y115 x8_2), .agg #[.int .i64 t122, .int .u64 t123, .int .u64 t124, .string t125], .agg #[.int .i64 t126, .int .u64 t127, .int .u64 t128, .string t129]] (by rfl) rfl rfl (by (try simp only [List.map_toArray, List.map_cons, List.map_nil]); first | done | rfl | (simp only [List.length_drop, List.length_take]; rfl)) ?_
                    with_reducible refine (cx_Apply.calls (rd y115 x8_2) t122 t123 t124 t125 t126 t127 t128 t129 t130 t131 t132 t133 t134 _ A47.out).mono ?_
                    rintro e w60 ⟨rfl, hb⟩
                    have HS8_ := (hb.cell (World.block_lt_of_cell? _ _ (hHeld.2.2.2.2.2.2.2.2))).trans (hHeld.2.2.2.2.2.2.2.2)
                    refine ⟨_, rfl, ?_⟩
                    replace HO_6 := Aside0.mk (Kd.R_below (by (with_reducible repeat (first | apply Kd.R_alloc | apply Kd.R_drewN | apply Kd.R_drew)); exact HO_6.out) hb)
                    replace HO_7 := Aside0.mk (Kd.R_below (by (with_reducible repeat (first | apply Kd.R_alloc | apply Kd.R_drewN | apply Kd.R_drew)); exact HO_7.out) hb)
                    replace BK107 := bkb BK107 hb
                    replace BK108 := bkb BK108 hb
                    replace HB := bls HB hb
                    (try clear hb)
                    (try clear hb2)
                    (try clear hk)
                    (try clear hi)
                    refine hK.out _ _ ⟨(blk_cell BK107.out 0).trans rfl, (blk_cell BK107.out 1).trans rfl, (blk_cell BK107.out 2).trans rfl, (blk_cell BK107.out 3).trans rfl, (blk_cell BK108.out 0).trans rfl, (blk_cell BK108.out 1).trans rfl, (blk_cell BK108.out 2).trans rfl, (blk_cell BK108.out 3).trans rfl, HS8_⟩ (fun hHeld => ?_)
                    clear hK K
                    refine nm 68 ?_
                    refine pu 15 53 HT_ ?_
                    refine pu 16 69 HT_ ?_
                    refine pu 17 70 HT_ ?_
                    refine on 18 9 HT_ (fun K hK => ?_)
                    refine box_step ?hg (N := 9) ?hd (cs := #[.int .i64 0, .int .u64 0, .int .u64 0, .string (⟨#[]⟩ : ByteArray)]) (t := 24) ?hr ?_; (case hd => rfl); (case hg => rfl); (case hr => first | (go_simp; done) | (go_simp; rfl))
                    intro gb135 hg w61 hbox hb
                    have HS8_ := (hb.cell (World.block_lt_of_cell? _ _ (hHeld.2.2.2.2.2.2.2.2))).trans (hHeld.2.2.2.2.2.2.2.2)
                    have BK135 := Aside0.mk hbox
                    have GW135 := bsz HB hg
                    have GE135 := bsz HB hg
                    have NB107_135 := bnl BK107 hg
                    have NB135_107 := bng BK107 hg
                    have NB108_135 := bnl BK108 hg
                    have NB135_108 := bng BK108 hg
                    replace HO_6 := Aside0.mk (Kd.R_below (by (with_reducible repeat (first | apply Kd.R_alloc | apply Kd.R_drewN | apply Kd.R_drew)); exact HO_6.out) hb)
                    replace HO_7 := Aside0.mk (Kd.R_below (by (with_reducible repeat (first | apply Kd.R_alloc | apply Kd.R_drewN | apply Kd.R_drew)); exact HO_7.out) hb)
                    replace BK107 := bkb BK107 hb
                    replace BK108 := bkb BK108 hb
                    replace HB := bls HB hb
                    clear hb hbox hg
                    refine hK.out _ _ ⟨(blk_cell BK107.out 0).trans rfl, (blk_cell BK107.out 1).trans rfl, (blk_cell BK107.out 2).trans rfl, (blk_cell BK107.out 3).trans rfl, (blk_cell BK108.out 0).trans rfl, (blk_cell BK108.out 1).trans rfl, (blk_cell BK108.out 2).trans rfl, (blk_cell BK108.out 3).trans rfl, HS8_⟩ (fun hHeld => ?_)
                    clear hK K
                    refine nm 9 ?_
                    exact norm_ (by simp only [putAll, Act.put, List.setIfInBounds_toArray, List.set_cons_zero, List.set_cons_succ]) (hCont (gb135) _ ⟨hHeld, (by (with_reducible repeat (first | apply Kd.R_alloc | apply Kd.R_drewN | apply Kd.R_drew)); exact HO_6.out), (by (with_reducible repeat (first | apply Kd.R_alloc | apply Kd.R_drewN | apply Kd.R_drew)); exact HO_7.out), (bks BK107).out, (bks BK108).out, (bks BK135).out, GW135.out, GE135.out, NB107_135.out, NB135_107.out, NB108_135.out, NB135_108.out, (blt HB).out⟩)
                   ·skip
                    refine box_step ?hg (N := 9) ?hd (cs := #[.int .i64 0, .int .u64 0, .int .u64 0, .string (⟨#[]⟩ : ByteArray)]) (t := 24) ?hr ?_; (case hd => rfl); (case hg => rfl); (case hr => first | (go_simp; done) | (go_simp; rfl))
                    intro gb135 hg w60 hbox hb
                    have HS8_ := (hb.cell (World.block_lt_of_cell? _ _ (hHeld.2.2.2.2.2.2.2.2))).trans (hHeld.2.2.2.2.2.2.2.2)
                    have BK135 := Aside0.mk hbox
                    have GW135 := bsz HB hg
                    have GE135 := bsz HB hg
                    have NB107_135 := bnl BK107 hg
                    have NB135_107 := bng BK107 hg
                    have NB108_135 := bnl BK108 hg
                    have NB135_108 := bng BK108 hg
                    replace HO_6 := Aside0.mk (Kd.R_below (by (with_reducible repeat (first | apply Kd.R_alloc | apply Kd.R_drewN | apply Kd.R_drew)); exact HO_6.out) hb)
                    replace HO_7 := Aside0.mk (Kd.R_below (by (with_reducible repeat (first | apply Kd.R_alloc | apply Kd.R_drewN | apply Kd.R_drew)); exact HO_7.out) hb)
                    replace BK107 := bkb BK107 hb
                    replace BK108 := bkb BK108 hb
                    replace HB := bls HB hb
                    clear hb hbox hg
                    refine hK.out _ _ ⟨(blk_cell BK107.out 0).trans rfl, (blk_cell BK107.out 1).trans rfl, (blk_cell BK107.out 2).trans rfl, (blk_cell BK107.out 3).trans rfl, (blk_cell BK108.out 0).trans rfl, (blk_cell BK108.out 1).trans rfl, (blk_cell BK108.out 2).trans rfl, (blk_cell BK108.out 3).trans rfl, HS8_⟩ (fun hHeld => ?_)
                    clear hK K
                    refine nm 9 ?_
                    refine on 14 68 HT_ (fun K hK => ?_)
                    refine goes_ Tryz.func12 (by kernel_rfl) rfl #[.int .i64 (rd y115 x8_2), .agg #[.int .i64 t122, .int .u64 t123, .int .u64 t124, .string t125], .agg #[.int .i64 t126, .int .u64 t127, .int .u64 t128, .string t129]] (by rfl) rfl rfl (by (try simp only [List.map_toArray, List.map_cons, List.map_nil]); first | done | rfl | (simp only [List.length_drop, List.length_take]; rfl)) ?_
                    with_reducible refine (cx_Apply.calls (rd y115 x8_2) t122 t123 t124 t125 t126 t127 t128 t129 t130 t131 t132 t133 t134 _ A47.out).mono ?_
                    rintro e w61 ⟨rfl, hb⟩
                    have HS8_ := (hb.cell (World.block_lt_of_cell? _ _ (hHeld.2.2.2.2.2.2.2.2))).trans (hHeld.2.2.2.2.2.2.2.2)
                    refine ⟨_, rfl, ?_⟩
                    replace HO_6 := Aside0.mk (Kd.R_below (by (with_reducible repeat (first | apply Kd.R_alloc | apply Kd.R_drewN | apply Kd.R_drew)); exact HO_6.out) hb)
                    replace HO_7 := Aside0.mk (Kd.R_below (by (with_reducible repeat (first | apply Kd.R_alloc | apply Kd.R_drewN | apply Kd.R_drew)); exact HO_7.out) hb)
                    replace BK107 := bkb BK107 hb
                    replace BK108 := bkb BK108 hb
                    replace BK135 := bkb BK135 hb
                    replace HB := bls HB hb
                    (try clear hb)
                    (try clear hb2)
                    (try clear hk)
                    (try clear hi)
                    refine hK.out _ _ ⟨(blk_cell BK107.out 0).trans rfl, (blk_cell BK107.out 1).trans rfl, (blk_cell BK107.out 2).trans rfl, (blk_cell BK107.out 3).trans rfl, (blk_cell BK108.out 0).trans rfl, (blk_cell BK108.out 1).trans rfl, (blk_cell BK108.out 2).trans rfl, (blk_cell BK108.out 3).trans rfl, HS8_⟩ (fun hHeld => ?_)
                    clear hK K
                    refine nm 68 ?_
                    refine pu 15 53 HT_ ?_
                    refine pu 16 69 HT_ ?_
                    refine pu 17 70 HT_ ?_
                    exact norm_ (by simp only [putAll, Act.put, List.setIfInBounds_toArray, List.set_cons_zero, List.set_cons_succ]) (hCont (gb135) _ ⟨hHeld, (by (with_reducible repeat (first | apply Kd.R_alloc | apply Kd.R_drewN | apply Kd.R_drew)); exact HO_6.out), (by (with_reducible repeat (first | apply Kd.R_alloc | apply Kd.R_drewN | apply Kd.R_drew)); exact HO_7.out), (bks BK107).out, (bks BK108).out, (bks BK135).out, GW135.out, GE135.out, NB107_135.out, NB135_107.out, NB108_135.out, NB135_108.out, (blt HB).out⟩)
                  ·skip
                   refine box_step ?hg (N := 9) ?hd (cs := #[.int .i64 0, .int .u64 0, .int .u64 0, .string (⟨#[]⟩ : ByteArray)]) (t := 24) ?hr ?_; (case hd => rfl); (case hg => rfl); (case hr => first | (go_simp; done) | (go_simp; rfl))
                   intro gb135 hg w59 hbox hb
                   have HS8_ := (hb.cell (World.block_lt_of_cell? _ _ (hHeld.2.2.2.2.2.2.2.2))).trans (hHeld.2.2.2.2.2.2.2.2)
                   have BK135 := Aside0.mk hbox
                   have GW135 := bsz HB hg
                   have GE135 := bsz HB hg
                   have NB107_135 := bnl BK107 hg
                   have NB135_107 := bng BK107 hg
                   have NB108_135 := bnl BK108 hg
                   have NB135_108 := bng BK108 hg
                   replace HO_6 := Aside0.mk (Kd.R_below (by (with_reducible repeat (first | apply Kd.R_alloc | apply Kd.R_drewN | apply Kd.R_drew)); exact HO_6.out) hb)
                   replace HO_7 := Aside0.mk (Kd.R_below (by (with_reducible repeat (first | apply Kd.R_alloc | apply Kd.R_drewN | apply Kd.R_drew)); exact HO_7.out) hb)
                   replace BK107 := bkb BK107 hb
                   replace BK108 := bkb BK108 hb
                   replace HB := bls HB hb
                   clear hb hbox hg
                   refine hK.out _ _ ⟨(blk_cell BK107.out 0).trans rfl, (blk_cell BK107.out 1).trans rfl, (blk_cell BK107.out 2).trans rfl, (blk_cell BK107.out 3).trans rfl, (blk_cell BK108.out 0).trans rfl, (blk_cell BK108.out 1).trans rfl, (blk_cell BK108.out 2).trans rfl, (blk_cell BK108.out 3).trans rfl, HS8_⟩ (fun hHeld => ?_)
                   clear hK K
                   refine nm 9 ?_
                   refine on 13 67 HT_ (fun K hK => ?_)
                   refine goes_ Tryz.func18 (by kernel_rfl) rfl #[.int .i64 a0_0, .int .u64 a1_1, .int .u64 0] (by rfl) rfl rfl (by (try simp only [List.map_toArray, List.map_cons, List.map_nil]); first | done | rfl | (simp only [List.length_drop, List.length_take]; rfl)) ?_
                   with_reducible refine (r10_Made.calls a0_0 a1_1 0 t126 t127 t128 t129 _ A46.out).mono ?_
                   rintro e w60 ⟨rfl, hb⟩
                   have HS8_ := (hb.cell (World.block_lt_of_cell? _ _ (hHeld.2.2.2.2.2.2.2.2))).trans (hHeld.2.2.2.2.2.2.2.2)
                   refine ⟨_, rfl, ?_⟩
                   replace HO_6 := Aside0.mk (Kd.R_below (by (with_reducible repeat (first | apply Kd.R_alloc | apply Kd.R_drewN | apply Kd.R_drew)); exact HO_6.out) hb)
                   replace HO_7 := Aside0.mk (Kd.R_below (by (with_reducible repeat (first | apply Kd.R_alloc | apply Kd.R_drewN | apply Kd.R_drew)); exact HO_7.out) hb)
                   replace BK107 := bkb BK107 hb
                   replace BK108 := bkb BK108 hb
                   replace BK135 := bkb BK135 hb
                   replace HB := bls HB hb
                   (try clear hb)
                   (try clear hb2)
                   (try clear hk)
                   (try clear hi)
                   refine hK.out _ _ ⟨(blk_cell BK107.out 0).trans rfl, (blk_cell BK107.out 1).trans rfl, (blk_cell BK107.out 2).trans rfl, (blk_cell BK107.out 3).trans rfl, (blk_cell BK108.out 0).trans rfl, (blk_cell BK108.out 1).trans rfl, (blk_cell BK108.out 2).trans rfl, (blk_cell BK108.out 3).trans rfl, HS8_⟩ (fun hHeld => ?_)
                   clear hK K
                   refine nm 67 ?_
                   refine on 14 68 HT_ (fun K hK => ?_)
                   refine goes_ Tryz.func12 (by kernel_rfl) rfl #[.int .i64 (rd y115 x8_2), .agg #[.int .i64 t122, .int .u64 t123, .int .u64 t124, .string t125], .agg #[.int .i64 t126, .int .u64 t127, .int .u64 t128, .string t129]] (by rfl) rfl rfl (by (try simp only [List.map_toArray, List.map_cons, List.map_nil]); first | done | rfl | (simp only [List.length_drop, List.length_take]; rfl)) ?_
                   with_reducible refine (cx_Apply.calls (rd y115 x8_2) t122 t123 t124 t125 t126 t127 t128 t129 t130 t131 t132 t133 t134 _ A47.out).mono ?_
                   rintro e w61 ⟨rfl, hb⟩
                   have HS8_ := (hb.cell (World.block_lt_of_cell? _ _ (hHeld.2.2.2.2.2.2.2.2))).trans (hHeld.2.2.2.2.2.2.2.2)
                   refine ⟨_, rfl, ?_⟩
                   replace HO_6 := Aside0.mk (Kd.R_below (by (with_reducible repeat (first | apply Kd.R_alloc | apply Kd.R_drewN | apply Kd.R_drew)); exact HO_6.out) hb)
                   replace HO_7 := Aside0.mk (Kd.R_below (by (with_reducible repeat (first | apply Kd.R_alloc | apply Kd.R_drewN | apply Kd.R_drew)); exact HO_7.out) hb)
                   replace BK107 := bkb BK107 hb
                   replace BK108 := bkb BK108 hb
                   replace BK135 := bkb BK135 hb
                   replace HB := bls HB hb
                   (try clear hb)
                   (try clear hb2)
                   (try clear hk)
                   (try clear hi)
                   refine hK.out _ _ ⟨(blk_cell BK107.out 0).trans rfl, (blk_cell BK107.out 1).trans rfl, (blk_cell BK107.out 2).trans rfl, (blk_cell BK107.out 3).trans rfl, (blk_cell BK108.out 0).trans rfl, (blk_cell BK108.out 1).trans rfl, (blk_cell BK108.out 2).trans rfl, (blk_cell BK108.out 3).trans rfl, HS8_⟩ (fun hHeld => ?_)
                   clear hK K
                   refine nm 68 ?_
                   refine pu 15 53 HT_ ?_
                   refine pu 16 69 HT_ ?_
                   refine pu 17 70 HT_ ?_
                   exact norm_ (by simp only [putAll, Act.put, List.setIfInBounds_toArray, List.set_cons_zero, List.set_cons_succ]) (hCont (gb135) _ ⟨hHeld, (by (with_reducible repeat (first | apply Kd.R_alloc | apply Kd.R_drewN | apply Kd.R_drew)); exact HO_6.out), (by (with_reducible repeat (first | apply Kd.R_alloc | apply Kd.R_drewN | apply Kd.R_drew)); exact HO_7.out), (bks BK107).out, (bks BK108).out, (bks BK135).out, GW135.out, GE135.out, NB107_135.out, NB135_107.out, NB108_135.out, NB135_108.out, (blt HB).out⟩)
                 ·skip
                  refine box_step ?hg (N := 9) ?hd (cs := #[.int .i64 0, .int .u64 0, .int .u64 0, .string (⟨#[]⟩ : ByteArray)]) (t := 24) ?hr ?_; (case hd => rfl); (case hg => rfl); (case hr => first | (go_simp; done) | (go_simp; rfl))
                  intro gb135 hg w58 hbox hb
                  have HS8_ := (hb.cell (World.block_lt_of_cell? _ _ (hHeld.2.2.2.2.2.2.2.2))).trans (hHeld.2.2.2.2.2.2.2.2)
                  have BK135 := Aside0.mk hbox
                  have GW135 := bsz HB hg
                  have GE135 := bsz HB hg
                  have NB107_135 := bnl BK107 hg
                  have NB135_107 := bng BK107 hg
                  have NB108_135 := bnl BK108 hg
                  have NB135_108 := bng BK108 hg
                  replace HO_6 := Aside0.mk (Kd.R_below (by (with_reducible repeat (first | apply Kd.R_alloc | apply Kd.R_drewN | apply Kd.R_drew)); exact HO_6.out) hb)
                  replace HO_7 := Aside0.mk (Kd.R_below (by (with_reducible repeat (first | apply Kd.R_alloc | apply Kd.R_drewN | apply Kd.R_drew)); exact HO_7.out) hb)
                  replace BK107 := bkb BK107 hb
                  replace BK108 := bkb BK108 hb
                  replace HB := bls HB hb
                  clear hb hbox hg
                  refine hK.out _ _ ⟨(blk_cell BK107.out 0).trans rfl, (blk_cell BK107.out 1).trans rfl, (blk_cell BK107.out 2).trans rfl, (blk_cell BK107.out 3).trans rfl, (blk_cell BK108.out 0).trans rfl, (blk_cell BK108.out 1).trans rfl, (blk_cell BK108.out 2).trans rfl, (blk_cell BK108.out 3).trans rfl, HS8_⟩ (fun hHeld => ?_)
                  clear hK K
                  refine nm 9 ?_
                  refine on 8 62 HT_ (fun K hK => ?_)
                  refine goes_ Tryz.func18 (by kernel_rfl) rfl #[.int .i64 a0_0, .int .u64 a0_1, .int .u64 0] (by rfl) rfl rfl (by (try simp only [List.map_toArray, List.map_cons, List.map_nil]); first | done | rfl | (simp only [List.length_drop, List.length_take]; rfl)) ?_
                  with_reducible refine (r10_Made.calls a0_0 a0_1 0 t122 t123 t124 t125 _ A45.out).mono ?_
                  rintro e w59 ⟨rfl, hb⟩
                  have HS8_ := (hb.cell (World.block_lt_of_cell? _ _ (hHeld.2.2.2.2.2.2.2.2))).trans (hHeld.2.2.2.2.2.2.2.2)
                  refine ⟨_, rfl, ?_⟩
                  replace HO_6 := Aside0.mk (Kd.R_below (by (with_reducible repeat (first | apply Kd.R_alloc | apply Kd.R_drewN | apply Kd.R_drew)); exact HO_6.out) hb)
                  replace HO_7 := Aside0.mk (Kd.R_below (by (with_reducible repeat (first | apply Kd.R_alloc | apply Kd.R_drewN | apply Kd.R_drew)); exact HO_7.out) hb)
                  replace BK107 := bkb BK107 hb
                  replace BK108 := bkb BK108 hb
                  replace BK135 := bkb BK135 hb
                  replace HB := bls HB hb
                  (try clear hb)
                  (try clear hb2)
                  (try clear hk)
                  (try clear hi)
                  refine hK.out _ _ ⟨(blk_cell BK107.out 0).trans rfl, (blk_cell BK107.out 1).trans rfl, (blk_cell BK107.out 2).trans rfl, (blk_cell BK107.out 3).trans rfl, (blk_cell BK108.out 0).trans rfl, (blk_cell BK108.out 1).trans rfl, (blk_cell BK108.out 2).trans rfl, (blk_cell BK108.out 3).trans rfl, HS8_⟩ (fun hHeld => ?_)
                  clear hK K
                  refine nm 62 ?_
                  refine on 13 67 HT_ (fun K hK => ?_)
                  refine goes_ Tryz.func18 (by kernel_rfl) rfl #[.int .i64 a0_0, .int .u64 a1_1, .int .u64 0] (by rfl) rfl rfl (by (try simp only [List.map_toArray, List.map_cons, List.map_nil]); first | done | rfl | (simp only [List.length_drop, List.length_take]; rfl)) ?_
                  with_reducible refine (r10_Made.calls a0_0 a1_1 0 t126 t127 t128 t129 _ A46.out).mono ?_
                  rintro e w60 ⟨rfl, hb⟩
                  have HS8_ := (hb.cell (World.block_lt_of_cell? _ _ (hHeld.2.2.2.2.2.2.2.2))).trans (hHeld.2.2.2.2.2.2.2.2)
                  refine ⟨_, rfl, ?_⟩
                  replace HO_6 := Aside0.mk (Kd.R_below (by (with_reducible repeat (first | apply Kd.R_alloc | apply Kd.R_drewN | apply Kd.R_drew)); exact HO_6.out) hb)
                  replace HO_7 := Aside0.mk (Kd.R_below (by (with_reducible repeat (first | apply Kd.R_alloc | apply Kd.R_drewN | apply Kd.R_drew)); exact HO_7.out) hb)
                  replace BK107 := bkb BK107 hb
                  replace BK108 := bkb BK108 hb
                  replace BK135 := bkb BK135 hb
                  replace HB := bls HB hb
                  (try clear hb)
                  (try clear hb2)
                  (try clear hk)
                  (try clear hi)
                  refine hK.out _ _ ⟨(blk_cell BK107.out 0).trans rfl, (blk_cell BK107.out 1).trans rfl, (blk_cell BK107.out 2).trans rfl, (blk_cell BK107.out 3).trans rfl, (blk_cell BK108.out 0).trans rfl, (blk_cell BK108.out 1).trans rfl, (blk_cell BK108.out 2).trans rfl, (blk_cell BK108.out 3).trans rfl, HS8_⟩ (fun hHeld => ?_)
                  clear hK K
                  refine nm 67 ?_
                  refine on 14 68 HT_ (fun K hK => ?_)
                  refine goes_ Tryz.func12 (by kernel_rfl) rfl #[.int .i64 (rd y115 x8_2), .agg #[.int .i64 t122, .int .u64 t123, .int .u64 t124, .string t125], .agg #[.int .i64 t126, .int .u64 t127, .int .u64 t128, .string t129]] (by rfl) rfl rfl (by (try simp only [List.map_toArray, List.map_cons, List.map_nil]); first | done | rfl | (simp only [List.length_drop, List.length_take]; rfl)) ?_
                  with_reducible refine (cx_Apply.calls (rd y115 x8_2) t122 t123 t124 t125 t126 t127 t128 t129 t130 t131 t132 t133 t134 _ A47.out).mono ?_
                  rintro e w61 ⟨rfl, hb⟩
                  have HS8_ := (hb.cell (World.block_lt_of_cell? _ _ (hHeld.2.2.2.2.2.2.2.2))).trans (hHeld.2.2.2.2.2.2.2.2)
                  refine ⟨_, rfl, ?_⟩
                  replace HO_6 := Aside0.mk (Kd.R_below (by (with_reducible repeat (first | apply Kd.R_alloc | apply Kd.R_drewN | apply Kd.R_drew)); exact HO_6.out) hb)
                  replace HO_7 := Aside0.mk (Kd.R_below (by (with_reducible repeat (first | apply Kd.R_alloc | apply Kd.R_drewN | apply Kd.R_drew)); exact HO_7.out) hb)
                  replace BK107 := bkb BK107 hb
                  replace BK108 := bkb BK108 hb
                  replace BK135 := bkb BK135 hb
                  replace HB := bls HB hb
                  (try clear hb)
                  (try clear hb2)
                  (try clear hk)
                  (try clear hi)
                  refine hK.out _ _ ⟨(blk_cell BK107.out 0).trans rfl, (blk_cell BK107.out 1).trans rfl, (blk_cell BK107.out 2).trans rfl, (blk_cell BK107.out 3).trans rfl, (blk_cell BK108.out 0).trans rfl, (blk_cell BK108.out 1).trans rfl, (blk_cell BK108.out 2).trans rfl, (blk_cell BK108.out 3).trans rfl, HS8_⟩ (fun hHeld => ?_)
                  clear hK K
                  refine nm 68 ?_
                  refine pu 15 53 HT_ ?_
                  refine pu 16 69 HT_ ?_
                  refine pu 17 70 HT_ ?_
                  exact norm_ (by simp only [putAll, Act.put, List.setIfInBounds_toArray, List.set_cons_zero, List.set_cons_succ]) (hCont (gb135) _ ⟨hHeld, (by (with_reducible repeat (first | apply Kd.R_alloc | apply Kd.R_drewN | apply Kd.R_drew)); exact HO_6.out), (by (with_reducible repeat (first | apply Kd.R_alloc | apply Kd.R_drewN | apply Kd.R_drew)); exact HO_7.out), (bks BK107).out, (bks BK108).out, (bks BK135).out, GW135.out, GE135.out, NB107_135.out, NB135_107.out, NB108_135.out, NB135_108.out, (blt HB).out⟩)
                rintro gb135 w62 ⟨hS_, h0_, h1_, h2_, h3_, h4_, h5_, h6_, h7_, h8_, h9_, h10_, h11_⟩
                have n0_ : Aside0 (Kd.R (Kd.int .i64) 3 w62 w.heap.size (fun k_ => some k_ ≠ (v119 : Value).ownBlock) (.slice (some ad121) y115.length co57) y115) := ⟨h0_⟩
                have n1_ : Aside0 (Kd.R (Kd.int .i64) 3 w62 w.heap.size (fun k_ => some k_ ≠ (.slice (some ad121) y115.length co57 : Value).ownBlock) v119 y118) := ⟨h1_⟩
                have n2_ : Aside0 (w62.heap[gb107]? = some (.cells #[.int .i64 a0_0, .int .u64 a0_1, .int .u64 a0_2, .string a0_3] 24 (0, 0))) := ⟨h2_⟩
                have n3_ : Aside0 (w62.heap[gb108]? = some (.cells #[.int .i64 a1_0, .int .u64 a1_1, .int .u64 a1_2, .string a1_3] 24 (0, 0))) := ⟨h3_⟩
                have n4_ : Aside0 (w62.heap[gb135]? = some (.cells #[.int .i64 0, .int .u64 0, .int .u64 0, .string (⟨#[]⟩ : ByteArray)] 24 (0, 0))) := ⟨h4_⟩
                have n5_ : Aside0 (w.heap.size ≤ gb135) := ⟨h5_⟩
                have n6_ : Aside0 (w.heap.size ≤ gb135) := ⟨h6_⟩
                have n7_ : Aside0 (gb107 ≠ gb135) := ⟨h7_⟩
                have n8_ : Aside0 (gb135 ≠ gb107) := ⟨h8_⟩
                have n9_ : Aside0 (gb108 ≠ gb135) := ⟨h9_⟩
                have n10_ : Aside0 (gb135 ≠ gb108) := ⟨h10_⟩
                have n11_ : Aside0 (Below w.heap.size w w62) := ⟨h11_⟩
                clear HO_6
                clear HO_7
                clear BK107
                clear BK108
                clear HB
                clear h0_ h1_ h2_ h3_ h4_ h5_ h6_ h7_ h8_ h9_ h10_ h11_
                have HO_6 := n0_
                have HO_7 := n1_
                have BK107 := n2_
                have BK108 := n3_
                have BK135 := n4_
                have GW135 := n5_
                have GE135 := n6_
                have NB107_135 := n7_
                have NB135_107 := n8_
                have NB108_135 := n9_
                have NB135_108 := n10_
                have HB := n11_
                clear n0_ n1_ n2_ n3_ n4_ n5_ n6_ n7_ n8_ n9_ n10_ n11_
                have hHeld : w62.cell? ⟨gb107, 0, none⟩ = some (.int .i64 a0_0) ∧ w62.cell? ⟨gb107, 1, none⟩ = some (.int .u64 a0_1) ∧ w62.cell? ⟨gb107, 2, none⟩ = some (.int .u64 a0_2) ∧ w62.cell? ⟨gb107, 3, none⟩ = some (.string a0_3) ∧ w62.cell? ⟨gb108, 0, none⟩ = some (.int .i64 a1_0) ∧ w62.cell? ⟨gb108, 1, none⟩ = some (.int .u64 a1_1) ∧ w62.cell? ⟨gb108, 2, none⟩ = some (.int .u64 a1_2) ∧ w62.cell? ⟨gb108, 3, none⟩ = some (.string a1_3) ∧ w62.cell? (ad121.add (x8_2).toNat) = some (.int .i64 (rd y115 x8_2)) := hS_
                refine norm_ (a' := ?_) ?_ ?_
                rotate_left
                ·simp only [putAll, Act.put, List.setIfInBounds_toArray, List.set_cons_zero, List.set_cons_succ]
                 rfl
                refine one_ (i := 19) (N := none) #[true, true, true, true, true, true, true, true, true, true, true, true, true, true, true, true, true, true, true, true, false] rfl rfl (one_of HT_.out (by kernel_rfl)) (by decide) (fun K hK => ?_)
                have hs63 : w62.cell? ⟨gb135, 0, none⟩ = some (.int .i64 0) := (blk_cell BK135.out 0).trans rfl
                have hfs63 := blk_frozen BK135.out 0
                have hns63_0 := NB107_135.out
                have hns63_1 := NB108_135.out
                have hms63_0 := NB135_107.out
                have hms63_1 := NB135_108.out
                have hs64 : w62.cell? ⟨gb135, 1, none⟩ = some (.int .u64 0) := (blk_cell BK135.out 1).trans rfl
                have hfs64 := blk_frozen BK135.out 1
                have hns64_0 := NB107_135.out
                have hns64_1 := NB108_135.out
                have hms64_0 := NB135_107.out
                have hms64_1 := NB135_108.out
                have hs65 : w62.cell? ⟨gb135, 2, none⟩ = some (.int .u64 0) := (blk_cell BK135.out 2).trans rfl
                have hfs65 := blk_frozen BK135.out 2
                have hns65_0 := NB107_135.out
                have hns65_1 := NB108_135.out
                have hms65_0 := NB135_107.out
                have hms65_1 := NB135_108.out
                have hs66 : w62.cell? ⟨gb135, 3, none⟩ = some (.string (⟨#[]⟩ : ByteArray)) := (blk_cell BK135.out 3).trans rfl
                have hfs66 := blk_frozen BK135.out 3
                have hns66_0 := NB107_135.out
                have hns66_1 := NB108_135.out
                have hms66_0 := NB135_107.out
                have hms66_1 := NB135_108.out
                refine skip_ (w1 := ?_) (by rfl) rfl ?_ ?_
                rotate_left
                ·go_simp
                 rfl
                refine hK.out _ _ ⟨((cell_far (p := ⟨gb135, _, none⟩) NB107_135.out _).trans (((cell_far (p := ⟨gb135, _, none⟩) NB107_135.out _).trans (((cell_far (p := ⟨gb135, _, none⟩) NB107_135.out _).trans (((cell_far (p := ⟨gb135, _, none⟩) NB107_135.out _).trans (hHeld.1)))))))), ((cell_far (p := ⟨gb135, _, none⟩) NB107_135.out _).trans (((cell_far (p := ⟨gb135, _, none⟩) NB107_135.out _).trans (((cell_far (p := ⟨gb135, _, none⟩) NB107_135.out _).trans (((cell_far (p := ⟨gb135, _, none⟩) NB107_135.out _).trans (hHeld.2.1)))))))), ((cell_far (p := ⟨gb135, _, none⟩) NB107_135.out _).trans (((cell_far (p := ⟨gb135, _, none⟩) NB107_135.out _).trans (((cell_far (p := ⟨gb135, _, none⟩) NB107_135.out _).trans (((cell_far (p := ⟨gb135, _, none⟩) NB107_135.out _).trans (hHeld.2.2.1)))))))), ((cell_far (p := ⟨gb135, _, none⟩) NB107_135.out _).trans (((cell_far (p := ⟨gb135, _, none⟩) NB107_135.out _).trans (((cell_far (p := ⟨gb135, _, none⟩) NB107_135.out _).trans (((cell_far (p := ⟨gb135, _, none⟩) NB107_135.out _).trans (hHeld.2.2.2.1)))))))), ((cell_far (p := ⟨gb135, _, none⟩) NB108_135.out _).trans (((cell_far (p := ⟨gb135, _, none⟩) NB108_135.out _).trans (((cell_far (p := ⟨gb135, _, none⟩) NB108_135.out _).trans (((cell_far (p := ⟨gb135, _, none⟩) NB108_135.out _).trans (hHeld.2.2.2.2.1)))))))), ((cell_far (p := ⟨gb135, _, none⟩) NB108_135.out _).trans (((cell_far (p := ⟨gb135, _, none⟩) NB108_135.out _).trans (((cell_far (p := ⟨gb135, _, none⟩) NB108_135.out _).trans (((cell_far (p := ⟨gb135, _, none⟩) NB108_135.out _).trans (hHeld.2.2.2.2.2.1)))))))), ((cell_far (p := ⟨gb135, _, none⟩) NB108_135.out _).trans (((cell_far (p := ⟨gb135, _, none⟩) NB108_135.out _).trans (((cell_far (p := ⟨gb135, _, none⟩) NB108_135.out _).trans (((cell_far (p := ⟨gb135, _, none⟩) NB108_135.out _).trans (hHeld.2.2.2.2.2.2.1)))))))), ((cell_far (p := ⟨gb135, _, none⟩) NB108_135.out _).trans (((cell_far (p := ⟨gb135, _, none⟩) NB108_135.out _).trans (((cell_far (p := ⟨gb135, _, none⟩) NB108_135.out _).trans (((cell_far (p := ⟨gb135, _, none⟩) NB108_135.out _).trans (hHeld.2.2.2.2.2.2.2.1)))))))), ((cell_far (p := ⟨gb135, _, none⟩) (by first | exact Kd.own_blk (Kd.R_ne HO_6.out BK135.out (by decide)) | (rw [add_block]; exact Kd.own_blk (Kd.R_ne HO_6.out BK135.out (by decide))) | (show (Addr.add _ _).block ≠ _; rw [add_block]; exact Kd.own_blk (Kd.R_ne HO_6.out BK135.out (by decide))) | (dsimp only; exact Kd.own_blk (Kd.R_ne HO_6.out BK135.out (by decide)))) _).trans (((cell_far (p := ⟨gb135, _, none⟩) (by first | exact Kd.own_blk (Kd.R_ne HO_6.out BK135.out (by decide)) | (rw [add_block]; exact Kd.own_blk (Kd.R_ne HO_6.out BK135.out (by decide))) | (show (Addr.add _ _).block ≠ _; rw [add_block]; exact Kd.own_blk (Kd.R_ne HO_6.out BK135.out (by decide))) | (dsimp only; exact Kd.own_blk (Kd.R_ne HO_6.out BK135.out (by decide)))) _).trans (((cell_far (p := ⟨gb135, _, none⟩) (by first | exact Kd.own_blk (Kd.R_ne HO_6.out BK135.out (by decide)) | (rw [add_block]; exact Kd.own_blk (Kd.R_ne HO_6.out BK135.out (by decide))) | (show (Addr.add _ _).block ≠ _; rw [add_block]; exact Kd.own_blk (Kd.R_ne HO_6.out BK135.out (by decide))) | (dsimp only; exact Kd.own_blk (Kd.R_ne HO_6.out BK135.out (by decide)))) _).trans (((cell_far (p := ⟨gb135, _, none⟩) (by first | exact Kd.own_blk (Kd.R_ne HO_6.out BK135.out (by decide)) | (rw [add_block]; exact Kd.own_blk (Kd.R_ne HO_6.out BK135.out (by decide))) | (show (Addr.add _ _).block ≠ _; rw [add_block]; exact Kd.own_blk (Kd.R_ne HO_6.out BK135.out (by decide))) | (dsimp only; exact Kd.own_blk (Kd.R_ne HO_6.out BK135.out (by decide)))) _).trans (hHeld.2.2.2.2.2.2.2.2))))))))⟩ (fun hHeld => ?_)
                clear hK K
                refine pu 20 10 HT_ ?_
                refine done_ (done_of HT_.out (by kernel_rfl)) ?_
                try go_wp2
                have n0_ : Aside0 (Kd.R (Kd.int .i64) 3 ((((w62.setCell ⟨gb135, 0, none⟩ (.int .i64 t130)).setCell ⟨gb135, 1, none⟩ (.int .u64 t131)).setCell ⟨gb135, 2, none⟩ (.int .u64 t132)).setCell ⟨gb135, 3, none⟩ (.string t133)) w.heap.size (fun k_ => some k_ ≠ (v119 : Value).ownBlock) (.slice (some ad121) y115.length co57) y115) := ⟨by (with_reducible repeat (first | apply Kd.R_alloc | apply Kd.R_drewN | apply Kd.R_drew)); exact Kd.R_mono (Kd.R_far (p := ⟨gb135, 3, none⟩) (Kd.R_far (p := ⟨gb135, 2, none⟩) (Kd.R_far (p := ⟨gb135, 1, none⟩) (Kd.R_far (p := ⟨gb135, 0, none⟩) (Kd.R_types HO_6.out BK135.out (by decide)) (fun _ hk => hk.2) (.int .i64 t130)) (fun _ hk => hk.2) (.int .u64 t131)) (fun _ hk => hk.2) (.int .u64 t132)) (fun _ hk => hk.2) (.string t133)) (fun _ hk => hk.1)⟩
                have n1_ : Aside0 (Kd.R (Kd.int .i64) 3 ((((w62.setCell ⟨gb135, 0, none⟩ (.int .i64 t130)).setCell ⟨gb135, 1, none⟩ (.int .u64 t131)).setCell ⟨gb135, 2, none⟩ (.int .u64 t132)).setCell ⟨gb135, 3, none⟩ (.string t133)) w.heap.size (fun k_ => some k_ ≠ (.slice (some ad121) y115.length co57 : Value).ownBlock) v119 y118) := ⟨by (with_reducible repeat (first | apply Kd.R_alloc | apply Kd.R_drewN | apply Kd.R_drew)); exact Kd.R_mono (Kd.R_far (p := ⟨gb135, 3, none⟩) (Kd.R_far (p := ⟨gb135, 2, none⟩) (Kd.R_far (p := ⟨gb135, 1, none⟩) (Kd.R_far (p := ⟨gb135, 0, none⟩) (Kd.R_types HO_7.out BK135.out (by decide)) (fun _ hk => hk.2) (.int .i64 t130)) (fun _ hk => hk.2) (.int .u64 t131)) (fun _ hk => hk.2) (.int .u64 t132)) (fun _ hk => hk.2) (.string t133)) (fun _ hk => hk.1)⟩
                have n2_ : Aside0 (((((w62.setCell ⟨gb135, 0, none⟩ (.int .i64 t130)).setCell ⟨gb135, 1, none⟩ (.int .u64 t131)).setCell ⟨gb135, 2, none⟩ (.int .u64 t132)).setCell ⟨gb135, 3, none⟩ (.string t133)).heap[gb107]? = some (.cells #[.int .i64 a0_0, .int .u64 a0_1, .int .u64 a0_2, .string a0_3] 24 (0, 0))) := bkf BK107
                have n3_ : Aside0 (((((w62.setCell ⟨gb135, 0, none⟩ (.int .i64 t130)).setCell ⟨gb135, 1, none⟩ (.int .u64 t131)).setCell ⟨gb135, 2, none⟩ (.int .u64 t132)).setCell ⟨gb135, 3, none⟩ (.string t133)).heap[gb108]? = some (.cells #[.int .i64 a1_0, .int .u64 a1_1, .int .u64 a1_2, .string a1_3] 24 (0, 0))) := bkf BK108
                have n4_ : Aside0 (((((w62.setCell ⟨gb135, 0, none⟩ (.int .i64 t130)).setCell ⟨gb135, 1, none⟩ (.int .u64 t131)).setCell ⟨gb135, 2, none⟩ (.int .u64 t132)).setCell ⟨gb135, 3, none⟩ (.string t133)).heap[gb135]? = some (.cells #[.int .i64 t130, .int .u64 t131, .int .u64 t132, .string t133] 24 (0, 0))) := ⟨by (with_reducible repeat (first | refine blk_drewN ?_ _ | refine blk_drew ?_ | refine blk_alloc ?_ _)); apply bp4; (with_reducible repeat (first | refine blk_drewN ?_ _ | refine blk_drew ?_ | refine blk_alloc ?_ _)); exact BK135.out⟩
                have n5_ : Aside0 (Below w.heap.size w ((((w62.setCell ⟨gb135, 0, none⟩ (.int .i64 t130)).setCell ⟨gb135, 1, none⟩ (.int .u64 t131)).setCell ⟨gb135, 2, none⟩ (.int .u64 t132)).setCell ⟨gb135, 3, none⟩ (.string t133))) := blt HB
                (try clear HO_6)
                (try clear HO_7)
                (try clear BK107)
                (try clear BK108)
                (try clear BK135)
                (try clear HB)
                generalize ((((w62.setCell ⟨gb135, 0, none⟩ (.int .i64 t130)).setCell ⟨gb135, 1, none⟩ (.int .u64 t131)).setCell ⟨gb135, 2, none⟩ (.int .u64 t132)).setCell ⟨gb135, 3, none⟩ (.string t133)) = w67 at n0_ n1_ n2_ n3_ n4_ n5_ ⊢
                have HO_6 := n0_
                have HO_7 := n1_
                have BK107 := n2_
                have BK108 := n3_
                have BK135 := n4_
                have HB := n5_
                clear n0_ n1_ n2_ n3_ n4_ n5_
                replace HO_6 := Aside0.mk (Kd.R_drew HO_6.out)
                replace HO_7 := Aside0.mk (Kd.R_drew HO_7.out)
                replace BK107 := Aside0.mk (blk_drew BK107.out)
                replace BK108 := Aside0.mk (blk_drew BK108.out)
                replace BK135 := Aside0.mk (blk_drew BK135.out)
                replace HB := Aside0.mk (below_drew1 HB.out)
                obtain ⟨Ao69, co69, eo69⟩ := Kd.R_slice HO_7.out
                (first | subst eo69 | (injection eo69 with f1_ f2_ f3_; have f4_ := f1_.symm; have f5_ := f3_.symm; clear f1_ f2_ f3_; subst f4_; subst f5_))
                have p136 : 0 ≤ (x8_2 : Int) := of_decide_eq_true (by first | (with_reducible assumption) | assumption)
                have q136 : x8_2 < (y118.length : Int) := of_decide_eq_true (by first | (with_reducible assumption) | assumption)
                obtain ⟨ad136, e136, hx136_0⟩ := Kd.at_int (Kd.R_reads' HO_7.out).2.2 x8_2 p136 q136
                cases e136
                replace p136 := eq_true p136
                replace q136 := eq_true q136
                refine start_ (n := 34) (S := fun w' => w'.cell? ⟨gb135, 0, none⟩ = some (.int .i64 t130) ∧ w'.cell? ⟨gb135, 1, none⟩ = some (.int .u64 t131) ∧ w'.cell? ⟨gb135, 2, none⟩ = some (.int .u64 t132) ∧ w'.cell? ⟨gb135, 3, none⟩ = some (.string t133) ∧ w'.cell? ⟨gb107, 0, none⟩ = some (.int .i64 a0_0) ∧ w'.cell? ⟨gb107, 1, none⟩ = some (.int .u64 a0_1) ∧ w'.cell? ⟨gb107, 2, none⟩ = some (.int .u64 a0_2) ∧ w'.cell? ⟨gb107, 3, none⟩ = some (.string a0_3) ∧ w'.cell? ⟨gb108, 0, none⟩ = some (.int .i64 a1_0) ∧ w'.cell? ⟨gb108, 1, none⟩ = some (.int .u64 a1_1) ∧ w'.cell? ⟨gb108, 2, none⟩ = some (.int .u64 a1_2) ∧ w'.cell? ⟨gb108, 3, none⟩ = some (.string a1_3) ∧ w'.cell? (ad136.add (x8_2).toNat) = some (.int .i64 (rd y118 x8_2))) (ds := []) #[false, false, false, false, false, false, false, false, false, false, false, false, false, false, false, false, false, false, false, false, false, false, false, false, false, false, false, false, false, false, false, false, false, false] (by kernel_rfl) rfl rfl ⟨(blk_cell BK135.out 0).trans rfl, (blk_cell BK135.out 1).trans rfl, (blk_cell BK135.out 2).trans rfl, (blk_cell BK135.out 3).trans rfl, (blk_cell BK107.out 0).trans rfl, (blk_cell BK107.out 1).trans rfl, (blk_cell BK107.out 2).trans rfl, (blk_cell BK107.out 3).trans rfl, (blk_cell BK108.out 0).trans rfl, (blk_cell BK108.out 1).trans rfl, (blk_cell BK108.out 2).trans rfl, (blk_cell BK108.out 3).trans rfl, hx136_0⟩ (fun hHeld => ?_); refine with_tabW l10_ComplexesReal.tab14 l10_ComplexesReal.bits14 (fun HT_ HW_ => ?_)
                generalize w67.drew = w68 at HO_6 HO_7 BK107 BK108 BK135 HB hx136_0 hHeld ⊢
                refine pu 0 71 HT_ ?_
                refine pu 1 72 HT_ ?_
                refine pu 2 73 HT_ ?_
                refine pu 3 74 HT_ ?_
                refine pu 4 75 HT_ ?_
                refine pu 6 77 HT_ ?_
                refine pu 7 78 HT_ ?_
                refine pu 8 79 HT_ ?_
                refine pu 10 81 HT_ ?_
                refine pu 11 82 HT_ ?_
                refine pu 13 84 HT_ ?_
                refine tk 5 76 HT_ HW_ hHeld ?_
                refine tk 9 80 HT_ HW_ hHeld ?_
                refine tk 12 83 HT_ HW_ hHeld ?_
                refine tk 14 85 HT_ HW_ hHeld ?_
                refine on 15 86 HT_ (fun K hK => ?_)
                refine goes_ Tryz.func20 (by kernel_rfl) rfl #[.int .i64 (rd y118 x8_2), .int .i64 t111, .int .u64 a0_1, .int .u64 a1_1] (by rfl) rfl rfl (by (try simp only [List.map_toArray, List.map_cons, List.map_nil]); first | done | rfl | (simp only [List.length_drop, List.length_take]; rfl)) ?_
                with_reducible refine (r8_Apply.calls (rd y118 x8_2) t111 a0_1 a1_1 t137 _ A50.out).mono ?_
                rintro e w70 ⟨rfl, hb⟩
                have HS12_ := (hb.cell (World.block_lt_of_cell? _ _ (hHeld.2.2.2.2.2.2.2.2.2.2.2.2))).trans (hHeld.2.2.2.2.2.2.2.2.2.2.2.2)
                refine ⟨_, rfl, ?_⟩
                replace HO_6 := Aside0.mk (Kd.R_below (by (with_reducible repeat (first | apply Kd.R_alloc | apply Kd.R_drewN | apply Kd.R_drew)); exact HO_6.out) hb)
                replace HO_7 := Aside0.mk (Kd.R_below (by (with_reducible repeat (first | apply Kd.R_alloc | apply Kd.R_drewN | apply Kd.R_drew)); exact HO_7.out) hb)
                replace BK107 := bkb BK107 hb
                replace BK108 := bkb BK108 hb
                replace BK135 := bkb BK135 hb
                replace HB := bls HB hb
                (try clear hb)
                (try clear hb2)
                (try clear hk)
                (try clear hi)
                refine hK.out _ _ ⟨(blk_cell BK135.out 0).trans rfl, (blk_cell BK135.out 1).trans rfl, (blk_cell BK135.out 2).trans rfl, (blk_cell BK135.out 3).trans rfl, (blk_cell BK107.out 0).trans rfl, (blk_cell BK107.out 1).trans rfl, (blk_cell BK107.out 2).trans rfl, (blk_cell BK107.out 3).trans rfl, (blk_cell BK108.out 0).trans rfl, (blk_cell BK108.out 1).trans rfl, (blk_cell BK108.out 2).trans rfl, (blk_cell BK108.out 3).trans rfl, HS12_⟩ (fun hHeld => ?_)
                clear hK K
                refine nm 86 ?_
                refine on 16 87 HT_ (fun K hK => ?_)
                refine goes_ Tryz.func19 (by kernel_rfl) rfl #[.int .i64 t111, .int .u64 t131, .int .u64 t137] (by rfl) rfl rfl (by (try simp only [List.map_toArray, List.map_cons, List.map_nil]); first | done | rfl | (simp only [List.length_drop, List.length_take]; rfl)) ?_
                with_reducible refine (l10_equal.calls t111 t131 t137 true _ A51.out).mono ?_
                rintro e w71 ⟨rfl, hb⟩
                have HS12_ := (hb.cell (World.block_lt_of_cell? _ _ (hHeld.2.2.2.2.2.2.2.2.2.2.2.2))).trans (hHeld.2.2.2.2.2.2.2.2.2.2.2.2)
                refine ⟨_, rfl, ?_⟩
                replace HO_6 := Aside0.mk (Kd.R_below (by (with_reducible repeat (first | apply Kd.R_alloc | apply Kd.R_drewN | apply Kd.R_drew)); exact HO_6.out) hb)
                replace HO_7 := Aside0.mk (Kd.R_below (by (with_reducible repeat (first | apply Kd.R_alloc | apply Kd.R_drewN | apply Kd.R_drew)); exact HO_7.out) hb)
                replace BK107 := bkb BK107 hb
                replace BK108 := bkb BK108 hb
                replace BK135 := bkb BK135 hb
                replace HB := bls HB hb
                (try clear hb)
                (try clear hb2)
                (try clear hk)
                (try clear hi)
                refine hK.out _ _ ⟨(blk_cell BK135.out 0).trans rfl, (blk_cell BK135.out 1).trans rfl, (blk_cell BK135.out 2).trans rfl, (blk_cell BK135.out 3).trans rfl, (blk_cell BK107.out 0).trans rfl, (blk_cell BK107.out 1).trans rfl, (blk_cell BK107.out 2).trans rfl, (blk_cell BK107.out 3).trans rfl, (blk_cell BK108.out 0).trans rfl, (blk_cell BK108.out 1).trans rfl, (blk_cell BK108.out 2).trans rfl, (blk_cell BK108.out 3).trans rfl, HS12_⟩ (fun hHeld => ?_)
                clear hK K
                refine nm 87 ?_
                refine pu 17 88 HT_ ?_
                refine pu 18 89 HT_ ?_
                refine pu 19 90 HT_ ?_
                refine pu 20 91 HT_ ?_
                refine pu 22 93 HT_ ?_
                refine tk 21 92 HT_ HW_ hHeld ?_
                refine tk 23 94 HT_ HW_ hHeld ?_
                refine pu 24 95 HT_ ?_
                refine pu 25 96 HT_ ?_
                refine pu 26 97 HT_ ?_
                refine pu 27 98 HT_ ?_
                refine pu 28 99 HT_ ?_
                refine tk 29 100 HT_ HW_ hHeld ?_
                refine on 30 101 HT_ (fun K hK => ?_)
                refine goes_ Tryz.func21 (by kernel_rfl) rfl #[.int .i64 t111, .int .u64 t132] (by rfl) rfl rfl (by (try simp only [List.map_toArray, List.map_cons, List.map_nil]); first | done | rfl | (simp only [List.length_drop, List.length_take]; rfl)) ?_
                with_reducible refine (r8_Parts.calls t111 t132 t139 t140 t141 t142 _ A54.out).mono ?_
                rintro e w72 ⟨rfl, hb⟩
                have HS12_ := (hb.cell (World.block_lt_of_cell? _ _ (hHeld.2.2.2.2.2.2.2.2.2.2.2.2))).trans (hHeld.2.2.2.2.2.2.2.2.2.2.2.2)
                refine ⟨_, rfl, ?_⟩
                replace HO_6 := Aside0.mk (Kd.R_below (by (with_reducible repeat (first | apply Kd.R_alloc | apply Kd.R_drewN | apply Kd.R_drew)); exact HO_6.out) hb)
                replace HO_7 := Aside0.mk (Kd.R_below (by (with_reducible repeat (first | apply Kd.R_alloc | apply Kd.R_drewN | apply Kd.R_drew)); exact HO_7.out) hb)
                replace BK107 := bkb BK107 hb
                replace BK108 := bkb BK108 hb
                replace BK135 := bkb BK135 hb
                replace HB := bls HB hb
                (try clear hb)
                (try clear hb2)
                (try clear hk)
                (try clear hi)
                refine hK.out _ _ ⟨(blk_cell BK135.out 0).trans rfl, (blk_cell BK135.out 1).trans rfl, (blk_cell BK135.out 2).trans rfl, (blk_cell BK135.out 3).trans rfl, (blk_cell BK107.out 0).trans rfl, (blk_cell BK107.out 1).trans rfl, (blk_cell BK107.out 2).trans rfl, (blk_cell BK107.out 3).trans rfl, (blk_cell BK108.out 0).trans rfl, (blk_cell BK108.out 1).trans rfl, (blk_cell BK108.out 2).trans rfl, (blk_cell BK108.out 3).trans rfl, HS12_⟩ (fun hHeld => ?_)
                clear hK K
                refine nm 101 ?_
                refine pu 31 102 HT_ ?_
                refine pu 32 103 HT_ ?_
                refine pu 33 104 HT_ ?_
                refine done_ (done_of HT_.out (by kernel_rfl)) ?_
                try go_wp2
                go_roundg k2
                case measure => have := HJ7.out; have := HK2.out; omega
                case rel => exact ⟨(wrap64 (x8_2 + 1)), (by first | rfl | (simp; done) | (simp [*]; done)), H', ⟨by have := HJ7.out; have := HK2.out; omega⟩, ⟨by (with_reducible repeat (first | apply Kd.R_alloc | apply Kd.R_drewN | apply Kd.R_drew)); exact HO_6.out⟩, ⟨by (with_reducible repeat (first | apply Kd.R_alloc | apply Kd.R_drewN | apply Kd.R_drew)); exact HO_7.out⟩, bks BK107, bks BK108, blt HB⟩
               ·rw [if_neg c55] at H
                have c55b0 : (t139 == 0) = false := beq_eq_false_iff_ne.mpr c55
                have c55b1 : (t139 != 0) = true := bne_iff_ne.mpr c55
                exact absurd H (by first | decide | (cases k2 <;> simp [l10_ComplexesReal.j0, l10_ComplexesReal.l0]))
              ·rw [if_neg c53] at H
               have c53b0 : (t130 == a0_0) = false := beq_eq_false_iff_ne.mpr c53
               have c53b1 : (t130 != a0_0) = true := bne_iff_ne.mpr c53
               exact absurd H (by first | decide | (cases k2 <;> simp [l10_ComplexesReal.j0, l10_ComplexesReal.l0]))
             ·replace c52 := Bool.eq_false_iff.mpr c52
              subst c52
              rw [if_neg (show ¬ (false = true) by decide)] at H
              exact absurd H (by first | decide | (cases k2 <;> simp [l10_ComplexesReal.j0, l10_ComplexesReal.l0]))
            ·rw [if_neg c49] at H
             exact absurd H (by simp)
           ·rw [if_neg c48] at H
            have c48b0 : (t134 == 0) = false := beq_eq_false_iff_ne.mpr c48
            have c48b1 : (t134 != 0) = true := bne_iff_ne.mpr c48
            exact absurd H (by first | decide | (cases k2 <;> simp [l10_ComplexesReal.j0, l10_ComplexesReal.l0]))
          ·rw [if_neg c44] at H
           exact absurd H (by simp)
         ·rw [if_neg c43] at H
          exact absurd H (by simp)
        ·rw [if_neg c42] at H
         have c42b0 : decide (x8_2 < 3) = false := decide_eq_false c42
         clear c42
         replace H := Option.bind_eq_some_iff.mp H
         obtain ⟨⟨t143, t144, t145, t146, t147⟩, A73, H⟩ := H
         try dsimp only at H
         replace A73 := Aside0.mk A73
         replace H := Option.bind_eq_some_iff.mp H
         obtain ⟨⟨t149, t150, t151, t152, t153⟩, A74, H⟩ := H
         try dsimp only at H
         replace A74 := Aside0.mk A74
         replace H := Option.bind_eq_some_iff.mp H
         obtain ⟨⟨t155, t156, t157, t158, t159⟩, A75, H⟩ := H
         try dsimp only at H
         replace A75 := Aside0.mk A75
         replace H := Option.bind_eq_some_iff.mp H
         obtain ⟨⟨t161, t162, t163, t164, t165⟩, A76, H⟩ := H
         try dsimp only at H
         replace A76 := Aside0.mk A76
         by_cases c77 : t147 = 0
         ·rw [if_pos c77] at H
          have c77b0 : (t147 == 0) = true := beq_iff_eq.mpr c77
          have c77b1 : (t147 != 0) = false := bne_eq_false_iff_eq.mpr c77
          clear c77
          replace H := Option.bind_eq_some_iff.mp H
          obtain ⟨t167, A78, H⟩ := H
          try dsimp only at H
          replace A78 := Aside0.mk A78
          replace H := Option.bind_eq_some_iff.mp H
          obtain ⟨⟨t168, t169, t170, t171⟩, A79, H⟩ := H
          try dsimp only at H
          replace A79 := Aside0.mk A79
          by_cases c80 : (t143 == t168 && (t144 == t169 && (t145 == t170 && (t146.toList == t171.toList)))) = true
          ·rw [if_pos c80] at H
           have c80b0 : (t143 == t168 && (t144 == t169 && (t145 == t170 && (t146.toList == t171.toList)))) = true := c80
           (try (have c80b1 : decide (t143 = t168 && (t144 == t169 && (t145 == t170 && (t146.toList == t171.toList)))) = true := by simpa using c80))
           (try (have c80b2 : (t143 == t168 && (t144 == t169 && (t145 == t170 && (t146.toList == t171.toList)))) = true := by simpa using c80))
           clear c80
           by_cases c81 : t153 = 0
           ·rw [if_pos c81] at H
            have c81b0 : (t153 == 0) = true := beq_iff_eq.mpr c81
            have c81b1 : (t153 != 0) = false := bne_eq_false_iff_eq.mpr c81
            clear c81
            replace H := Option.bind_eq_some_iff.mp H
            obtain ⟨t172, A82, H⟩ := H
            try dsimp only at H
            replace A82 := Aside0.mk A82
            by_cases c83 : t172 = true
            ·subst c83
             rw [if_pos rfl] at H
             by_cases c84 : t159 = 0
             ·rw [if_pos c84] at H
              have c84b0 : (t159 == 0) = true := beq_iff_eq.mpr c84
              have c84b1 : (t159 != 0) = false := bne_eq_false_iff_eq.mpr c84
              clear c84
              by_cases c85 : t165 = 0
              ·rw [if_pos c85] at H
               have c85b0 : (t165 == 0) = true := beq_iff_eq.mpr c85
               have c85b1 : (t165 != 0) = false := bne_eq_false_iff_eq.mpr c85
               clear c85
               replace H := Option.bind_eq_some_iff.mp H
               obtain ⟨t173, A86, H⟩ := H
               try dsimp only at H
               replace A86 := Aside0.mk A86
               have HR_ := Option.some.inj H
               clear H
               have hnb87 := NB107_108.out
               have hnc87 := NB108_107.out
               obtain ⟨hcz88_0, hcz88_1, hcz88_2, hcz88_3, hfz88_0, hfz88_1, hfz88_2, hfz88_3⟩ := cf4 BK107
               try go_wp2_with (first | ((with_reducible refine gate_callee (f := 22) rfl ?_); refine gLc 107 Tryz.func22 (cx_PowerOf.calls k2 a0_0 a0_1 a0_2 a0_3 0 t143 t144 t145 t146 t147 _ A73.out) (fun w89 hb => ?_); replace HO_6 := Aside0.mk (Kd.R_below (by (with_reducible repeat (first | apply Kd.R_alloc | apply Kd.R_drewN | apply Kd.R_drew)); exact HO_6.out) hb); replace HO_7 := Aside0.mk (Kd.R_below (by (with_reducible repeat (first | apply Kd.R_alloc | apply Kd.R_drewN | apply Kd.R_drew)); exact HO_7.out) hb); replace BK107 := bkb BK107 hb; replace BK108 := bkb BK108 hb; replace HB := bls HB hb; clear hb) | ((with_reducible refine gate_dst (N := 11) rfl ?_); refine bxe 11 (cs := #[.int .i64 0, .int .u64 0, .int .u64 0, .string (⟨#[]⟩ : ByteArray)]) (t := 24) ?_; intro gb148 hg w90 hbox hb; have BK148 := Aside0.mk hbox; have GW148 := bsz HB hg; have GE148 := bsz HB hg; have NB107_148 := bnl BK107 hg; have NB148_107 := bng BK107 hg; have NB108_148 := bnl BK108 hg; have NB148_108 := bng BK108 hg; replace HO_6 := Aside0.mk (Kd.R_below (by (with_reducible repeat (first | apply Kd.R_alloc | apply Kd.R_drewN | apply Kd.R_drew)); exact HO_6.out) hb); replace HO_7 := Aside0.mk (Kd.R_below (by (with_reducible repeat (first | apply Kd.R_alloc | apply Kd.R_drewN | apply Kd.R_drew)); exact HO_7.out) hb); replace BK107 := bkb BK107 hb; replace BK108 := bkb BK108 hb; replace HB := bls HB hb; clear hb hbox hg; have hnb91 := NB148_107.out; have hnc91 := NB107_148.out; have hnb92 := NB148_108.out; have hnc92 := NB108_148.out; obtain ⟨hcz93_0, hcz93_1, hcz93_2, hcz93_3, hfz93_0, hfz93_1, hfz93_2, hfz93_3⟩ := cf4 BK148; obtain ⟨hcz94_0, hcz94_1, hcz94_2, hcz94_3, hfz94_0, hfz94_1, hfz94_2, hfz94_3⟩ := cf4 BK107) | ((with_reducible refine gate_callee (f := 22) rfl ?_); refine gLc 112 Tryz.func22 (cx_PowerOf.calls k2 a0_0 a0_1 a0_2 a0_3 1 t149 t150 t151 t152 t153 _ A74.out) (fun w95 hb => ?_); replace HO_6 := Aside0.mk (Kd.R_below (by (with_reducible repeat (first | apply Kd.R_alloc | apply Kd.R_drewN | apply Kd.R_drew)); exact (Kd.R_mono (Kd.R_far (p := ⟨gb148, 3, none⟩) (Kd.R_far (p := ⟨gb148, 2, none⟩) (Kd.R_far (p := ⟨gb148, 1, none⟩) (Kd.R_far (p := ⟨gb148, 0, none⟩) (Kd.R_types HO_6.out BK148.out (by decide)) (fun _ hk => hk.2) (.int .i64 t143)) (fun _ hk => hk.2) (.int .u64 t144)) (fun _ hk => hk.2) (.int .u64 t145)) (fun _ hk => hk.2) (.string t146)) (fun _ h_ => h_.1))) hb); replace HO_7 := Aside0.mk (Kd.R_below (by (with_reducible repeat (first | apply Kd.R_alloc | apply Kd.R_drewN | apply Kd.R_drew)); exact (Kd.R_mono (Kd.R_far (p := ⟨gb148, 3, none⟩) (Kd.R_far (p := ⟨gb148, 2, none⟩) (Kd.R_far (p := ⟨gb148, 1, none⟩) (Kd.R_far (p := ⟨gb148, 0, none⟩) (Kd.R_types HO_7.out BK148.out (by decide)) (fun _ hk => hk.2) (.int .i64 t143)) (fun _ hk => hk.2) (.int .u64 t144)) (fun _ hk => hk.2) (.int .u64 t145)) (fun _ hk => hk.2) (.string t146)) (fun _ h_ => h_.1))) hb); replace BK107 := bkfb BK107 hb; replace BK108 := bkfb BK108 hb; replace BK148 := Aside0.mk (blk_below (g := gb148) (o := .cells #[.int .i64 t143, .int .u64 t144, .int .u64 t145, .string t146] 24 (0, 0)) (by (with_reducible repeat (first | refine blk_drewN ?_ _ | refine blk_drew ?_ | refine blk_alloc ?_ _)); apply bp4; (with_reducible repeat (first | refine blk_drewN ?_ _ | refine blk_drew ?_ | refine blk_alloc ?_ _)); exact BK148.out) hb); replace HB := bls HB hb; clear hb) | ((with_reducible refine gate_dst (N := 13) rfl ?_); refine bxe 13 (cs := #[.int .i64 0, .int .u64 0, .int .u64 0, .string (⟨#[]⟩ : ByteArray)]) (t := 24) ?_; intro gb154 hg w96 hbox hb; have BK154 := Aside0.mk hbox; have GW154 := bsz HB hg; have GE154 := bsz HB hg; have NB107_154 := bnl BK107 hg; have NB154_107 := bng BK107 hg; have NB108_154 := bnl BK108 hg; have NB154_108 := bng BK108 hg; have NB148_154 := bnl BK148 hg; have NB154_148 := bng BK148 hg; replace HO_6 := Aside0.mk (Kd.R_below (by (with_reducible repeat (first | apply Kd.R_alloc | apply Kd.R_drewN | apply Kd.R_drew)); exact HO_6.out) hb); replace HO_7 := Aside0.mk (Kd.R_below (by (with_reducible repeat (first | apply Kd.R_alloc | apply Kd.R_drewN | apply Kd.R_drew)); exact HO_7.out) hb); replace BK107 := bkb BK107 hb; replace BK108 := bkb BK108 hb; replace BK148 := bkb BK148 hb; replace HB := bls HB hb; clear hb hbox hg; have hnb97 := NB154_107.out; have hnc97 := NB107_154.out; have hnb98 := NB154_108.out; have hnc98 := NB108_154.out; have hnb99 := NB154_148.out; have hnc99 := NB148_154.out; obtain ⟨hcz100_0, hcz100_1, hcz100_2, hcz100_3, hfz100_0, hfz100_1, hfz100_2, hfz100_3⟩ := cf4 BK154; obtain ⟨hcz101_0, hcz101_1, hcz101_2, hcz101_3, hfz101_0, hfz101_1, hfz101_2, hfz101_3⟩ := cf4 BK107) | ((with_reducible refine gate_callee (f := 22) rfl ?_); refine gLc 117 Tryz.func22 (cx_PowerOf.calls k2 a0_0 a0_1 a0_2 a0_3 2 t155 t156 t157 t158 t159 _ A75.out) (fun w102 hb => ?_); replace HO_6 := Aside0.mk (Kd.R_below (by (with_reducible repeat (first | apply Kd.R_alloc | apply Kd.R_drewN | apply Kd.R_drew)); exact (Kd.R_mono (Kd.R_far (p := ⟨gb154, 3, none⟩) (Kd.R_far (p := ⟨gb154, 2, none⟩) (Kd.R_far (p := ⟨gb154, 1, none⟩) (Kd.R_far (p := ⟨gb154, 0, none⟩) (Kd.R_types HO_6.out BK154.out (by decide)) (fun _ hk => hk.2) (.int .i64 t149)) (fun _ hk => hk.2) (.int .u64 t150)) (fun _ hk => hk.2) (.int .u64 t151)) (fun _ hk => hk.2) (.string t152)) (fun _ h_ => h_.1))) hb); replace HO_7 := Aside0.mk (Kd.R_below (by (with_reducible repeat (first | apply Kd.R_alloc | apply Kd.R_drewN | apply Kd.R_drew)); exact (Kd.R_mono (Kd.R_far (p := ⟨gb154, 3, none⟩) (Kd.R_far (p := ⟨gb154, 2, none⟩) (Kd.R_far (p := ⟨gb154, 1, none⟩) (Kd.R_far (p := ⟨gb154, 0, none⟩) (Kd.R_types HO_7.out BK154.out (by decide)) (fun _ hk => hk.2) (.int .i64 t149)) (fun _ hk => hk.2) (.int .u64 t150)) (fun _ hk => hk.2) (.int .u64 t151)) (fun _ hk => hk.2) (.string t152)) (fun _ h_ => h_.1))) hb); replace BK107 := bkfb BK107 hb; replace BK108 := bkfb BK108 hb; replace BK148 := bkfb BK148 hb; replace BK154 := Aside0.mk (blk_below (g := gb154) (o := .cells #[.int .i64 t149, .int .u64 t150, .int .u64 t151, .string t152] 24 (0, 0)) (by (with_reducible repeat (first | refine blk_drewN ?_ _ | refine blk_drew ?_ | refine blk_alloc ?_ _)); apply bp4; (with_reducible repeat (first | refine blk_drewN ?_ _ | refine blk_drew ?_ | refine blk_alloc ?_ _)); exact BK154.out) hb); replace HB := bls HB hb; clear hb) | ((with_reducible refine gate_dst (N := 15) rfl ?_); refine bxe 15 (cs := #[.int .i64 0, .int .u64 0, .int .u64 0, .string (⟨#[]⟩ : ByteArray)]) (t := 24) ?_; intro gb160 hg w103 hbox hb; have BK160 := Aside0.mk hbox; have GW160 := bsz HB hg; have GE160 := bsz HB hg; have NB107_160 := bnl BK107 hg; have NB160_107 := bng BK107 hg; have NB108_160 := bnl BK108 hg; have NB160_108 := bng BK108 hg; have NB148_160 := bnl BK148 hg; have NB160_148 := bng BK148 hg; have NB154_160 := bnl BK154 hg; have NB160_154 := bng BK154 hg; replace HO_6 := Aside0.mk (Kd.R_below (by (with_reducible repeat (first | apply Kd.R_alloc | apply Kd.R_drewN | apply Kd.R_drew)); exact HO_6.out) hb); replace HO_7 := Aside0.mk (Kd.R_below (by (with_reducible repeat (first | apply Kd.R_alloc | apply Kd.R_drewN | apply Kd.R_drew)); exact HO_7.out) hb); replace BK107 := bkb BK107 hb; replace BK108 := bkb BK108 hb; replace BK148 := bkb BK148 hb; replace BK154 := bkb BK154 hb; replace HB := bls HB hb; clear hb hbox hg; have hnb104 := NB160_107.out; have hnc104 := NB107_160.out; have hnb105 := NB160_108.out; have hnc105 := NB108_160.out; have hnb106 := NB160_148.out; have hnc106 := NB148_160.out; have hnb107 := NB160_154.out; have hnc107 := NB154_160.out; obtain ⟨hcz108_0, hcz108_1, hcz108_2, hcz108_3, hfz108_0, hfz108_1, hfz108_2, hfz108_3⟩ := cf4 BK160; obtain ⟨hcz109_0, hcz109_1, hcz109_2, hcz109_3, hfz109_0, hfz109_1, hfz109_2, hfz109_3⟩ := cf4 BK107) | ((with_reducible refine gate_callee (f := 12) rfl ?_); refine gLc 123 Tryz.func12 (cx_Apply.calls 2 a0_0 a0_1 a0_2 a0_3 a0_0 a0_1 a0_2 a0_3 t161 t162 t163 t164 t165 _ A76.out) (fun w110 hb => ?_); replace HO_6 := Aside0.mk (Kd.R_below (by (with_reducible repeat (first | apply Kd.R_alloc | apply Kd.R_drewN | apply Kd.R_drew)); exact (Kd.R_mono (Kd.R_far (p := ⟨gb160, 3, none⟩) (Kd.R_far (p := ⟨gb160, 2, none⟩) (Kd.R_far (p := ⟨gb160, 1, none⟩) (Kd.R_far (p := ⟨gb160, 0, none⟩) (Kd.R_types HO_6.out BK160.out (by decide)) (fun _ hk => hk.2) (.int .i64 t155)) (fun _ hk => hk.2) (.int .u64 t156)) (fun _ hk => hk.2) (.int .u64 t157)) (fun _ hk => hk.2) (.string t158)) (fun _ h_ => h_.1))) hb); replace HO_7 := Aside0.mk (Kd.R_below (by (with_reducible repeat (first | apply Kd.R_alloc | apply Kd.R_drewN | apply Kd.R_drew)); exact (Kd.R_mono (Kd.R_far (p := ⟨gb160, 3, none⟩) (Kd.R_far (p := ⟨gb160, 2, none⟩) (Kd.R_far (p := ⟨gb160, 1, none⟩) (Kd.R_far (p := ⟨gb160, 0, none⟩) (Kd.R_types HO_7.out BK160.out (by decide)) (fun _ hk => hk.2) (.int .i64 t155)) (fun _ hk => hk.2) (.int .u64 t156)) (fun _ hk => hk.2) (.int .u64 t157)) (fun _ hk => hk.2) (.string t158)) (fun _ h_ => h_.1))) hb); replace BK107 := bkfb BK107 hb; replace BK108 := bkfb BK108 hb; replace BK148 := bkfb BK148 hb; replace BK154 := bkfb BK154 hb; replace BK160 := Aside0.mk (blk_below (g := gb160) (o := .cells #[.int .i64 t155, .int .u64 t156, .int .u64 t157, .string t158] 24 (0, 0)) (by (with_reducible repeat (first | refine blk_drewN ?_ _ | refine blk_drew ?_ | refine blk_alloc ?_ _)); apply bp4; (with_reducible repeat (first | refine blk_drewN ?_ _ | refine blk_drew ?_ | refine blk_alloc ?_ _)); exact BK160.out) hb); replace HB := bls HB hb; clear hb) | ((with_reducible refine gate_dst (N := 17) rfl ?_); refine bxe 17 (cs := #[.int .i64 0, .int .u64 0, .int .u64 0, .string (⟨#[]⟩ : ByteArray)]) (t := 24) ?_; intro gb166 hg w111 hbox hb; have BK166 := Aside0.mk hbox; have GW166 := bsz HB hg; have GE166 := bsz HB hg; have NB107_166 := bnl BK107 hg; have NB166_107 := bng BK107 hg; have NB108_166 := bnl BK108 hg; have NB166_108 := bng BK108 hg; have NB148_166 := bnl BK148 hg; have NB166_148 := bng BK148 hg; have NB154_166 := bnl BK154 hg; have NB166_154 := bng BK154 hg; have NB160_166 := bnl BK160 hg; have NB166_160 := bng BK160 hg; replace HO_6 := Aside0.mk (Kd.R_below (by (with_reducible repeat (first | apply Kd.R_alloc | apply Kd.R_drewN | apply Kd.R_drew)); exact HO_6.out) hb); replace HO_7 := Aside0.mk (Kd.R_below (by (with_reducible repeat (first | apply Kd.R_alloc | apply Kd.R_drewN | apply Kd.R_drew)); exact HO_7.out) hb); replace BK107 := bkb BK107 hb; replace BK108 := bkb BK108 hb; replace BK148 := bkb BK148 hb; replace BK154 := bkb BK154 hb; replace BK160 := bkb BK160 hb; replace HB := bls HB hb; clear hb hbox hg; have hnb112 := NB166_107.out; have hnc112 := NB107_166.out; have hnb113 := NB166_108.out; have hnc113 := NB108_166.out; have hnb114 := NB166_148.out; have hnc114 := NB148_166.out; have hnb115 := NB166_154.out; have hnc115 := NB154_166.out; have hnb116 := NB166_160.out; have hnc116 := NB160_166.out; obtain ⟨hcz117_0, hcz117_1, hcz117_2, hcz117_3, hfz117_0, hfz117_1, hfz117_2, hfz117_3⟩ := cf4 BK166))
               have n0_ : Aside0 (Kd.R (Kd.int .i64) 3 ((((w111.setCell ⟨gb166, 0, none⟩ (.int .i64 t161)).setCell ⟨gb166, 1, none⟩ (.int .u64 t162)).setCell ⟨gb166, 2, none⟩ (.int .u64 t163)).setCell ⟨gb166, 3, none⟩ (.string t164)) w.heap.size (fun k_ => some k_ ≠ (v119 : Value).ownBlock) v116 y115) := ⟨by (with_reducible repeat (first | apply Kd.R_alloc | apply Kd.R_drewN | apply Kd.R_drew)); exact Kd.R_mono (Kd.R_far (p := ⟨gb166, 3, none⟩) (Kd.R_far (p := ⟨gb166, 2, none⟩) (Kd.R_far (p := ⟨gb166, 1, none⟩) (Kd.R_far (p := ⟨gb166, 0, none⟩) (Kd.R_types HO_6.out BK166.out (by decide)) (fun _ hk => hk.2) (.int .i64 t161)) (fun _ hk => hk.2) (.int .u64 t162)) (fun _ hk => hk.2) (.int .u64 t163)) (fun _ hk => hk.2) (.string t164)) (fun _ hk => hk.1)⟩
               have n1_ : Aside0 (Kd.R (Kd.int .i64) 3 ((((w111.setCell ⟨gb166, 0, none⟩ (.int .i64 t161)).setCell ⟨gb166, 1, none⟩ (.int .u64 t162)).setCell ⟨gb166, 2, none⟩ (.int .u64 t163)).setCell ⟨gb166, 3, none⟩ (.string t164)) w.heap.size (fun k_ => some k_ ≠ (v116 : Value).ownBlock) v119 y118) := ⟨by (with_reducible repeat (first | apply Kd.R_alloc | apply Kd.R_drewN | apply Kd.R_drew)); exact Kd.R_mono (Kd.R_far (p := ⟨gb166, 3, none⟩) (Kd.R_far (p := ⟨gb166, 2, none⟩) (Kd.R_far (p := ⟨gb166, 1, none⟩) (Kd.R_far (p := ⟨gb166, 0, none⟩) (Kd.R_types HO_7.out BK166.out (by decide)) (fun _ hk => hk.2) (.int .i64 t161)) (fun _ hk => hk.2) (.int .u64 t162)) (fun _ hk => hk.2) (.int .u64 t163)) (fun _ hk => hk.2) (.string t164)) (fun _ hk => hk.1)⟩
               have n2_ : Aside0 (((((w111.setCell ⟨gb166, 0, none⟩ (.int .i64 t161)).setCell ⟨gb166, 1, none⟩ (.int .u64 t162)).setCell ⟨gb166, 2, none⟩ (.int .u64 t163)).setCell ⟨gb166, 3, none⟩ (.string t164)).heap[gb107]? = some (.cells #[.int .i64 a0_0, .int .u64 a0_1, .int .u64 a0_2, .string a0_3] 24 (0, 0))) := bkf BK107
               have n3_ : Aside0 (((((w111.setCell ⟨gb166, 0, none⟩ (.int .i64 t161)).setCell ⟨gb166, 1, none⟩ (.int .u64 t162)).setCell ⟨gb166, 2, none⟩ (.int .u64 t163)).setCell ⟨gb166, 3, none⟩ (.string t164)).heap[gb108]? = some (.cells #[.int .i64 a1_0, .int .u64 a1_1, .int .u64 a1_2, .string a1_3] 24 (0, 0))) := bkf BK108
               have n4_ : Aside0 (((((w111.setCell ⟨gb166, 0, none⟩ (.int .i64 t161)).setCell ⟨gb166, 1, none⟩ (.int .u64 t162)).setCell ⟨gb166, 2, none⟩ (.int .u64 t163)).setCell ⟨gb166, 3, none⟩ (.string t164)).heap[gb148]? = some (.cells #[.int .i64 t143, .int .u64 t144, .int .u64 t145, .string t146] 24 (0, 0))) := bkf BK148
               have n5_ : Aside0 (((((w111.setCell ⟨gb166, 0, none⟩ (.int .i64 t161)).setCell ⟨gb166, 1, none⟩ (.int .u64 t162)).setCell ⟨gb166, 2, none⟩ (.int .u64 t163)).setCell ⟨gb166, 3, none⟩ (.string t164)).heap[gb154]? = some (.cells #[.int .i64 t149, .int .u64 t150, .int .u64 t151, .string t152] 24 (0, 0))) := bkf BK154
               have n6_ : Aside0 (((((w111.setCell ⟨gb166, 0, none⟩ (.int .i64 t161)).setCell ⟨gb166, 1, none⟩ (.int .u64 t162)).setCell ⟨gb166, 2, none⟩ (.int .u64 t163)).setCell ⟨gb166, 3, none⟩ (.string t164)).heap[gb160]? = some (.cells #[.int .i64 t155, .int .u64 t156, .int .u64 t157, .string t158] 24 (0, 0))) := bkf BK160
               have n7_ : Aside0 (((((w111.setCell ⟨gb166, 0, none⟩ (.int .i64 t161)).setCell ⟨gb166, 1, none⟩ (.int .u64 t162)).setCell ⟨gb166, 2, none⟩ (.int .u64 t163)).setCell ⟨gb166, 3, none⟩ (.string t164)).heap[gb166]? = some (.cells #[.int .i64 t161, .int .u64 t162, .int .u64 t163, .string t164] 24 (0, 0))) := ⟨by (with_reducible repeat (first | refine blk_drewN ?_ _ | refine blk_drew ?_ | refine blk_alloc ?_ _)); apply bp4; (with_reducible repeat (first | refine blk_drewN ?_ _ | refine blk_drew ?_ | refine blk_alloc ?_ _)); exact BK166.out⟩
               have n8_ : Aside0 (Below w.heap.size w ((((w111.setCell ⟨gb166, 0, none⟩ (.int .i64 t161)).setCell ⟨gb166, 1, none⟩ (.int .u64 t162)).setCell ⟨gb166, 2, none⟩ (.int .u64 t163)).setCell ⟨gb166, 3, none⟩ (.string t164))) := blt HB
               (try clear HO_6)
               (try clear HO_7)
               (try clear BK107)
               (try clear BK108)
               (try clear BK148)
               (try clear BK154)
               (try clear BK160)
               (try clear BK166)
               (try clear HB)
               generalize ((((w111.setCell ⟨gb166, 0, none⟩ (.int .i64 t161)).setCell ⟨gb166, 1, none⟩ (.int .u64 t162)).setCell ⟨gb166, 2, none⟩ (.int .u64 t163)).setCell ⟨gb166, 3, none⟩ (.string t164)) = w118 at n0_ n1_ n2_ n3_ n4_ n5_ n6_ n7_ n8_ ⊢
               have HO_6 := n0_
               have HO_7 := n1_
               have BK107 := n2_
               have BK108 := n3_
               have BK148 := n4_
               have BK154 := n5_
               have BK160 := n6_
               have BK166 := n7_
               have HB := n8_
               clear n0_ n1_ n2_ n3_ n4_ n5_ n6_ n7_ n8_
               replace HO_6 := Aside0.mk (Kd.R_drew HO_6.out)
               replace HO_7 := Aside0.mk (Kd.R_drew HO_7.out)
               replace BK107 := Aside0.mk (blk_drew BK107.out)
               replace BK108 := Aside0.mk (blk_drew BK108.out)
               replace BK148 := Aside0.mk (blk_drew BK148.out)
               replace BK154 := Aside0.mk (blk_drew BK154.out)
               replace BK160 := Aside0.mk (blk_drew BK160.out)
               replace BK166 := Aside0.mk (blk_drew BK166.out)
               replace HB := Aside0.mk (below_drew1 HB.out)
               refine start_ (n := 34) (S := fun w' => w'.cell? ⟨gb148, 0, none⟩ = some (.int .i64 t143) ∧ w'.cell? ⟨gb148, 1, none⟩ = some (.int .u64 t144) ∧ w'.cell? ⟨gb148, 2, none⟩ = some (.int .u64 t145) ∧ w'.cell? ⟨gb148, 3, none⟩ = some (.string t146) ∧ w'.cell? ⟨gb107, 0, none⟩ = some (.int .i64 a0_0) ∧ w'.cell? ⟨gb107, 1, none⟩ = some (.int .u64 a0_1) ∧ w'.cell? ⟨gb107, 2, none⟩ = some (.int .u64 a0_2) ∧ w'.cell? ⟨gb107, 3, none⟩ = some (.string a0_3) ∧ w'.cell? ⟨gb154, 0, none⟩ = some (.int .i64 t149) ∧ w'.cell? ⟨gb154, 1, none⟩ = some (.int .u64 t150) ∧ w'.cell? ⟨gb154, 2, none⟩ = some (.int .u64 t151) ∧ w'.cell? ⟨gb154, 3, none⟩ = some (.string t152) ∧ w'.cell? ⟨gb160, 0, none⟩ = some (.int .i64 t155) ∧ w'.cell? ⟨gb160, 1, none⟩ = some (.int .u64 t156) ∧ w'.cell? ⟨gb160, 2, none⟩ = some (.int .u64 t157) ∧ w'.cell? ⟨gb160, 3, none⟩ = some (.string t158) ∧ w'.cell? ⟨gb166, 0, none⟩ = some (.int .i64 t161) ∧ w'.cell? ⟨gb166, 1, none⟩ = some (.int .u64 t162) ∧ w'.cell? ⟨gb166, 2, none⟩ = some (.int .u64 t163) ∧ w'.cell? ⟨gb166, 3, none⟩ = some (.string t164)) (ds := []) #[false, false, false, false, false, false, false, false, false, false, false, false, false, false, false, false, false, false, false, false, false, false, false, false, false, false, false, false, false, false, false, false, false, false] (by kernel_rfl) rfl rfl ⟨(blk_cell BK148.out 0).trans rfl, (blk_cell BK148.out 1).trans rfl, (blk_cell BK148.out 2).trans rfl, (blk_cell BK148.out 3).trans rfl, (blk_cell BK107.out 0).trans rfl, (blk_cell BK107.out 1).trans rfl, (blk_cell BK107.out 2).trans rfl, (blk_cell BK107.out 3).trans rfl, (blk_cell BK154.out 0).trans rfl, (blk_cell BK154.out 1).trans rfl, (blk_cell BK154.out 2).trans rfl, (blk_cell BK154.out 3).trans rfl, (blk_cell BK160.out 0).trans rfl, (blk_cell BK160.out 1).trans rfl, (blk_cell BK160.out 2).trans rfl, (blk_cell BK160.out 3).trans rfl, (blk_cell BK166.out 0).trans rfl, (blk_cell BK166.out 1).trans rfl, (blk_cell BK166.out 2).trans rfl, (blk_cell BK166.out 3).trans rfl⟩ (fun hHeld => ?_); refine with_tabW l10_ComplexesReal.tab20 l10_ComplexesReal.bits20 (fun HT_ HW_ => ?_)
               generalize w118.drew = w119 at HO_6 HO_7 BK107 BK108 BK148 BK154 BK160 BK166 HB hHeld ⊢
               refine pu 0 126 HT_ ?_
               refine pu 1 127 HT_ ?_
               refine pu 2 128 HT_ ?_
               refine pu 4 130 HT_ ?_
               refine pu 6 132 HT_ ?_
               refine tk 3 129 HT_ HW_ hHeld ?_
               refine tk 5 131 HT_ HW_ hHeld ?_
               refine on 7 133 HT_ (fun K hK => ?_)
               refine gsc Tryz.func23 (r8_FromInteger.calls t111 1 t167 _ A78.out) (fun w120 hb => ?_)
               replace HO_6 := Aside0.mk (Kd.R_below (by (with_reducible repeat (first | apply Kd.R_alloc | apply Kd.R_drewN | apply Kd.R_drew)); exact HO_6.out) hb)
               replace HO_7 := Aside0.mk (Kd.R_below (by (with_reducible repeat (first | apply Kd.R_alloc | apply Kd.R_drewN | apply Kd.R_drew)); exact HO_7.out) hb)
               replace BK107 := bkb BK107 hb
               replace BK108 := bkb BK108 hb
               replace BK148 := bkb BK148 hb
               replace BK154 := bkb BK154 hb
               replace BK160 := bkb BK160 hb
               replace BK166 := bkb BK166 hb
               replace HB := bls HB hb
               (try clear hb)
               (try clear hb2)
               (try clear hk)
               (try clear hi)
               refine hK.out _ _ ⟨(blk_cell BK148.out 0).trans rfl, (blk_cell BK148.out 1).trans rfl, (blk_cell BK148.out 2).trans rfl, (blk_cell BK148.out 3).trans rfl, (blk_cell BK107.out 0).trans rfl, (blk_cell BK107.out 1).trans rfl, (blk_cell BK107.out 2).trans rfl, (blk_cell BK107.out 3).trans rfl, (blk_cell BK154.out 0).trans rfl, (blk_cell BK154.out 1).trans rfl, (blk_cell BK154.out 2).trans rfl, (blk_cell BK154.out 3).trans rfl, (blk_cell BK160.out 0).trans rfl, (blk_cell BK160.out 1).trans rfl, (blk_cell BK160.out 2).trans rfl, (blk_cell BK160.out 3).trans rfl, (blk_cell BK166.out 0).trans rfl, (blk_cell BK166.out 1).trans rfl, (blk_cell BK166.out 2).trans rfl, (blk_cell BK166.out 3).trans rfl⟩ (fun hHeld => ?_)
               clear hK K
               refine nm 133 ?_
               refine on 8 134 HT_ (fun K hK => ?_)
               refine gsc Tryz.func18 (r10_Made.calls a0_0 t167 0 t168 t169 t170 t171 _ A79.out) (fun w121 hb => ?_)
               replace HO_6 := Aside0.mk (Kd.R_below (by (with_reducible repeat (first | apply Kd.R_alloc | apply Kd.R_drewN | apply Kd.R_drew)); exact HO_6.out) hb)
               replace HO_7 := Aside0.mk (Kd.R_below (by (with_reducible repeat (first | apply Kd.R_alloc | apply Kd.R_drewN | apply Kd.R_drew)); exact HO_7.out) hb)
               replace BK107 := bkb BK107 hb
               replace BK108 := bkb BK108 hb
               replace BK148 := bkb BK148 hb
               replace BK154 := bkb BK154 hb
               replace BK160 := bkb BK160 hb
               replace BK166 := bkb BK166 hb
               replace HB := bls HB hb
               (try clear hb)
               (try clear hb2)
               (try clear hk)
               (try clear hi)
               refine hK.out _ _ ⟨(blk_cell BK148.out 0).trans rfl, (blk_cell BK148.out 1).trans rfl, (blk_cell BK148.out 2).trans rfl, (blk_cell BK148.out 3).trans rfl, (blk_cell BK107.out 0).trans rfl, (blk_cell BK107.out 1).trans rfl, (blk_cell BK107.out 2).trans rfl, (blk_cell BK107.out 3).trans rfl, (blk_cell BK154.out 0).trans rfl, (blk_cell BK154.out 1).trans rfl, (blk_cell BK154.out 2).trans rfl, (blk_cell BK154.out 3).trans rfl, (blk_cell BK160.out 0).trans rfl, (blk_cell BK160.out 1).trans rfl, (blk_cell BK160.out 2).trans rfl, (blk_cell BK160.out 3).trans rfl, (blk_cell BK166.out 0).trans rfl, (blk_cell BK166.out 1).trans rfl, (blk_cell BK166.out 2).trans rfl, (blk_cell BK166.out 3).trans rfl⟩ (fun hHeld => ?_)
               clear hK K
               refine nm 134 ?_
               refine pu 9 135 HT_ ?_
               refine pu 10 136 HT_ ?_
               refine pu 11 137 HT_ ?_
               refine pu 12 138 HT_ ?_
               refine pu 13 139 HT_ ?_
               refine pu 14 140 HT_ ?_
               refine pu 15 141 HT_ ?_
               refine tk 16 142 HT_ HW_ hHeld ?_
               refine tk 17 143 HT_ HW_ hHeld ?_
               refine on 18 144 HT_ (fun K hK => ?_)
               refine gsc Tryz.func24 (l10_near.calls t149 t150 t151 t152 a0_0 a0_1 a0_2 a0_3 true _ A82.out) (fun w122 hb => ?_)
               replace HO_6 := Aside0.mk (Kd.R_below (by (with_reducible repeat (first | apply Kd.R_alloc | apply Kd.R_drewN | apply Kd.R_drew)); exact HO_6.out) hb)
               replace HO_7 := Aside0.mk (Kd.R_below (by (with_reducible repeat (first | apply Kd.R_alloc | apply Kd.R_drewN | apply Kd.R_drew)); exact HO_7.out) hb)
               replace BK107 := bkb BK107 hb
               replace BK108 := bkb BK108 hb
               replace BK148 := bkb BK148 hb
               replace BK154 := bkb BK154 hb
               replace BK160 := bkb BK160 hb
               replace BK166 := bkb BK166 hb
               replace HB := bls HB hb
               (try clear hb)
               (try clear hb2)
               (try clear hk)
               (try clear hi)
               refine hK.out _ _ ⟨(blk_cell BK148.out 0).trans rfl, (blk_cell BK148.out 1).trans rfl, (blk_cell BK148.out 2).trans rfl, (blk_cell BK148.out 3).trans rfl, (blk_cell BK107.out 0).trans rfl, (blk_cell BK107.out 1).trans rfl, (blk_cell BK107.out 2).trans rfl, (blk_cell BK107.out 3).trans rfl, (blk_cell BK154.out 0).trans rfl, (blk_cell BK154.out 1).trans rfl, (blk_cell BK154.out 2).trans rfl, (blk_cell BK154.out 3).trans rfl, (blk_cell BK160.out 0).trans rfl, (blk_cell BK160.out 1).trans rfl, (blk_cell BK160.out 2).trans rfl, (blk_cell BK160.out 3).trans rfl, (blk_cell BK166.out 0).trans rfl, (blk_cell BK166.out 1).trans rfl, (blk_cell BK166.out 2).trans rfl, (blk_cell BK166.out 3).trans rfl⟩ (fun hHeld => ?_)
               clear hK K
               refine nm 144 ?_
               refine pu 19 145 HT_ ?_
               refine pu 20 146 HT_ ?_
               refine pu 21 147 HT_ ?_
               refine pu 22 148 HT_ ?_
               refine pu 23 149 HT_ ?_
               refine pu 24 150 HT_ ?_
               refine pu 25 151 HT_ ?_
               refine pu 26 152 HT_ ?_
               refine pu 27 153 HT_ ?_
               refine pu 28 154 HT_ ?_
               refine tk 29 155 HT_ HW_ hHeld ?_
               refine tk 30 156 HT_ HW_ hHeld ?_
               refine on 31 157 HT_ (fun K hK => ?_)
               refine gsc Tryz.func24 (l10_near.calls t155 t156 t157 t158 t161 t162 t163 t164 t173 _ A86.out) (fun w123 hb => ?_)
               replace HO_6 := Aside0.mk (Kd.R_below (by (with_reducible repeat (first | apply Kd.R_alloc | apply Kd.R_drewN | apply Kd.R_drew)); exact HO_6.out) hb)
               replace HO_7 := Aside0.mk (Kd.R_below (by (with_reducible repeat (first | apply Kd.R_alloc | apply Kd.R_drewN | apply Kd.R_drew)); exact HO_7.out) hb)
               replace BK107 := bkb BK107 hb
               replace BK108 := bkb BK108 hb
               replace BK148 := bkb BK148 hb
               replace BK154 := bkb BK154 hb
               replace BK160 := bkb BK160 hb
               replace BK166 := bkb BK166 hb
               replace HB := bls HB hb
               (try clear hb)
               (try clear hb2)
               (try clear hk)
               (try clear hi)
               refine hK.out _ _ ⟨(blk_cell BK148.out 0).trans rfl, (blk_cell BK148.out 1).trans rfl, (blk_cell BK148.out 2).trans rfl, (blk_cell BK148.out 3).trans rfl, (blk_cell BK107.out 0).trans rfl, (blk_cell BK107.out 1).trans rfl, (blk_cell BK107.out 2).trans rfl, (blk_cell BK107.out 3).trans rfl, (blk_cell BK154.out 0).trans rfl, (blk_cell BK154.out 1).trans rfl, (blk_cell BK154.out 2).trans rfl, (blk_cell BK154.out 3).trans rfl, (blk_cell BK160.out 0).trans rfl, (blk_cell BK160.out 1).trans rfl, (blk_cell BK160.out 2).trans rfl, (blk_cell BK160.out 3).trans rfl, (blk_cell BK166.out 0).trans rfl, (blk_cell BK166.out 1).trans rfl, (blk_cell BK166.out 2).trans rfl, (blk_cell BK166.out 3).trans rfl⟩ (fun hHeld => ?_)
               clear hK K
               refine nm 157 ?_
               refine pu 32 158 HT_ ?_
               refine pu 33 4 HT_ ?_
               refine done_ (done_of HT_.out (by kernel_rfl)) ?_
               try go_wp2
               go_ret
               exact ⟨by first | rfl | (rw [HR_]; done) | (rw [HRz_]; done) | (simp only [HR_]; done) | (simp [errW_none, errW_some] <;> rfl) | (simp [*, errW_none, errW_some] <;> rfl), (blt HB).out⟩
              ·rw [if_neg c85] at H
               have c85b0 : (t165 == 0) = false := beq_eq_false_iff_ne.mpr c85
               have c85b1 : (t165 != 0) = true := bne_iff_ne.mpr c85
               exact absurd H (by first | decide | (cases k2 <;> simp [l10_ComplexesReal.j0, l10_ComplexesReal.l0]))
             ·rw [if_neg c84] at H
              have c84b0 : (t159 == 0) = false := beq_eq_false_iff_ne.mpr c84
              have c84b1 : (t159 != 0) = true := bne_iff_ne.mpr c84
              exact absurd H (by first | decide | (cases k2 <;> simp [l10_ComplexesReal.j0, l10_ComplexesReal.l0]))
            ·replace c83 := Bool.eq_false_iff.mpr c83
             subst c83
             rw [if_neg (show ¬ (false = true) by decide)] at H
             exact absurd H (by first | decide | (cases k2 <;> simp [l10_ComplexesReal.j0, l10_ComplexesReal.l0]))
           ·rw [if_neg c81] at H
            have c81b0 : (t153 == 0) = false := beq_eq_false_iff_ne.mpr c81
            have c81b1 : (t153 != 0) = true := bne_iff_ne.mpr c81
            exact absurd H (by first | decide | (cases k2 <;> simp [l10_ComplexesReal.j0, l10_ComplexesReal.l0]))
          ·rw [if_neg c80] at H
           have c80b0 : (t143 == t168 && (t144 == t169 && (t145 == t170 && (t146.toList == t171.toList)))) = false := by simpa using c80
           (try (have c80b1 : decide (t143 = t168 && (t144 == t169 && (t145 == t170 && (t146.toList == t171.toList)))) = false := by simpa using c80))
           (try (have c80b2 : (t143 == t168 && (t144 == t169 && (t145 == t170 && (t146.toList == t171.toList)))) = false := by simpa using c80))
           (try (have c80b3 : ¬ (t143 = t168 && (t144 == t169 && (t145 == t170 && (t146.toList == t171.toList)))) := by simpa using c80))
           clear c80
           exact absurd H (by first | decide | (cases k2 <;> simp [l10_ComplexesReal.j0, l10_ComplexesReal.l0]))
         ·rw [if_neg c77] at H
          have c77b0 : (t147 == 0) = false := beq_eq_false_iff_ne.mpr c77
          have c77b1 : (t147 != 0) = true := bne_iff_ne.mpr c77
          exact absurd H (by first | decide | (cases k2 <;> simp [l10_ComplexesReal.j0, l10_ComplexesReal.l0]))
  ·rw [if_neg c6] at H
   have c6b0 : (t110 == 0) = false := beq_eq_false_iff_ne.mpr c6
   have c6b1 : (t110 != 0) = true := bne_iff_ne.mpr c6
   have HR_ := Option.some.inj H
   clear H
   go_enter Tryz.func4, Tryz.ntmps4
   go_wp2_with (first | ((with_reducible refine gate_dst (N := 2) rfl ?_); refine bxe 2 (cs := #[.int .i64 a0_0, .int .u64 a0_1, .int .u64 a0_2, .string a0_3]) (t := 24) ?_; intro gb107 hg w124 hbox hb; have BK107 := Aside0.mk hbox; have GW107 := bsz HB hg; have GE107 := bsz HB hg; replace HB := bls HB hb; clear hb hbox hg) | ((with_reducible refine gate_dst (N := 3) rfl ?_); refine bxe 3 (cs := #[.int .i64 a1_0, .int .u64 a1_1, .int .u64 a1_2, .string a1_3]) (t := 24) ?_; intro gb108 hg w125 hbox hb; have BK108 := Aside0.mk hbox; have GW108 := bsz HB hg; have GE108 := bsz HB hg; have NB107_108 := bnl BK107 hg; have NB108_107 := bng BK107 hg; replace BK107 := bkb BK107 hb; replace HB := bls HB hb; clear hb hbox hg) | ((with_reducible refine gate_callee (f := 10) rfl ?_); refine gLc 19 Tryz.func10 (l10_awake.calls  true _ A3.out) (fun w126 hb => ?_); replace BK107 := bkb BK107 hb; replace BK108 := bkb BK108 hb; replace HB := bls HB hb; clear hb; have hnb127 := NB107_108.out; have hnc127 := NB108_107.out; obtain ⟨hcz128_0, hcz128_1, hcz128_2, hcz128_3, hfz128_0, hfz128_1, hfz128_2, hfz128_3⟩ := cf4 BK107; obtain ⟨hcz129_0, hcz129_1, hcz129_2, hcz129_3, hfz129_0, hfz129_1, hfz129_2, hfz129_3⟩ := cf4 BK108) | ((with_reducible refine gate_callee (f := 13) rfl ?_); refine gLc 23 Tryz.func13 (r10_TwoErr.calls a0_0 a0_1 a0_2 a0_3 a1_0 a1_1 a1_2 a1_3 t110 _ A5.out) (fun w130 hb => ?_); replace BK107 := bkb BK107 hb; replace BK108 := bkb BK108 hb; replace HB := bls HB hb; clear hb))
   go_ret
   exact ⟨by first | rfl | (rw [HR_]; done) | (rw [HRz_]; done) | (simp only [HR_]; done) | (simp [errW_none, errW_some] <;> rfl) | (simp [*, errW_none, errW_some] <;> rfl), (blt HB).out⟩
 ·replace c4 := Bool.eq_false_iff.mpr c4
  subst c4
  rw [if_neg (show ¬ (false = true) by decide)] at H
  exact absurd H (by first | decide | (cases k <;> simp [l10_ComplexesReal.j0, l10_ComplexesReal.l0]))
end Go.Proofs.YtmoimcblmmcffaaGreat.PLR
