/- Contracts and plain laws that the law ComplexesApply leans on (texts joined by program; what it does not come to is left out). -/
import Derived.Test.YtmoimcblmmcffaaGreatQComplexesApplyA
import Derived.Test.YtmoimcblmmcffaaGreatQComplexesApplyI

namespace Go.Proofs.YtmoimcblmmcffaaGreat.PRA
open Go.RowKit Go.Proofs.YtmoimcblmmcffaaGreatW.PrintWords Go.Proofs.YtmoimcblmmcffaaGreatW.PrintLast Go.Proofs.YtmoimcblmmcffaaGreatW.PrintMore Go.Proofs.YtmoimcblmmcffaaGreatW.PrintZ
attribute [local go_sem] max2_int min2_int max_two min_two max_three min_three max_four min_four   -- for this text's walks alone
set_option linter.unusedVariables false
set_option linter.unusedSimpArgs false
def formularyref10_Mul.f (a0_0 : Int) (a0_1 : Int) (a0_2 : Int) (a0_3 : ByteArray) (a1_0 : Int) (a1_1 : Int) (a1_2 : Int) (a1_3 : ByteArray) : Option (Int × Int × Int × ByteArray) := (formularyref10_PartType.f a0_0).bind fun t125 => ((formularyref08_Mul.f t125 a0_1 a1_1).bind fun t126 => ((formularyref08_Mul.f t125 a0_2 a1_2).bind fun t127 => ((formularyref08_Minus2.f t125 t126 t127).bind fun t128 => ((formularyref08_Mul.f t125 a0_1 a1_2).bind fun t129 => ((formularyref08_Mul.f t125 a0_2 a1_1).bind fun t130 => ((formularyref08_Add.f t125 t129 t130).bind fun t131 => ((formularyref10_Made.f a0_0 t128 t131).bind fun bt132 => (some (bt132.1, bt132.2.1, bt132.2.2.1, bt132.2.2.2)))))))))
def formularyref10_Mul.T2 : Bool × List (List Nat × List Nat) := (true, [([], []), ([], []), ([], []), ([2], [2]), ([], []), ([4], [4]), ([1, 3, 5], [1, 3, 5]), ([], []), ([], []), ([8], [8]), ([], []), ([10], [10]), ([7, 9, 11, 6], [7, 9, 11]), ([0, 6, 12, 12], [0, 6, 12]), ([13, 13, 0, 1, 2, 3, 4, 5, 6, 7, 8, 9, 10, 11, 12, 13], [13])])
def formularyref10_Mul.B2 : List Nat := [0, 0, 0, 4, 0, 16, 62, 0, 0, 256, 0, 1024, 4094, 8191, 16383]
theorem formularyref10_Mul.tab2 : rtab .any (opsOf Tryz.f60 2) = formularyref10_Mul.T2 := by kernel_rfl
theorem formularyref10_Mul.bits2 : waitsOk formularyref10_Mul.T2.2 formularyref10_Mul.B2 = true := by kernel_rfl
def formularyref10_Mul.T3 : Bool × List (List Nat × List Nat) := (true, [([], []), ([], []), ([], []), ([2], [2]), ([], []), ([4], [4]), ([1, 3, 5], [1, 3, 5]), ([], []), ([], []), ([8], [8]), ([], []), ([10], [10]), ([7, 9, 11, 6], [7, 9, 11]), ([0, 6, 12, 12], [0, 6, 12]), ([13, 13, 0, 1, 2, 3, 4, 5, 6, 7, 8, 9, 10, 11, 12, 13], [13])])
def formularyref10_Mul.B3 : List Nat := [0, 0, 0, 4, 0, 16, 62, 0, 0, 256, 0, 1024, 4094, 8191, 16383]
theorem formularyref10_Mul.tab3 : rtab .any (opsOf Tryz.f60 3) = formularyref10_Mul.T3 := by kernel_rfl
theorem formularyref10_Mul.bits3 : waitsOk formularyref10_Mul.T3.2 formularyref10_Mul.B3 = true := by kernel_rfl
set_option maxHeartbeats 8000000 in
set_option maxRecDepth 100000 in
theorem formularyref10_Mul.calls (a0_0 : Int) (a0_1 : Int) (a0_2 : Int) (a0_3 : ByteArray) (a1_0 : Int) (a1_1 : Int) (a1_2 : Int) (a1_3 : ByteArray) (r1 : Int) (r2 : Int) (r3 : Int) (r4 : ByteArray) (w : World) (h : formularyref10_Mul.f a0_0 a0_1 a0_2 a0_3 a1_0 a1_1 a1_2 a1_3 = some (r1, r2, r3, r4)) :
  Calls Tryz.prog 60 #[.agg #[.int .i64 a0_0, .int .u64 a0_1, .int .u64 a0_2, .string a0_3], .agg #[.int .i64 a1_0, .int .u64 a1_1, .int .u64 a1_2, .string a1_3]] w fun e w' => e = .returned (.agg #[.int .i64 r1, .int .u64 r2, .int .u64 r3, .string r4]) ∧ Below w.heap.size w w' := by
 have hu24 := Tryz.underlying24
 have HB := Aside0.mk (Below.refl w.heap.size w)
 have H : ((formularyref10_PartType.f a0_0).bind fun t125 => ((formularyref08_Mul.f t125 a0_1 a1_1).bind fun t126 => ((formularyref08_Mul.f t125 a0_2 a1_2).bind fun t127 => ((formularyref08_Minus2.f t125 t126 t127).bind fun t128 => ((formularyref08_Mul.f t125 a0_1 a1_2).bind fun t129 => ((formularyref08_Mul.f t125 a0_2 a1_1).bind fun t130 => ((formularyref08_Add.f t125 t129 t130).bind fun t131 => ((formularyref10_Made.f a0_0 t128 t131).bind fun bt132 => (some (bt132.1, bt132.2.1, bt132.2.2.1, bt132.2.2.2)))))))))) = some (r1, r2, r3, r4) := h
 clear h
 replace H := Option.bind_eq_some_iff.mp H
 obtain ⟨t125, A3, H⟩ := H
 try dsimp only at H
 replace A3 := Aside0.mk A3
 replace H := Option.bind_eq_some_iff.mp H
 obtain ⟨t126, A4, H⟩ := H
 try dsimp only at H
 replace A4 := Aside0.mk A4
 replace H := Option.bind_eq_some_iff.mp H
 obtain ⟨t127, A5, H⟩ := H
 try dsimp only at H
 replace A5 := Aside0.mk A5
 replace H := Option.bind_eq_some_iff.mp H
 obtain ⟨t128, A6, H⟩ := H
 try dsimp only at H
 replace A6 := Aside0.mk A6
 replace H := Option.bind_eq_some_iff.mp H
 obtain ⟨t129, A7, H⟩ := H
 try dsimp only at H
 replace A7 := Aside0.mk A7
 replace H := Option.bind_eq_some_iff.mp H
 obtain ⟨t130, A8, H⟩ := H
 try dsimp only at H
 replace A8 := Aside0.mk A8
 replace H := Option.bind_eq_some_iff.mp H
 obtain ⟨t131, A9, H⟩ := H
 try dsimp only at H
 replace A9 := Aside0.mk A9
 replace H := Option.bind_eq_some_iff.mp H
 obtain ⟨⟨t132, t133, t134, t135⟩, A10, H⟩ := H
 try dsimp only at H
 replace A10 := Aside0.mk A10
 simp only [Option.some.injEq, Prod.mk.injEq] at H
 obtain ⟨rfl, rfl, rfl, rfl⟩ := H
 go_enter Tryz.func60, Tryz.ntmps60
 try go_wp2_with (first | ((with_reducible refine gate_dst (N := 2) rfl ?_); refine bxe 2 (cs := #[.int .i64 a0_0, .int .u64 a0_1, .int .u64 a0_2, .string a0_3]) (t := 24) ?_; intro gb122 hg w11 hbox hb; have BK122 := Aside0.mk hbox; have GW122 := bsz HB hg; have GE122 := bsz HB hg; replace HB := bls HB hb; clear hb hbox hg) | ((with_reducible refine gate_dst (N := 3) rfl ?_); refine bxe 3 (cs := #[.int .i64 a1_0, .int .u64 a1_1, .int .u64 a1_2, .string a1_3]) (t := 24) ?_; intro gb123 hg w12 hbox hb; have BK123 := Aside0.mk hbox; have GW123 := bsz HB hg; have GE123 := bsz HB hg; have NB122_123 := bnl BK122 hg; have NB123_122 := bng BK122 hg; replace BK122 := bkb BK122 hb; replace HB := bls HB hb; clear hb hbox hg) | ((with_reducible refine gate_dst (N := 4) rfl ?_); refine bxe 4 (cs := #[.int .i64 0, .int .u64 0, .int .u64 0, .string (⟨#[]⟩ : ByteArray)]) (t := 24) ?_; intro gb124 hg w13 hbox hb; have BK124 := Aside0.mk hbox; have GW124 := bsz HB hg; have GE124 := bsz HB hg; have NB122_124 := bnl BK122 hg; have NB124_122 := bng BK122 hg; have NB123_124 := bnl BK123 hg; have NB124_123 := bng BK123 hg; replace BK122 := bkb BK122 hb; replace BK123 := bkb BK123 hb; replace HB := bls HB hb; clear hb hbox hg; have hnb14 := NB122_123.out; have hnc14 := NB123_122.out; have hnb15 := NB122_124.out; have hnc15 := NB124_122.out; have hcz16_0 : w13.cell? ⟨gb122, 0, none⟩ = some (.int .i64 a0_0) := (blk_cell BK122.out 0).trans rfl; have hcz16_1 : w13.cell? ⟨gb122, 1, none⟩ = some (.int .u64 a0_1) := (blk_cell BK122.out 1).trans rfl; have hcz16_2 : w13.cell? ⟨gb122, 2, none⟩ = some (.int .u64 a0_2) := (blk_cell BK122.out 2).trans rfl; have hcz16_3 : w13.cell? ⟨gb122, 3, none⟩ = some (.string a0_3) := (blk_cell BK122.out 3).trans rfl; have hfz16_0 := blk_frozen BK122.out 0; have hfz16_1 := blk_frozen BK122.out 1; have hfz16_2 := blk_frozen BK122.out 2; have hfz16_3 := blk_frozen BK122.out 3) | ((with_reducible refine gate_callee (f := 16) rfl ?_); refine gL 10 Tryz.func16 #[.int .i64 a0_0] ?_; (with_reducible refine (formularyref10_PartType.calls a0_0 t125 _ A3.out).mono ?_); rintro e w' ⟨rfl, ⟨nd, rfl⟩⟩; refine ⟨_, rfl, ?_⟩; (try (rw [drewN_self w13]; generalize hq_ : World.drewN w13 _ = w13; have n0_ : Aside0 (w13.heap[gb122]? = some (.cells #[.int .i64 a0_0, .int .u64 a0_1, .int .u64 a0_2, .string a0_3] 24 (0, 0))) := ⟨by rw [← hq_]; exact (bks BK122).out⟩; have n1_ : Aside0 (w13.heap[gb123]? = some (.cells #[.int .i64 a1_0, .int .u64 a1_1, .int .u64 a1_2, .string a1_3] 24 (0, 0))) := ⟨by rw [← hq_]; exact (bks BK123).out⟩; have n2_ : Aside0 (w13.heap[gb124]? = some (.cells #[.int .i64 0, .int .u64 0, .int .u64 0, .string (⟨#[]⟩ : ByteArray)] 24 (0, 0))) := ⟨by rw [← hq_]; exact (bks BK124).out⟩; have n3_ : Aside0 (Below w.heap.size w w13) := ⟨by rw [← hq_]; exact (blt HB).out⟩; clear BK122 BK123 BK124 HB hq_; have BK122 := n0_; have BK123 := n1_; have BK124 := n2_; have HB := n3_; clear n0_ n1_ n2_ n3_))))
 replace BK122 := Aside0.mk (blk_drew BK122.out)
 replace BK123 := Aside0.mk (blk_drew BK123.out)
 replace BK124 := Aside0.mk (blk_drew BK124.out)
 replace HB := Aside0.mk (below_drew1 HB.out)
 refine start_ (n := 15) (S := fun w' => w'.cell? ⟨gb122, 0, none⟩ = some (.int .i64 a0_0) ∧ w'.cell? ⟨gb122, 1, none⟩ = some (.int .u64 a0_1) ∧ w'.cell? ⟨gb122, 2, none⟩ = some (.int .u64 a0_2) ∧ w'.cell? ⟨gb122, 3, none⟩ = some (.string a0_3) ∧ w'.cell? ⟨gb123, 0, none⟩ = some (.int .i64 a1_0) ∧ w'.cell? ⟨gb123, 1, none⟩ = some (.int .u64 a1_1) ∧ w'.cell? ⟨gb123, 2, none⟩ = some (.int .u64 a1_2) ∧ w'.cell? ⟨gb123, 3, none⟩ = some (.string a1_3)) (ds := []) #[false, false, false, false, false, false, false, false, false, false, false, false, false, false, false] (by kernel_rfl) rfl rfl ⟨(blk_cell BK122.out 0).trans rfl, (blk_cell BK122.out 1).trans rfl, (blk_cell BK122.out 2).trans rfl, (blk_cell BK122.out 3).trans rfl, (blk_cell BK123.out 0).trans rfl, (blk_cell BK123.out 1).trans rfl, (blk_cell BK123.out 2).trans rfl, (blk_cell BK123.out 3).trans rfl⟩ (fun hHeld => ?_); refine with_tabW formularyref10_Mul.tab2 formularyref10_Mul.bits2 (fun HT_ HW_ => ?_)
 generalize w13.drew = w17 at BK122 BK123 BK124 HB hHeld ⊢
 refine pu 0 11 HT_ ?_
 refine pu 1 12 HT_ ?_
 refine pu 2 13 HT_ ?_
 refine pu 4 15 HT_ ?_
 refine pu 7 18 HT_ ?_
 refine pu 8 19 HT_ ?_
 refine pu 10 21 HT_ ?_
 refine tk 3 14 HT_ HW_ hHeld ?_
 refine tk 5 16 HT_ HW_ hHeld ?_
 refine tk 9 20 HT_ HW_ hHeld ?_
 refine tk 11 22 HT_ HW_ hHeld ?_
 refine one_ (i := 6) (N := some 17) #[true, true, true, true, true, true, true, true, true, true, true, true, false, false, false] rfl rfl (one_of HT_.out (by kernel_rfl)) (by decide) (fun K hK => ?_)
 refine goes_ Tryz.func65 (by kernel_rfl) rfl #[.int .i64 t125, .int .u64 a0_1, .int .u64 a1_1] (by rfl) rfl rfl (by (try simp only [List.map_toArray, List.map_cons, List.map_nil]); first | done | rfl | (simp only [List.length_drop, List.length_take]; rfl)) ?_
 with_reducible refine (formularyref08_Mul.calls t125 a0_1 a1_1 t126 _ A4.out).mono ?_
 rintro e w18 ⟨rfl, hb⟩
 refine ⟨_, rfl, ?_⟩
 replace BK122 := bkb BK122 hb
 replace BK123 := bkb BK123 hb
 replace BK124 := bkb BK124 hb
 replace HB := bls HB hb
 (try clear hb)
 (try clear hb2)
 (try clear hk)
 (try clear hi)
 refine hK.out _ _ ⟨(blk_cell BK122.out 0).trans rfl, (blk_cell BK122.out 1).trans rfl, (blk_cell BK122.out 2).trans rfl, (blk_cell BK122.out 3).trans rfl, (blk_cell BK123.out 0).trans rfl, (blk_cell BK123.out 1).trans rfl, (blk_cell BK123.out 2).trans rfl, (blk_cell BK123.out 3).trans rfl⟩ (fun hHeld => ?_)
 clear hK K
 refine norm_ (a' := ?_) ?_ ?_
 rotate_left
 ·show Act.put _ (some 17) _ = _
  simp only [Act.put, List.setIfInBounds_toArray, List.set_cons_zero, List.set_cons_succ, i64_w, i32_w]
  rfl
 refine one_ (i := 12) (N := some 23) #[true, true, true, true, true, true, true, true, true, true, true, true, true, false, false] rfl rfl (one_of HT_.out (by kernel_rfl)) (by decide) (fun K hK => ?_)
 refine goes_ Tryz.func65 (by kernel_rfl) rfl #[.int .i64 t125, .int .u64 a0_2, .int .u64 a1_2] (by rfl) rfl rfl (by (try simp only [List.map_toArray, List.map_cons, List.map_nil]); first | done | rfl | (simp only [List.length_drop, List.length_take]; rfl)) ?_
 with_reducible refine (formularyref08_Mul.calls t125 a0_2 a1_2 t127 _ A5.out).mono ?_
 rintro e w19 ⟨rfl, hb⟩
 refine ⟨_, rfl, ?_⟩
 replace BK122 := bkb BK122 hb
 replace BK123 := bkb BK123 hb
 replace BK124 := bkb BK124 hb
 replace HB := bls HB hb
 (try clear hb)
 (try clear hb2)
 (try clear hk)
 (try clear hi)
 refine hK.out _ _ ⟨(blk_cell BK122.out 0).trans rfl, (blk_cell BK122.out 1).trans rfl, (blk_cell BK122.out 2).trans rfl, (blk_cell BK122.out 3).trans rfl, (blk_cell BK123.out 0).trans rfl, (blk_cell BK123.out 1).trans rfl, (blk_cell BK123.out 2).trans rfl, (blk_cell BK123.out 3).trans rfl⟩ (fun hHeld => ?_)
 clear hK K
 refine norm_ (a' := ?_) ?_ ?_
 rotate_left
 ·show Act.put _ (some 23) _ = _
  simp only [Act.put, List.setIfInBounds_toArray, List.set_cons_zero, List.set_cons_succ, i64_w, i32_w]
  rfl
 refine one_ (i := 13) (N := some 24) #[true, true, true, true, true, true, true, true, true, true, true, true, true, true, false] rfl rfl (one_of HT_.out (by kernel_rfl)) (by decide) (fun K hK => ?_)
 refine goes_ Tryz.func64 (by kernel_rfl) rfl #[.int .i64 t125, .int .u64 t126, .int .u64 t127] (by rfl) rfl rfl (by (try simp only [List.map_toArray, List.map_cons, List.map_nil]); first | done | rfl | (simp only [List.length_drop, List.length_take]; rfl)) ?_
 with_reducible refine (formularyref08_Minus2.calls t125 t126 t127 t128 _ A6.out).mono ?_
 rintro e w20 ⟨rfl, hb⟩
 refine ⟨_, rfl, ?_⟩
 replace BK122 := bkb BK122 hb
 replace BK123 := bkb BK123 hb
 replace BK124 := bkb BK124 hb
 replace HB := bls HB hb
 (try clear hb)
 (try clear hb2)
 (try clear hk)
 (try clear hi)
 refine hK.out _ _ ⟨(blk_cell BK122.out 0).trans rfl, (blk_cell BK122.out 1).trans rfl, (blk_cell BK122.out 2).trans rfl, (blk_cell BK122.out 3).trans rfl, (blk_cell BK123.out 0).trans rfl, (blk_cell BK123.out 1).trans rfl, (blk_cell BK123.out 2).trans rfl, (blk_cell BK123.out 3).trans rfl⟩ (fun hHeld => ?_)
 clear hK K
 refine norm_ (a' := ?_) ?_ ?_
 rotate_left
 ·show Act.put _ (some 24) _ = _
  simp only [Act.put, List.setIfInBounds_toArray, List.set_cons_zero, List.set_cons_succ, i64_w, i32_w]
  rfl
 refine pu 14 6 HT_ ?_
 refine done_ (done_of HT_.out (by kernel_rfl)) ?_
 try go_wp2
 replace BK122 := Aside0.mk (blk_drew BK122.out)
 replace BK123 := Aside0.mk (blk_drew BK123.out)
 replace BK124 := Aside0.mk (blk_drew BK124.out)
 replace HB := Aside0.mk (below_drew1 HB.out)
 refine start_ (n := 15) (S := fun w' => w'.cell? ⟨gb122, 0, none⟩ = some (.int .i64 a0_0) ∧ w'.cell? ⟨gb122, 1, none⟩ = some (.int .u64 a0_1) ∧ w'.cell? ⟨gb122, 2, none⟩ = some (.int .u64 a0_2) ∧ w'.cell? ⟨gb122, 3, none⟩ = some (.string a0_3) ∧ w'.cell? ⟨gb123, 0, none⟩ = some (.int .i64 a1_0) ∧ w'.cell? ⟨gb123, 1, none⟩ = some (.int .u64 a1_1) ∧ w'.cell? ⟨gb123, 2, none⟩ = some (.int .u64 a1_2) ∧ w'.cell? ⟨gb123, 3, none⟩ = some (.string a1_3)) (ds := []) #[false, false, false, false, false, false, false, false, false, false, false, false, false, false, false] (by kernel_rfl) rfl rfl ⟨(blk_cell BK122.out 0).trans rfl, (blk_cell BK122.out 1).trans rfl, (blk_cell BK122.out 2).trans rfl, (blk_cell BK122.out 3).trans rfl, (blk_cell BK123.out 0).trans rfl, (blk_cell BK123.out 1).trans rfl, (blk_cell BK123.out 2).trans rfl, (blk_cell BK123.out 3).trans rfl⟩ (fun hHeld => ?_); refine with_tabW formularyref10_Mul.tab3 formularyref10_Mul.bits3 (fun HT_ HW_ => ?_)
 generalize w20.drew = w21 at BK122 BK123 BK124 HB hHeld ⊢
 refine pu 0 25 HT_ ?_
 refine pu 1 26 HT_ ?_
 refine pu 2 27 HT_ ?_
 refine pu 4 29 HT_ ?_
 refine pu 7 32 HT_ ?_
 refine pu 8 33 HT_ ?_
 refine pu 10 35 HT_ ?_
 refine tk 3 28 HT_ HW_ hHeld ?_
 refine tk 5 30 HT_ HW_ hHeld ?_
 refine tk 9 34 HT_ HW_ hHeld ?_
 refine tk 11 36 HT_ HW_ hHeld ?_
 refine one_ (i := 6) (N := some 31) #[true, true, true, true, true, true, true, true, true, true, true, true, false, false, false] rfl rfl (one_of HT_.out (by kernel_rfl)) (by decide) (fun K hK => ?_)
 refine goes_ Tryz.func65 (by kernel_rfl) rfl #[.int .i64 t125, .int .u64 a0_1, .int .u64 a1_2] (by rfl) rfl rfl (by (try simp only [List.map_toArray, List.map_cons, List.map_nil]); first | done | rfl | (simp only [List.length_drop, List.length_take]; rfl)) ?_
 with_reducible refine (formularyref08_Mul.calls t125 a0_1 a1_2 t129 _ A7.out).mono ?_
 rintro e w22 ⟨rfl, hb⟩
 refine ⟨_, rfl, ?_⟩
 replace BK122 := bkb BK122 hb
 replace BK123 := bkb BK123 hb
 replace BK124 := bkb BK124 hb
 replace HB := bls HB hb
 (try clear hb)
 (try clear hb2)
 (try clear hk)
 (try clear hi)
 refine hK.out _ _ ⟨(blk_cell BK122.out 0).trans rfl, (blk_cell BK122.out 1).trans rfl, (blk_cell BK122.out 2).trans rfl, (blk_cell BK122.out 3).trans rfl, (blk_cell BK123.out 0).trans rfl, (blk_cell BK123.out 1).trans rfl, (blk_cell BK123.out 2).trans rfl, (blk_cell BK123.out 3).trans rfl⟩ (fun hHeld => ?_)
 clear hK K
 refine norm_ (a' := ?_) ?_ ?_
 rotate_left
 ·show Act.put _ (some 31) _ = _
  simp only [Act.put, List.setIfInBounds_toArray, List.set_cons_zero, List.set_cons_succ, i64_w, i32_w]
  rfl
 refine one_ (i := 12) (N := some 37) #[true, true, true, true, true, true, true, true, true, true, true, true, true, false, false] rfl rfl (one_of HT_.out (by kernel_rfl)) (by decide) (fun K hK => ?_)
 refine goes_ Tryz.func65 (by kernel_rfl) rfl #[.int .i64 t125, .int .u64 a0_2, .int .u64 a1_1] (by rfl) rfl rfl (by (try simp only [List.map_toArray, List.map_cons, List.map_nil]); first | done | rfl | (simp only [List.length_drop, List.length_take]; rfl)) ?_
 with_reducible refine (formularyref08_Mul.calls t125 a0_2 a1_1 t130 _ A8.out).mono ?_
 rintro e w23 ⟨rfl, hb⟩
 refine ⟨_, rfl, ?_⟩
 replace BK122 := bkb BK122 hb
 replace BK123 := bkb BK123 hb
 replace BK124 := bkb BK124 hb
 replace HB := bls HB hb
 (try clear hb)
 (try clear hb2)
 (try clear hk)
 (try clear hi)
 refine hK.out _ _ ⟨(blk_cell BK122.out 0).trans rfl, (blk_cell BK122.out 1).trans rfl, (blk_cell BK122.out 2).trans rfl, (blk_cell BK122.out 3).trans rfl, (blk_cell BK123.out 0).trans rfl, (blk_cell BK123.out 1).trans rfl, (blk_cell BK123.out 2).trans rfl, (blk_cell BK123.out 3).trans rfl⟩ (fun hHeld => ?_)
 clear hK K
 refine norm_ (a' := ?_) ?_ ?_
 rotate_left
 ·show Act.put _ (some 37) _ = _
  simp only [Act.put, List.setIfInBounds_toArray, List.set_cons_zero, List.set_cons_succ, i64_w, i32_w]
  rfl
 refine one_ (i := 13) (N := some 38) #[true, true, true, true, true, true, true, true, true, true, true, true, true, true, false] rfl rfl (one_of HT_.out (by kernel_rfl)) (by decide) (fun K hK => ?_)
 refine goes_ Tryz.func63 (by kernel_rfl) rfl #[.int .i64 t125, .int .u64 t129, .int .u64 t130] (by rfl) rfl rfl (by (try simp only [List.map_toArray, List.map_cons, List.map_nil]); first | done | rfl | (simp only [List.length_drop, List.length_take]; rfl)) ?_
 with_reducible refine (formularyref08_Add.calls t125 t129 t130 t131 _ A9.out).mono ?_
 rintro e w24 ⟨rfl, hb⟩
 refine ⟨_, rfl, ?_⟩
 replace BK122 := bkb BK122 hb
 replace BK123 := bkb BK123 hb
 replace BK124 := bkb BK124 hb
 replace HB := bls HB hb
 (try clear hb)
 (try clear hb2)
 (try clear hk)
 (try clear hi)
 refine hK.out _ _ ⟨(blk_cell BK122.out 0).trans rfl, (blk_cell BK122.out 1).trans rfl, (blk_cell BK122.out 2).trans rfl, (blk_cell BK122.out 3).trans rfl, (blk_cell BK123.out 0).trans rfl, (blk_cell BK123.out 1).trans rfl, (blk_cell BK123.out 2).trans rfl, (blk_cell BK123.out 3).trans rfl⟩ (fun hHeld => ?_)
 clear hK K
 refine norm_ (a' := ?_) ?_ ?_
 rotate_left
 ·show Act.put _ (some 38) _ = _
  simp only [Act.put, List.setIfInBounds_toArray, List.set_cons_zero, List.set_cons_succ, i64_w, i32_w]
  rfl
 refine pu 14 7 HT_ ?_
 refine done_ (done_of HT_.out (by kernel_rfl)) ?_
 have hcz25_0 : w24.cell? ⟨gb122, 0, none⟩ = some (.int .i64 a0_0) := (blk_cell BK122.out 0).trans rfl
 have hcz25_1 : w24.cell? ⟨gb122, 1, none⟩ = some (.int .u64 a0_1) := (blk_cell BK122.out 1).trans rfl
 have hcz25_2 : w24.cell? ⟨gb122, 2, none⟩ = some (.int .u64 a0_2) := (blk_cell BK122.out 2).trans rfl
 have hcz25_3 : w24.cell? ⟨gb122, 3, none⟩ = some (.string a0_3) := (blk_cell BK122.out 3).trans rfl
 have hfz25_0 := blk_frozen BK122.out 0
 have hfz25_1 := blk_frozen BK122.out 1
 have hfz25_2 := blk_frozen BK122.out 2
 have hfz25_3 := blk_frozen BK122.out 3
 try go_wp2_with (first | ((with_reducible refine gate_callee (f := 18) rfl ?_); refine gL 43 Tryz.func18 #[.int .i64 a0_0, .int .u64 t128, .int .u64 t131] ?_; (with_reducible refine (formularyref10_Made.calls a0_0 t128 t131 t132 t133 t134 t135 _ A10.out).mono ?_); rintro e w26 ⟨rfl, hb⟩; refine ⟨_, rfl, ?_⟩; replace BK122 := bkb BK122 hb; replace BK123 := bkb BK123 hb; replace BK124 := bkb BK124 hb; replace HB := bls HB hb; clear hb; have hnb27 := NB124_123.out; have hnc27 := NB123_124.out; have hcz28_0 : w26.cell? ⟨gb124, 0, none⟩ = some (.int .i64 0) := (blk_cell BK124.out 0).trans rfl; have hcz28_1 : w26.cell? ⟨gb124, 1, none⟩ = some (.int .u64 0) := (blk_cell BK124.out 1).trans rfl; have hcz28_2 : w26.cell? ⟨gb124, 2, none⟩ = some (.int .u64 0) := (blk_cell BK124.out 2).trans rfl; have hcz28_3 : w26.cell? ⟨gb124, 3, none⟩ = some (.string (⟨#[]⟩ : ByteArray)) := (blk_cell BK124.out 3).trans rfl; have hfz28_0 := blk_frozen BK124.out 0; have hfz28_1 := blk_frozen BK124.out 1; have hfz28_2 := blk_frozen BK124.out 2; have hfz28_3 := blk_frozen BK124.out 3))
 refine bodyPost_ret (results_cell_row rfl _ _ gb124 24 #[.int .i64 t132, .int .u64 t133, .int .u64 t134, .string t135] (0, 0) _ rfl (by (with_reducible repeat (first | refine blk_drewN ?_ _ | refine blk_drew ?_ | refine blk_alloc ?_ _)); refine blk_put (cs := #[.int .i64 t132, .int .u64 t133, .int .u64 t134, .string (⟨#[]⟩ : ByteArray)]) ?_ 3 _ rfl; (with_reducible repeat (first | refine blk_drewN ?_ _ | refine blk_drew ?_ | refine blk_alloc ?_ _)); refine blk_put (cs := #[.int .i64 t132, .int .u64 t133, .int .u64 0, .string (⟨#[]⟩ : ByteArray)]) ?_ 2 _ rfl; (with_reducible repeat (first | refine blk_drewN ?_ _ | refine blk_drew ?_ | refine blk_alloc ?_ _)); refine blk_put (cs := #[.int .i64 t132, .int .u64 0, .int .u64 0, .string (⟨#[]⟩ : ByteArray)]) ?_ 1 _ rfl; (with_reducible repeat (first | refine blk_drewN ?_ _ | refine blk_drew ?_ | refine blk_alloc ?_ _)); refine blk_put (cs := #[.int .i64 0, .int .u64 0, .int .u64 0, .string (⟨#[]⟩ : ByteArray)]) ?_ 0 _ rfl; (with_reducible repeat (first | refine blk_drewN ?_ _ | refine blk_drew ?_ | refine blk_alloc ?_ _)); exact BK124.out) Tryz.underlying24 rfl (by kernel_rfl)) rfl ?_
 exact ⟨by first | rfl | (simp [errW_none, errW_some] <;> rfl) | (simp [*, errW_none, errW_some] <;> rfl), (blt HB).out⟩
end Go.Proofs.YtmoimcblmmcffaaGreat.PRA

namespace Go.Proofs.YtmoimcblmmcffaaGreat.PRA
open Go.RowKit Go.Proofs.YtmoimcblmmcffaaGreatW.PrintWords Go.Proofs.YtmoimcblmmcffaaGreatW.PrintLast Go.Proofs.YtmoimcblmmcffaaGreatW.PrintMore Go.Proofs.YtmoimcblmmcffaaGreatW.PrintZ
attribute [local go_sem] max2_int min2_int max_two min_two max_three min_three max_four min_four   -- for this text's walks alone
set_option linter.unusedVariables false
set_option linter.unusedSimpArgs false
def formularyref10_Div.f (a0_0 : Int) (a0_1 : Int) (a0_2 : Int) (a0_3 : ByteArray) (a1_0 : Int) (a1_1 : Int) (a1_2 : Int) (a1_3 : ByteArray) : Option (Int × Int × Int × ByteArray) := (formularyref10_PartType.f a0_0).bind fun t139 => ((formularyref08_Sized.f t139 a1_1).bind fun t140 => ((formularyref08_Sized.f t139 a1_2).bind fun t141 => ((formularyref08_Compare.f t139 t140 t141).bind fun t142 => (if t142 = (-1) then ((formularyref08_Div.f t139 a1_1 a1_2).bind fun t156 => ((formularyref08_Mul.f t139 t156 a1_1).bind fun t157 => ((formularyref08_Add.f t139 a1_2 t157).bind fun t158 => ((formularyref08_Mul.f t139 a0_1 t156).bind fun t159 => ((formularyref08_Add.f t139 t159 a0_2).bind fun t160 => ((formularyref08_Div.f t139 t160 t158).bind fun t161 => ((formularyref08_Mul.f t139 a0_2 t156).bind fun t162 => ((formularyref08_Minus2.f t139 t162 a0_1).bind fun t163 => ((formularyref08_Div.f t139 t163 t158).bind fun t164 => ((formularyref10_Made.f a0_0 t161 t164).bind fun bt165 => (some (bt165.1, bt165.2.1, bt165.2.2.1, bt165.2.2.2)))))))))))) else ((formularyref08_Div.f t139 a1_2 a1_1).bind fun t143 => ((formularyref08_Mul.f t139 t143 a1_2).bind fun t144 => ((formularyref08_Add.f t139 a1_1 t144).bind fun t145 => ((formularyref08_Mul.f t139 a0_2 t143).bind fun t146 => ((formularyref08_Add.f t139 a0_1 t146).bind fun t147 => ((formularyref08_Div.f t139 t147 t145).bind fun t148 => ((formularyref08_Mul.f t139 a0_1 t143).bind fun t149 => ((formularyref08_Minus2.f t139 a0_2 t149).bind fun t150 => ((formularyref08_Div.f t139 t150 t145).bind fun t151 => ((formularyref10_Made.f a0_0 t148 t151).bind fun bt152 => (some (bt152.1, bt152.2.1, bt152.2.2.1, bt152.2.2.2))))))))))))))))
def formularyref10_Div.T2 : Bool × List (List Nat × List Nat) := (true, [([], []), ([0], [0]), ([], []), ([2], [2]), ([], []), ([4], [4]), ([], []), ([6], [6]), ([1, 0, 1], [1]), ([3, 8, 0, 1, 2, 3, 8], [3]), ([5, 9, 0, 1, 2, 3, 4, 5, 8, 9], [5]), ([7, 10, 0, 1, 2, 3, 4, 5, 6, 7, 8, 9, 10], [7])])
def formularyref10_Div.B2 : List Nat := [0, 1, 0, 4, 0, 16, 0, 64, 3, 271, 831, 2047]
theorem formularyref10_Div.tab2 : rtab .any (opsOf Tryz.f61 2) = formularyref10_Div.T2 := by kernel_rfl
theorem formularyref10_Div.bits2 : waitsOk formularyref10_Div.T2.2 formularyref10_Div.B2 = true := by kernel_rfl
def formularyref10_Div.T6 : Bool × List (List Nat × List Nat) := (true, [([], []), ([0], [0]), ([], []), ([], []), ([], []), ([], []), ([], []), ([], []), ([5, 6, 7], [5, 6, 7]), ([3, 4, 8, 8], [3, 4, 8]), ([], []), ([2, 9, 10, 9], [2, 9, 10]), ([], []), ([], []), ([], []), ([], []), ([], []), ([], []), ([15, 16, 17, 11], [15, 16, 17]), ([13, 14, 18, 18], [13, 14, 18]), ([], []), ([12, 19, 20, 19], [12, 19, 20]), ([1, 11, 21, 21], [1, 11, 21]), ([22, 22, 0, 1, 2, 3, 4, 5, 6, 7, 8, 9, 10, 11, 12, 13, 14, 15, 16, 17, 18, 19, 20, 21, 22], [22])])
def formularyref10_Div.B6 : List Nat := [0, 1, 0, 0, 0, 0, 0, 0, 224, 504, 0, 2044, 0, 0, 0, 0, 0, 0, 233468, 520188, 0, 2097148, 4194303, 8388607]
theorem formularyref10_Div.tab6 : rtab .any (opsOf Tryz.f61 6) = formularyref10_Div.T6 := by kernel_rfl
theorem formularyref10_Div.bits6 : waitsOk formularyref10_Div.T6.2 formularyref10_Div.B6 = true := by kernel_rfl
def formularyref10_Div.T9 : Bool × List (List Nat × List Nat) := (true, [([], []), ([0], [0]), ([], []), ([], []), ([], []), ([], []), ([], []), ([4, 5, 6], [4, 5, 6]), ([], []), ([3, 7, 8, 7], [3, 7, 8]), ([], []), ([2, 9, 10, 9], [2, 9, 10]), ([], []), ([], []), ([], []), ([], []), ([], []), ([14, 15, 16, 11], [14, 15, 16]), ([], []), ([13, 17, 18, 17], [13, 17, 18]), ([], []), ([12, 19, 20, 19], [12, 19, 20]), ([1, 11, 21, 21], [1, 11, 21]), ([22, 22, 0, 1, 2, 3, 4, 5, 6, 7, 8, 9, 10, 11, 12, 13, 14, 15, 16, 17, 18, 19, 20, 21, 22], [22])])
def formularyref10_Div.B9 : List Nat := [0, 1, 0, 0, 0, 0, 0, 112, 0, 504, 0, 2044, 0, 0, 0, 0, 0, 118780, 0, 520188, 0, 2097148, 4194303, 8388607]
theorem formularyref10_Div.tab9 : rtab .any (opsOf Tryz.f61 9) = formularyref10_Div.T9 := by kernel_rfl
theorem formularyref10_Div.bits9 : waitsOk formularyref10_Div.T9.2 formularyref10_Div.B9 = true := by kernel_rfl
set_option maxHeartbeats 8000000 in
set_option maxRecDepth 100000 in
theorem formularyref10_Div.calls (a0_0 : Int) (a0_1 : Int) (a0_2 : Int) (a0_3 : ByteArray) (a1_0 : Int) (a1_1 : Int) (a1_2 : Int) (a1_3 : ByteArray) (r1 : Int) (r2 : Int) (r3 : Int) (r4 : ByteArray) (w : World) (h : formularyref10_Div.f a0_0 a0_1 a0_2 a0_3 a1_0 a1_1 a1_2 a1_3 = some (r1, r2, r3, r4)) :
  Calls Tryz.prog 61 #[.agg #[.int .i64 a0_0, .int .u64 a0_1, .int .u64 a0_2, .string a0_3], .agg #[.int .i64 a1_0, .int .u64 a1_1, .int .u64 a1_2, .string a1_3]] w fun e w' => e = .returned (.agg #[.int .i64 r1, .int .u64 r2, .int .u64 r3, .string r4]) ∧ Below w.heap.size w w' := by
 have hu24 := Tryz.underlying24
 have HB := Aside0.mk (Below.refl w.heap.size w)
 have H : ((formularyref10_PartType.f a0_0).bind fun t139 => ((formularyref08_Sized.f t139 a1_1).bind fun t140 => ((formularyref08_Sized.f t139 a1_2).bind fun t141 => ((formularyref08_Compare.f t139 t140 t141).bind fun t142 => (if t142 = (-1) then ((formularyref08_Div.f t139 a1_1 a1_2).bind fun t156 => ((formularyref08_Mul.f t139 t156 a1_1).bind fun t157 => ((formularyref08_Add.f t139 a1_2 t157).bind fun t158 => ((formularyref08_Mul.f t139 a0_1 t156).bind fun t159 => ((formularyref08_Add.f t139 t159 a0_2).bind fun t160 => ((formularyref08_Div.f t139 t160 t158).bind fun t161 => ((formularyref08_Mul.f t139 a0_2 t156).bind fun t162 => ((formularyref08_Minus2.f t139 t162 a0_1).bind fun t163 => ((formularyref08_Div.f t139 t163 t158).bind fun t164 => ((formularyref10_Made.f a0_0 t161 t164).bind fun bt165 => (some (bt165.1, bt165.2.1, bt165.2.2.1, bt165.2.2.2)))))))))))) else ((formularyref08_Div.f t139 a1_2 a1_1).bind fun t143 => ((formularyref08_Mul.f t139 t143 a1_2).bind fun t144 => ((formularyref08_Add.f t139 a1_1 t144).bind fun t145 => ((formularyref08_Mul.f t139 a0_2 t143).bind fun t146 => ((formularyref08_Add.f t139 a0_1 t146).bind fun t147 => ((formularyref08_Div.f t139 t147 t145).bind fun t148 => ((formularyref08_Mul.f t139 a0_1 t143).bind fun t149 => ((formularyref08_Minus2.f t139 a0_2 t149).bind fun t150 => ((formularyref08_Div.f t139 t150 t145).bind fun t151 => ((formularyref10_Made.f a0_0 t148 t151).bind fun bt152 => (some (bt152.1, bt152.2.1, bt152.2.2.1, bt152.2.2.2))))))))))))))))) = some (r1, r2, r3, r4) := h
 clear h
 replace H := Option.bind_eq_some_iff.mp H
 obtain ⟨t139, A3, H⟩ := H
 try dsimp only at H
 replace A3 := Aside0.mk A3
 replace H := Option.bind_eq_some_iff.mp H
 obtain ⟨t140, A4, H⟩ := H
 try dsimp only at H
 replace A4 := Aside0.mk A4
 replace H := Option.bind_eq_some_iff.mp H
 obtain ⟨t141, A5, H⟩ := H
 try dsimp only at H
 replace A5 := Aside0.mk A5
 replace H := Option.bind_eq_some_iff.mp H
 obtain ⟨t142, A6, H⟩ := H
 try dsimp only at H
 replace A6 := Aside0.mk A6
 by_cases c7 : t142 = (-1)
 ·rw [if_pos c7] at H
  have c7b0 : (t142 == (-1)) = true := beq_iff_eq.mpr c7
  have c7b1 : (t142 != (-1)) = false := bne_eq_false_iff_eq.mpr c7
  clear c7
  replace H := Option.bind_eq_some_iff.mp H
  obtain ⟨t156, A8, H⟩ := H
  try dsimp only at H
  replace A8 := Aside0.mk A8
  replace H := Option.bind_eq_some_iff.mp H
  obtain ⟨t157, A9, H⟩ := H
  try dsimp only at H
  replace A9 := Aside0.mk A9
  replace H := Option.bind_eq_some_iff.mp H
  obtain ⟨t158, A10, H⟩ := H
  try dsimp only at H
  replace A10 := Aside0.mk A10
  replace H := Option.bind_eq_some_iff.mp H
  obtain ⟨t159, A11, H⟩ := H
  try dsimp only at H
  replace A11 := Aside0.mk A11
  replace H := Option.bind_eq_some_iff.mp H
  obtain ⟨t160, A12, H⟩ := H
  try dsimp only at H
  replace A12 := Aside0.mk A12
  replace H := Option.bind_eq_some_iff.mp H
  obtain ⟨t161, A13, H⟩ := H
  try dsimp only at H
  replace A13 := Aside0.mk A13
  replace H := Option.bind_eq_some_iff.mp H
  obtain ⟨t162, A14, H⟩ := H
  try dsimp only at H
  replace A14 := Aside0.mk A14
  replace H := Option.bind_eq_some_iff.mp H
  obtain ⟨t163, A15, H⟩ := H
  try dsimp only at H
  replace A15 := Aside0.mk A15
  replace H := Option.bind_eq_some_iff.mp H
  obtain ⟨t164, A16, H⟩ := H
  try dsimp only at H
  replace A16 := Aside0.mk A16
  replace H := Option.bind_eq_some_iff.mp H
  obtain ⟨⟨t165, t166, t167, t168⟩, A17, H⟩ := H
  try dsimp only at H
  replace A17 := Aside0.mk A17
  simp only [Option.some.injEq, Prod.mk.injEq] at H
  obtain ⟨rfl, rfl, rfl, rfl⟩ := H
  go_enter Tryz.func61, Tryz.ntmps61
  try go_wp2_with (first | ((with_reducible refine gate_dst (N := 2) rfl ?_); refine bxe 2 (cs := #[.int .i64 a0_0, .int .u64 a0_1, .int .u64 a0_2, .string a0_3]) (t := 24) ?_; intro gb136 hg w18 hbox hb; have BK136 := Aside0.mk hbox; have GW136 := bsz HB hg; have GE136 := bsz HB hg; replace HB := bls HB hb; clear hb hbox hg) | ((with_reducible refine gate_dst (N := 3) rfl ?_); refine bxe 3 (cs := #[.int .i64 a1_0, .int .u64 a1_1, .int .u64 a1_2, .string a1_3]) (t := 24) ?_; intro gb137 hg w19 hbox hb; have BK137 := Aside0.mk hbox; have GW137 := bsz HB hg; have GE137 := bsz HB hg; have NB136_137 := bnl BK136 hg; have NB137_136 := bng BK136 hg; replace BK136 := bkb BK136 hb; replace HB := bls HB hb; clear hb hbox hg) | ((with_reducible refine gate_dst (N := 4) rfl ?_); refine bxe 4 (cs := #[.int .i64 0, .int .u64 0, .int .u64 0, .string (⟨#[]⟩ : ByteArray)]) (t := 24) ?_; intro gb138 hg w20 hbox hb; have BK138 := Aside0.mk hbox; have GW138 := bsz HB hg; have GE138 := bsz HB hg; have NB136_138 := bnl BK136 hg; have NB138_136 := bng BK136 hg; have NB137_138 := bnl BK137 hg; have NB138_137 := bng BK137 hg; replace BK136 := bkb BK136 hb; replace BK137 := bkb BK137 hb; replace HB := bls HB hb; clear hb hbox hg; have hnb21 := NB136_137.out; have hnc21 := NB137_136.out; have hnb22 := NB136_138.out; have hnc22 := NB138_136.out; have hcz23_0 : w20.cell? ⟨gb136, 0, none⟩ = some (.int .i64 a0_0) := (blk_cell BK136.out 0).trans rfl; have hcz23_1 : w20.cell? ⟨gb136, 1, none⟩ = some (.int .u64 a0_1) := (blk_cell BK136.out 1).trans rfl; have hcz23_2 : w20.cell? ⟨gb136, 2, none⟩ = some (.int .u64 a0_2) := (blk_cell BK136.out 2).trans rfl; have hcz23_3 : w20.cell? ⟨gb136, 3, none⟩ = some (.string a0_3) := (blk_cell BK136.out 3).trans rfl; have hfz23_0 := blk_frozen BK136.out 0; have hfz23_1 := blk_frozen BK136.out 1; have hfz23_2 := blk_frozen BK136.out 2; have hfz23_3 := blk_frozen BK136.out 3) | ((with_reducible refine gate_callee (f := 16) rfl ?_); refine gL 16 Tryz.func16 #[.int .i64 a0_0] ?_; (with_reducible refine (formularyref10_PartType.calls a0_0 t139 _ A3.out).mono ?_); rintro e w' ⟨rfl, ⟨nd, rfl⟩⟩; refine ⟨_, rfl, ?_⟩; (try (rw [drewN_self w20]; generalize hq_ : World.drewN w20 _ = w20; have n0_ : Aside0 (w20.heap[gb136]? = some (.cells #[.int .i64 a0_0, .int .u64 a0_1, .int .u64 a0_2, .string a0_3] 24 (0, 0))) := ⟨by rw [← hq_]; exact (bks BK136).out⟩; have n1_ : Aside0 (w20.heap[gb137]? = some (.cells #[.int .i64 a1_0, .int .u64 a1_1, .int .u64 a1_2, .string a1_3] 24 (0, 0))) := ⟨by rw [← hq_]; exact (bks BK137).out⟩; have n2_ : Aside0 (w20.heap[gb138]? = some (.cells #[.int .i64 0, .int .u64 0, .int .u64 0, .string (⟨#[]⟩ : ByteArray)] 24 (0, 0))) := ⟨by rw [← hq_]; exact (bks BK138).out⟩; have n3_ : Aside0 (Below w.heap.size w w20) := ⟨by rw [← hq_]; exact (blt HB).out⟩; clear BK136 BK137 BK138 HB hq_; have BK136 := n0_; have BK137 := n1_; have BK138 := n2_; have HB := n3_; clear n0_ n1_ n2_ n3_))))
  replace BK136 := Aside0.mk (blk_drew BK136.out)
  replace BK137 := Aside0.mk (blk_drew BK137.out)
  replace BK138 := Aside0.mk (blk_drew BK138.out)
  replace HB := Aside0.mk (below_drew1 HB.out)
  refine start_ (n := 12) (S := fun w' => w'.cell? ⟨gb136, 0, none⟩ = some (.int .i64 a0_0) ∧ w'.cell? ⟨gb136, 1, none⟩ = some (.int .u64 a0_1) ∧ w'.cell? ⟨gb136, 2, none⟩ = some (.int .u64 a0_2) ∧ w'.cell? ⟨gb136, 3, none⟩ = some (.string a0_3) ∧ w'.cell? ⟨gb137, 0, none⟩ = some (.int .i64 a1_0) ∧ w'.cell? ⟨gb137, 1, none⟩ = some (.int .u64 a1_1) ∧ w'.cell? ⟨gb137, 2, none⟩ = some (.int .u64 a1_2) ∧ w'.cell? ⟨gb137, 3, none⟩ = some (.string a1_3)) (ds := []) #[false, false, false, false, false, false, false, false, false, false, false, false] (by kernel_rfl) rfl rfl ⟨(blk_cell BK136.out 0).trans rfl, (blk_cell BK136.out 1).trans rfl, (blk_cell BK136.out 2).trans rfl, (blk_cell BK136.out 3).trans rfl, (blk_cell BK137.out 0).trans rfl, (blk_cell BK137.out 1).trans rfl, (blk_cell BK137.out 2).trans rfl, (blk_cell BK137.out 3).trans rfl⟩ (fun hHeld => ?_); refine with_tabW formularyref10_Div.tab2 formularyref10_Div.bits2 (fun HT_ HW_ => ?_)
  generalize w20.drew = w24 at BK136 BK137 BK138 HB hHeld ⊢
  refine pu 0 17 HT_ ?_
  refine pu 2 19 HT_ ?_
  refine pu 4 21 HT_ ?_
  refine pu 6 23 HT_ ?_
  refine tk 1 18 HT_ HW_ hHeld ?_
  refine pu 8 6 HT_ ?_
  refine tk 3 20 HT_ HW_ hHeld ?_
  refine pu 9 7 HT_ ?_
  refine tk 5 22 HT_ HW_ hHeld ?_
  refine pu 10 8 HT_ ?_
  refine tk 7 24 HT_ HW_ hHeld ?_
  refine pu 11 9 HT_ ?_
  refine done_ (done_of HT_.out (by kernel_rfl)) ?_
  try go_wp2_with (first | ((with_reducible refine gate_callee (f := 84) rfl ?_); refine gL 28 Tryz.func84 #[.int .i64 t139, .int .u64 a1_1] ?_; (with_reducible refine (formularyref08_Sized.calls t139 a1_1 t140 _ A4.out).mono ?_); rintro e w25 ⟨rfl, hb⟩; refine ⟨_, rfl, ?_⟩; replace BK136 := bkb BK136 hb; replace BK137 := bkb BK137 hb; replace BK138 := bkb BK138 hb; replace HB := bls HB hb; clear hb) | ((with_reducible refine gate_callee (f := 84) rfl ?_); refine gL 31 Tryz.func84 #[.int .i64 t139, .int .u64 a1_2] ?_; (with_reducible refine (formularyref08_Sized.calls t139 a1_2 t141 _ A5.out).mono ?_); rintro e w26 ⟨rfl, hb⟩; refine ⟨_, rfl, ?_⟩; replace BK136 := bkb BK136 hb; replace BK137 := bkb BK137 hb; replace BK138 := bkb BK138 hb; replace HB := bls HB hb; clear hb) | ((with_reducible refine gate_callee (f := 62) rfl ?_); refine gL 32 Tryz.func62 #[.int .i64 t139, .int .u64 t140, .int .u64 t141] ?_; (with_reducible refine (formularyref08_Compare.calls t139 t140 t141 t142 _ A6.out).mono ?_); rintro e w27 ⟨rfl, hb⟩; refine ⟨_, rfl, ?_⟩; replace BK136 := bkb BK136 hb; replace BK137 := bkb BK137 hb; replace BK138 := bkb BK138 hb; replace HB := bls HB hb; clear hb) | ((with_reducible refine gate_callee (f := 66) rfl ?_); refine gL 71 Tryz.func66 #[.int .i64 t139, .int .u64 a1_1, .int .u64 a1_2] ?_; (with_reducible refine (formularyref08_Div.calls t139 a1_1 a1_2 t156 _ A8.out).mono ?_); rintro e w28 ⟨rfl, hb⟩; refine ⟨_, rfl, ?_⟩; replace BK136 := bkb BK136 hb; replace BK137 := bkb BK137 hb; replace BK138 := bkb BK138 hb; replace HB := bls HB hb; clear hb) | ((with_reducible refine gate_callee (f := 65) rfl ?_); refine gL 77 Tryz.func65 #[.int .i64 t139, .int .u64 t156, .int .u64 a1_1] ?_; (with_reducible refine (formularyref08_Mul.calls t139 t156 a1_1 t157 _ A9.out).mono ?_); rintro e w29 ⟨rfl, hb⟩; refine ⟨_, rfl, ?_⟩; replace BK136 := bkb BK136 hb; replace BK137 := bkb BK137 hb; replace BK138 := bkb BK138 hb; replace HB := bls HB hb; clear hb) | ((with_reducible refine gate_callee (f := 63) rfl ?_); refine gL 78 Tryz.func63 #[.int .i64 t139, .int .u64 a1_2, .int .u64 t157] ?_; (with_reducible refine (formularyref08_Add.calls t139 a1_2 t157 t158 _ A10.out).mono ?_); rintro e w30 ⟨rfl, hb⟩; refine ⟨_, rfl, ?_⟩; replace BK136 := bkb BK136 hb; replace BK137 := bkb BK137 hb; replace BK138 := bkb BK138 hb; replace HB := bls HB hb; clear hb))
  replace BK136 := Aside0.mk (blk_drew BK136.out)
  replace BK137 := Aside0.mk (blk_drew BK137.out)
  replace BK138 := Aside0.mk (blk_drew BK138.out)
  replace HB := Aside0.mk (below_drew1 HB.out)
  refine start_ (n := 24) (S := fun w' => w'.cell? ⟨gb136, 0, none⟩ = some (.int .i64 a0_0) ∧ w'.cell? ⟨gb136, 1, none⟩ = some (.int .u64 a0_1) ∧ w'.cell? ⟨gb136, 2, none⟩ = some (.int .u64 a0_2) ∧ w'.cell? ⟨gb136, 3, none⟩ = some (.string a0_3)) (ds := []) #[false, false, false, false, false, false, false, false, false, false, false, false, false, false, false, false, false, false, false, false, false, false, false, false] (by kernel_rfl) rfl rfl ⟨(blk_cell BK136.out 0).trans rfl, (blk_cell BK136.out 1).trans rfl, (blk_cell BK136.out 2).trans rfl, (blk_cell BK136.out 3).trans rfl⟩ (fun hHeld => ?_); refine with_tabW formularyref10_Div.tab9 formularyref10_Div.bits9 (fun HT_ HW_ => ?_)
  generalize w30.drew = w31 at BK136 BK137 BK138 HB hHeld ⊢
  refine pu 0 79 HT_ ?_
  refine pu 2 81 HT_ ?_
  refine pu 3 82 HT_ ?_
  refine pu 4 83 HT_ ?_
  refine pu 5 84 HT_ ?_
  refine pu 6 85 HT_ ?_
  refine pu 8 87 HT_ ?_
  refine pu 10 89 HT_ ?_
  refine pu 12 91 HT_ ?_
  refine pu 13 92 HT_ ?_
  refine pu 14 93 HT_ ?_
  refine pu 15 94 HT_ ?_
  refine pu 16 95 HT_ ?_
  refine pu 18 97 HT_ ?_
  refine pu 20 99 HT_ ?_
  refine tk 1 80 HT_ HW_ hHeld ?_
  refine one_ (i := 7) (N := some 86) #[true, true, true, true, true, true, true, true, true, false, true, false, true, true, true, true, true, false, true, false, true, false, false, false] rfl rfl (one_of HT_.out (by kernel_rfl)) (by decide) (fun K hK => ?_)
  refine goes_ Tryz.func65 (by kernel_rfl) rfl #[.int .i64 t139, .int .u64 a0_1, .int .u64 t156] (by rfl) rfl rfl (by (try simp only [List.map_toArray, List.map_cons, List.map_nil]); first | done | rfl | (simp only [List.length_drop, List.length_take]; rfl)) ?_
  with_reducible refine (formularyref08_Mul.calls t139 a0_1 t156 t159 _ A11.out).mono ?_
  rintro e w32 ⟨rfl, hb⟩
  refine ⟨_, rfl, ?_⟩
  replace BK136 := bkb BK136 hb
  replace BK137 := bkb BK137 hb
  replace BK138 := bkb BK138 hb
  replace HB := bls HB hb
  (try clear hb)
  (try clear hb2)
  (try clear hk)
  (try clear hi)
  refine hK.out _ _ ⟨(blk_cell BK136.out 0).trans rfl, (blk_cell BK136.out 1).trans rfl, (blk_cell BK136.out 2).trans rfl, (blk_cell BK136.out 3).trans rfl⟩ (fun hHeld => ?_)
  clear hK K
  refine norm_ (a' := ?_) ?_ ?_
  rotate_left
  ·show Act.put _ (some 86) _ = _
   simp only [Act.put, List.setIfInBounds_toArray, List.set_cons_zero, List.set_cons_succ, i64_w, i32_w]
   rfl
  refine one_ (i := 9) (N := some 88) #[true, true, true, true, true, true, true, true, true, true, true, false, true, true, true, true, true, false, true, false, true, false, false, false] rfl rfl (one_of HT_.out (by kernel_rfl)) (by decide) (fun K hK => ?_)
  refine goes_ Tryz.func63 (by kernel_rfl) rfl #[.int .i64 t139, .int .u64 t159, .int .u64 a0_2] (by rfl) rfl rfl (by (try simp only [List.map_toArray, List.map_cons, List.map_nil]); first | done | rfl | (simp only [List.length_drop, List.length_take]; rfl)) ?_
  with_reducible refine (formularyref08_Add.calls t139 t159 a0_2 t160 _ A12.out).mono ?_
  rintro e w33 ⟨rfl, hb⟩
  refine ⟨_, rfl, ?_⟩
  replace BK136 := bkb BK136 hb
  replace BK137 := bkb BK137 hb
  replace BK138 := bkb BK138 hb
  replace HB := bls HB hb
  (try clear hb)
  (try clear hb2)
  (try clear hk)
  (try clear hi)
  refine hK.out _ _ ⟨(blk_cell BK136.out 0).trans rfl, (blk_cell BK136.out 1).trans rfl, (blk_cell BK136.out 2).trans rfl, (blk_cell BK136.out 3).trans rfl⟩ (fun hHeld => ?_)
  clear hK K
  refine norm_ (a' := ?_) ?_ ?_
  rotate_left
  ·show Act.put _ (some 88) _ = _
   simp only [Act.put, List.setIfInBounds_toArray, List.set_cons_zero, List.set_cons_succ, i64_w, i32_w]
   rfl
  refine one_ (i := 11) (N := some 90) #[true, true, true, true, true, true, true, true, true, true, true, true, true, true, true, true, true, false, true, false, true, false, false, false] rfl rfl (one_of HT_.out (by kernel_rfl)) (by decide) (fun K hK => ?_)
  refine goes_ Tryz.func66 (by kernel_rfl) rfl #[.int .i64 t139, .int .u64 t160, .int .u64 t158] (by rfl) rfl rfl (by (try simp only [List.map_toArray, List.map_cons, List.map_nil]); first | done | rfl | (simp only [List.length_drop, List.length_take]; rfl)) ?_
  with_reducible refine (formularyref08_Div.calls t139 t160 t158 t161 _ A13.out).mono ?_
  rintro e w34 ⟨rfl, hb⟩
  refine ⟨_, rfl, ?_⟩
  replace BK136 := bkb BK136 hb
  replace BK137 := bkb BK137 hb
  replace BK138 := bkb BK138 hb
  replace HB := bls HB hb
  (try clear hb)
  (try clear hb2)
  (try clear hk)
  (try clear hi)
  refine hK.out _ _ ⟨(blk_cell BK136.out 0).trans rfl, (blk_cell BK136.out 1).trans rfl, (blk_cell BK136.out 2).trans rfl, (blk_cell BK136.out 3).trans rfl⟩ (fun hHeld => ?_)
  clear hK K
  refine norm_ (a' := ?_) ?_ ?_
  rotate_left
  ·show Act.put _ (some 90) _ = _
   simp only [Act.put, List.setIfInBounds_toArray, List.set_cons_zero, List.set_cons_succ, i64_w, i32_w]
   rfl
  refine one_ (i := 17) (N := some 96) #[true, true, true, true, true, true, true, true, true, true, true, true, true, true, true, true, true, true, true, false, true, false, false, false] rfl rfl (one_of HT_.out (by kernel_rfl)) (by decide) (fun K hK => ?_)
  refine goes_ Tryz.func65 (by kernel_rfl) rfl #[.int .i64 t139, .int .u64 a0_2, .int .u64 t156] (by rfl) rfl rfl (by (try simp only [List.map_toArray, List.map_cons, List.map_nil]); first | done | rfl | (simp only [List.length_drop, List.length_take]; rfl)) ?_
  with_reducible refine (formularyref08_Mul.calls t139 a0_2 t156 t162 _ A14.out).mono ?_
  rintro e w35 ⟨rfl, hb⟩
  refine ⟨_, rfl, ?_⟩
  replace BK136 := bkb BK136 hb
  replace BK137 := bkb BK137 hb
  replace BK138 := bkb BK138 hb
  replace HB := bls HB hb
  (try clear hb)
  (try clear hb2)
  (try clear hk)
  (try clear hi)
  refine hK.out _ _ ⟨(blk_cell BK136.out 0).trans rfl, (blk_cell BK136.out 1).trans rfl, (blk_cell BK136.out 2).trans rfl, (blk_cell BK136.out 3).trans rfl⟩ (fun hHeld => ?_)
  clear hK K
  refine norm_ (a' := ?_) ?_ ?_
  rotate_left
  ·show Act.put _ (some 96) _ = _
   simp only [Act.put, List.setIfInBounds_toArray, List.set_cons_zero, List.set_cons_succ, i64_w, i32_w]
   rfl
  refine one_ (i := 19) (N := some 98) #[true, true, true, true, true, true, true, true, true, true, true, true, true, true, true, true, true, true, true, true, true, false, false, false] rfl rfl (one_of HT_.out (by kernel_rfl)) (by decide) (fun K hK => ?_)
  refine goes_ Tryz.func64 (by kernel_rfl) rfl #[.int .i64 t139, .int .u64 t162, .int .u64 a0_1] (by rfl) rfl rfl (by (try simp only [List.map_toArray, List.map_cons, List.map_nil]); first | done | rfl | (simp only [List.length_drop, List.length_take]; rfl)) ?_
  with_reducible refine (formularyref08_Minus2.calls t139 t162 a0_1 t163 _ A15.out).mono ?_
  rintro e w36 ⟨rfl, hb⟩
  refine ⟨_, rfl, ?_⟩
  replace BK136 := bkb BK136 hb
  replace BK137 := bkb BK137 hb
  replace BK138 := bkb BK138 hb
  replace HB := bls HB hb
  (try clear hb)
  (try clear hb2)
  (try clear hk)
  (try clear hi)
  refine hK.out _ _ ⟨(blk_cell BK136.out 0).trans rfl, (blk_cell BK136.out 1).trans rfl, (blk_cell BK136.out 2).trans rfl, (blk_cell BK136.out 3).trans rfl⟩ (fun hHeld => ?_)
  clear hK K
  refine norm_ (a' := ?_) ?_ ?_
  rotate_left
  ·show Act.put _ (some 98) _ = _
   simp only [Act.put, List.setIfInBounds_toArray, List.set_cons_zero, List.set_cons_succ, i64_w, i32_w]
   rfl
  refine one_ (i := 21) (N := some 100) #[true, true, true, true, true, true, true, true, true, true, true, true, true, true, true, true, true, true, true, true, true, true, false, false] rfl rfl (one_of HT_.out (by kernel_rfl)) (by decide) (fun K hK => ?_)
  refine goes_ Tryz.func66 (by kernel_rfl) rfl #[.int .i64 t139, .int .u64 t163, .int .u64 t158] (by rfl) rfl rfl (by (try simp only [List.map_toArray, List.map_cons, List.map_nil]); first | done | rfl | (simp only [List.length_drop, List.length_take]; rfl)) ?_
  with_reducible refine (formularyref08_Div.calls t139 t163 t158 t164 _ A16.out).mono ?_
  rintro e w37 ⟨rfl, hb⟩
  refine ⟨_, rfl, ?_⟩
  replace BK136 := bkb BK136 hb
  replace BK137 := bkb BK137 hb
  replace BK138 := bkb BK138 hb
  replace HB := bls HB hb
  (try clear hb)
  (try clear hb2)
  (try clear hk)
  (try clear hi)
  refine hK.out _ _ ⟨(blk_cell BK136.out 0).trans rfl, (blk_cell BK136.out 1).trans rfl, (blk_cell BK136.out 2).trans rfl, (blk_cell BK136.out 3).trans rfl⟩ (fun hHeld => ?_)
  clear hK K
  refine norm_ (a' := ?_) ?_ ?_
  rotate_left
  ·show Act.put _ (some 100) _ = _
   simp only [Act.put, List.setIfInBounds_toArray, List.set_cons_zero, List.set_cons_succ, i64_w, i32_w]
   rfl
  refine one_ (i := 22) (N := some 101) #[true, true, true, true, true, true, true, true, true, true, true, true, true, true, true, true, true, true, true, true, true, true, true, false] rfl rfl (one_of HT_.out (by kernel_rfl)) (by decide) (fun K hK => ?_)
  refine goes_ Tryz.func18 (by kernel_rfl) rfl #[.int .i64 a0_0, .int .u64 t161, .int .u64 t164] (by rfl) rfl rfl (by (try simp only [List.map_toArray, List.map_cons, List.map_nil]); first | done | rfl | (simp only [List.length_drop, List.length_take]; rfl)) ?_
  with_reducible refine (formularyref10_Made.calls a0_0 t161 t164 t165 t166 t167 t168 _ A17.out).mono ?_
  rintro e w38 ⟨rfl, hb⟩
  refine ⟨_, rfl, ?_⟩
  replace BK136 := bkb BK136 hb
  replace BK137 := bkb BK137 hb
  replace BK138 := bkb BK138 hb
  replace HB := bls HB hb
  (try clear hb)
  (try clear hb2)
  (try clear hk)
  (try clear hi)
  refine hK.out _ _ ⟨(blk_cell BK136.out 0).trans rfl, (blk_cell BK136.out 1).trans rfl, (blk_cell BK136.out 2).trans rfl, (blk_cell BK136.out 3).trans rfl⟩ (fun hHeld => ?_)
  clear hK K
  refine norm_ (a' := ?_) ?_ ?_
  rotate_left
  ·show Act.put _ (some 101) _ = _
   simp only [Act.put, List.setIfInBounds_toArray, List.set_cons_zero, List.set_cons_succ, i64_w, i32_w]
   rfl
  refine one_ (i := 23) (N := none) #[true, true, true, true, true, true, true, true, true, true, true, true, true, true, true, true, true, true, true, true, true, true, true, true] rfl rfl (one_of HT_.out (by kernel_rfl)) (by decide) (fun K hK => ?_)
  have hs39 : w38.cell? ⟨gb138, 0, none⟩ = some (.int .i64 0) := (blk_cell BK138.out 0).trans rfl
  have hfs39 := blk_frozen BK138.out 0
  have hns39_0 := NB136_138.out
  have hns39_1 := NB137_138.out
  have hms39_0 := NB138_136.out
  have hms39_1 := NB138_137.out
  have hs40 : w38.cell? ⟨gb138, 1, none⟩ = some (.int .u64 0) := (blk_cell BK138.out 1).trans rfl
  have hfs40 := blk_frozen BK138.out 1
  have hns40_0 := NB136_138.out
  have hns40_1 := NB137_138.out
  have hms40_0 := NB138_136.out
  have hms40_1 := NB138_137.out
  have hs41 : w38.cell? ⟨gb138, 2, none⟩ = some (.int .u64 0) := (blk_cell BK138.out 2).trans rfl
  have hfs41 := blk_frozen BK138.out 2
  have hns41_0 := NB136_138.out
  have hns41_1 := NB137_138.out
  have hms41_0 := NB138_136.out
  have hms41_1 := NB138_137.out
  have hs42 : w38.cell? ⟨gb138, 3, none⟩ = some (.string (⟨#[]⟩ : ByteArray)) := (blk_cell BK138.out 3).trans rfl
  have hfs42 := blk_frozen BK138.out 3
  have hns42_0 := NB136_138.out
  have hns42_1 := NB137_138.out
  have hms42_0 := NB138_136.out
  have hms42_1 := NB138_137.out
  refine skip_ (w1 := ?_) (by rfl) rfl ?_ ?_
  rotate_left
  ·go_simp
   rfl
  refine hK.out _ _ ⟨((cell_far (p := ⟨gb138, _, none⟩) NB136_138.out _).trans (((cell_far (p := ⟨gb138, _, none⟩) NB136_138.out _).trans (((cell_far (p := ⟨gb138, _, none⟩) NB136_138.out _).trans (((cell_far (p := ⟨gb138, _, none⟩) NB136_138.out _).trans (hHeld.1)))))))), ((cell_far (p := ⟨gb138, _, none⟩) NB136_138.out _).trans (((cell_far (p := ⟨gb138, _, none⟩) NB136_138.out _).trans (((cell_far (p := ⟨gb138, _, none⟩) NB136_138.out _).trans (((cell_far (p := ⟨gb138, _, none⟩) NB136_138.out _).trans (hHeld.2.1)))))))), ((cell_far (p := ⟨gb138, _, none⟩) NB136_138.out _).trans (((cell_far (p := ⟨gb138, _, none⟩) NB136_138.out _).trans (((cell_far (p := ⟨gb138, _, none⟩) NB136_138.out _).trans (((cell_far (p := ⟨gb138, _, none⟩) NB136_138.out _).trans (hHeld.2.2.1)))))))), ((cell_far (p := ⟨gb138, _, none⟩) NB136_138.out _).trans (((cell_far (p := ⟨gb138, _, none⟩) NB136_138.out _).trans (((cell_far (p := ⟨gb138, _, none⟩) NB136_138.out _).trans (((cell_far (p := ⟨gb138, _, none⟩) NB136_138.out _).trans (hHeld.2.2.2))))))))⟩ (fun hHeld => ?_)
  clear hK K
  refine done_ (done_of HT_.out (by kernel_rfl)) ?_
  try go_wp2
  refine bodyPost_ret (results_cell_row rfl _ _ gb138 24 #[.int .i64 t165, .int .u64 t166, .int .u64 t167, .string t168] (0, 0) _ rfl (by (with_reducible repeat (first | refine blk_drewN ?_ _ | refine blk_drew ?_ | refine blk_alloc ?_ _)); refine blk_put (cs := #[.int .i64 t165, .int .u64 t166, .int .u64 t167, .string (⟨#[]⟩ : ByteArray)]) ?_ 3 _ rfl; (with_reducible repeat (first | refine blk_drewN ?_ _ | refine blk_drew ?_ | refine blk_alloc ?_ _)); refine blk_put (cs := #[.int .i64 t165, .int .u64 t166, .int .u64 0, .string (⟨#[]⟩ : ByteArray)]) ?_ 2 _ rfl; (with_reducible repeat (first | refine blk_drewN ?_ _ | refine blk_drew ?_ | refine blk_alloc ?_ _)); refine blk_put (cs := #[.int .i64 t165, .int .u64 0, .int .u64 0, .string (⟨#[]⟩ : ByteArray)]) ?_ 1 _ rfl; (with_reducible repeat (first | refine blk_drewN ?_ _ | refine blk_drew ?_ | refine blk_alloc ?_ _)); refine blk_put (cs := #[.int .i64 0, .int .u64 0, .int .u64 0, .string (⟨#[]⟩ : ByteArray)]) ?_ 0 _ rfl; (with_reducible repeat (first | refine blk_drewN ?_ _ | refine blk_drew ?_ | refine blk_alloc ?_ _)); exact BK138.out) Tryz.underlying24 rfl (by kernel_rfl)) rfl ?_
  exact ⟨by first | rfl | (simp [errW_none, errW_some] <;> rfl) | (simp [*, errW_none, errW_some] <;> rfl), (blt HB).out⟩
 ·rw [if_neg c7] at H
  have c7b0 : (t142 == (-1)) = false := beq_eq_false_iff_ne.mpr c7
  have c7b1 : (t142 != (-1)) = true := bne_iff_ne.mpr c7
  replace H := Option.bind_eq_some_iff.mp H
  obtain ⟨t143, A43, H⟩ := H
  try dsimp only at H
  replace A43 := Aside0.mk A43
  replace H := Option.bind_eq_some_iff.mp H
  obtain ⟨t144, A44, H⟩ := H
  try dsimp only at H
  replace A44 := Aside0.mk A44
  replace H := Option.bind_eq_some_iff.mp H
  obtain ⟨t145, A45, H⟩ := H
  try dsimp only at H
  replace A45 := Aside0.mk A45
  replace H := Option.bind_eq_some_iff.mp H
  obtain ⟨t146, A46, H⟩ := H
  try dsimp only at H
  replace A46 := Aside0.mk A46
  replace H := Option.bind_eq_some_iff.mp H
  obtain ⟨t147, A47, H⟩ := H
  try dsimp only at H
  replace A47 := Aside0.mk A47
  replace H := Option.bind_eq_some_iff.mp H
  obtain ⟨t148, A48, H⟩ := H
  try dsimp only at H
  replace A48 := Aside0.mk A48
  replace H := Option.bind_eq_some_iff.mp H
  obtain ⟨t149, A49, H⟩ := H
  try dsimp only at H
  replace A49 := Aside0.mk A49
  replace H := Option.bind_eq_some_iff.mp H
  obtain ⟨t150, A50, H⟩ := H
  try dsimp only at H
  replace A50 := Aside0.mk A50
  replace H := Option.bind_eq_some_iff.mp H
  obtain ⟨t151, A51, H⟩ := H
  try dsimp only at H
  replace A51 := Aside0.mk A51
  replace H := Option.bind_eq_some_iff.mp H
  obtain ⟨⟨t152, t153, t154, t155⟩, A52, H⟩ := H
  try dsimp only at H
  replace A52 := Aside0.mk A52
  simp only [Option.some.injEq, Prod.mk.injEq] at H
  obtain ⟨rfl, rfl, rfl, rfl⟩ := H
  go_enter Tryz.func61, Tryz.ntmps61
  try go_wp2_with (first | ((with_reducible refine gate_dst (N := 2) rfl ?_); refine bxe 2 (cs := #[.int .i64 a0_0, .int .u64 a0_1, .int .u64 a0_2, .string a0_3]) (t := 24) ?_; intro gb136 hg w53 hbox hb; have BK136 := Aside0.mk hbox; have GW136 := bsz HB hg; have GE136 := bsz HB hg; replace HB := bls HB hb; clear hb hbox hg) | ((with_reducible refine gate_dst (N := 3) rfl ?_); refine bxe 3 (cs := #[.int .i64 a1_0, .int .u64 a1_1, .int .u64 a1_2, .string a1_3]) (t := 24) ?_; intro gb137 hg w54 hbox hb; have BK137 := Aside0.mk hbox; have GW137 := bsz HB hg; have GE137 := bsz HB hg; have NB136_137 := bnl BK136 hg; have NB137_136 := bng BK136 hg; replace BK136 := bkb BK136 hb; replace HB := bls HB hb; clear hb hbox hg) | ((with_reducible refine gate_dst (N := 4) rfl ?_); refine bxe 4 (cs := #[.int .i64 0, .int .u64 0, .int .u64 0, .string (⟨#[]⟩ : ByteArray)]) (t := 24) ?_; intro gb138 hg w55 hbox hb; have BK138 := Aside0.mk hbox; have GW138 := bsz HB hg; have GE138 := bsz HB hg; have NB136_138 := bnl BK136 hg; have NB138_136 := bng BK136 hg; have NB137_138 := bnl BK137 hg; have NB138_137 := bng BK137 hg; replace BK136 := bkb BK136 hb; replace BK137 := bkb BK137 hb; replace HB := bls HB hb; clear hb hbox hg; have hnb56 := NB136_137.out; have hnc56 := NB137_136.out; have hnb57 := NB136_138.out; have hnc57 := NB138_136.out; have hcz58_0 : w55.cell? ⟨gb136, 0, none⟩ = some (.int .i64 a0_0) := (blk_cell BK136.out 0).trans rfl; have hcz58_1 : w55.cell? ⟨gb136, 1, none⟩ = some (.int .u64 a0_1) := (blk_cell BK136.out 1).trans rfl; have hcz58_2 : w55.cell? ⟨gb136, 2, none⟩ = some (.int .u64 a0_2) := (blk_cell BK136.out 2).trans rfl; have hcz58_3 : w55.cell? ⟨gb136, 3, none⟩ = some (.string a0_3) := (blk_cell BK136.out 3).trans rfl; have hfz58_0 := blk_frozen BK136.out 0; have hfz58_1 := blk_frozen BK136.out 1; have hfz58_2 := blk_frozen BK136.out 2; have hfz58_3 := blk_frozen BK136.out 3) | ((with_reducible refine gate_callee (f := 16) rfl ?_); refine gL 16 Tryz.func16 #[.int .i64 a0_0] ?_; (with_reducible refine (formularyref10_PartType.calls a0_0 t139 _ A3.out).mono ?_); rintro e w' ⟨rfl, ⟨nd, rfl⟩⟩; refine ⟨_, rfl, ?_⟩; (try (rw [drewN_self w55]; generalize hq_ : World.drewN w55 _ = w55; have n0_ : Aside0 (w55.heap[gb136]? = some (.cells #[.int .i64 a0_0, .int .u64 a0_1, .int .u64 a0_2, .string a0_3] 24 (0, 0))) := ⟨by rw [← hq_]; exact (bks BK136).out⟩; have n1_ : Aside0 (w55.heap[gb137]? = some (.cells #[.int .i64 a1_0, .int .u64 a1_1, .int .u64 a1_2, .string a1_3] 24 (0, 0))) := ⟨by rw [← hq_]; exact (bks BK137).out⟩; have n2_ : Aside0 (w55.heap[gb138]? = some (.cells #[.int .i64 0, .int .u64 0, .int .u64 0, .string (⟨#[]⟩ : ByteArray)] 24 (0, 0))) := ⟨by rw [← hq_]; exact (bks BK138).out⟩; have n3_ : Aside0 (Below w.heap.size w w55) := ⟨by rw [← hq_]; exact (blt HB).out⟩; clear BK136 BK137 BK138 HB hq_; have BK136 := n0_; have BK137 := n1_; have BK138 := n2_; have HB := n3_; clear n0_ n1_ n2_ n3_))))
  replace BK136 := Aside0.mk (blk_drew BK136.out)
  replace BK137 := Aside0.mk (blk_drew BK137.out)
  replace BK138 := Aside0.mk (blk_drew BK138.out)
  replace HB := Aside0.mk (below_drew1 HB.out)
  refine start_ (n := 12) (S := fun w' => w'.cell? ⟨gb136, 0, none⟩ = some (.int .i64 a0_0) ∧ w'.cell? ⟨gb136, 1, none⟩ = some (.int .u64 a0_1) ∧ w'.cell? ⟨gb136, 2, none⟩ = some (.int .u64 a0_2) ∧ w'.cell? ⟨gb136, 3, none⟩ = some (.string a0_3) ∧ w'.cell? ⟨gb137, 0, none⟩ = some (.int .i64 a1_0) ∧ w'.cell? ⟨gb137, 1, none⟩ = some (.int .u64 a1_1) ∧ w'.cell? ⟨gb137, 2, none⟩ = some (.int .u64 a1_2) ∧ w'.cell? ⟨gb137, 3, none⟩ = some (.string a1_3)) (ds := []) #[false, false, false, false, false, false, false, false, false, false, false, false] (by kernel_rfl) rfl rfl ⟨(blk_cell BK136.out 0).trans rfl, (blk_cell BK136.out 1).trans rfl, (blk_cell BK136.out 2).trans rfl, (blk_cell BK136.out 3).trans rfl, (blk_cell BK137.out 0).trans rfl, (blk_cell BK137.out 1).trans rfl, (blk_cell BK137.out 2).trans rfl, (blk_cell BK137.out 3).trans rfl⟩ (fun hHeld => ?_); refine with_tabW formularyref10_Div.tab2 formularyref10_Div.bits2 (fun HT_ HW_ => ?_)
  generalize w55.drew = w59 at BK136 BK137 BK138 HB hHeld ⊢
  refine pu 0 17 HT_ ?_
  refine pu 2 19 HT_ ?_
  refine pu 4 21 HT_ ?_
  refine pu 6 23 HT_ ?_
  refine tk 1 18 HT_ HW_ hHeld ?_
  refine pu 8 6 HT_ ?_
  refine tk 3 20 HT_ HW_ hHeld ?_
  refine pu 9 7 HT_ ?_
  refine tk 5 22 HT_ HW_ hHeld ?_
  refine pu 10 8 HT_ ?_
  refine tk 7 24 HT_ HW_ hHeld ?_
  refine pu 11 9 HT_ ?_
  refine done_ (done_of HT_.out (by kernel_rfl)) ?_
  try go_wp2_with (first | ((with_reducible refine gate_callee (f := 84) rfl ?_); refine gL 28 Tryz.func84 #[.int .i64 t139, .int .u64 a1_1] ?_; (with_reducible refine (formularyref08_Sized.calls t139 a1_1 t140 _ A4.out).mono ?_); rintro e w60 ⟨rfl, hb⟩; refine ⟨_, rfl, ?_⟩; replace BK136 := bkb BK136 hb; replace BK137 := bkb BK137 hb; replace BK138 := bkb BK138 hb; replace HB := bls HB hb; clear hb) | ((with_reducible refine gate_callee (f := 84) rfl ?_); refine gL 31 Tryz.func84 #[.int .i64 t139, .int .u64 a1_2] ?_; (with_reducible refine (formularyref08_Sized.calls t139 a1_2 t141 _ A5.out).mono ?_); rintro e w61 ⟨rfl, hb⟩; refine ⟨_, rfl, ?_⟩; replace BK136 := bkb BK136 hb; replace BK137 := bkb BK137 hb; replace BK138 := bkb BK138 hb; replace HB := bls HB hb; clear hb) | ((with_reducible refine gate_callee (f := 62) rfl ?_); refine gL 32 Tryz.func62 #[.int .i64 t139, .int .u64 t140, .int .u64 t141] ?_; (with_reducible refine (formularyref08_Compare.calls t139 t140 t141 t142 _ A6.out).mono ?_); rintro e w62 ⟨rfl, hb⟩; refine ⟨_, rfl, ?_⟩; replace BK136 := bkb BK136 hb; replace BK137 := bkb BK137 hb; replace BK138 := bkb BK138 hb; replace HB := bls HB hb; clear hb) | ((with_reducible refine gate_callee (f := 66) rfl ?_); refine gL 37 Tryz.func66 #[.int .i64 t139, .int .u64 a1_2, .int .u64 a1_1] ?_; (with_reducible refine (formularyref08_Div.calls t139 a1_2 a1_1 t143 _ A43.out).mono ?_); rintro e w63 ⟨rfl, hb⟩; refine ⟨_, rfl, ?_⟩; replace BK136 := bkb BK136 hb; replace BK137 := bkb BK137 hb; replace BK138 := bkb BK138 hb; replace HB := bls HB hb; clear hb) | ((with_reducible refine gate_callee (f := 65) rfl ?_); refine gL 43 Tryz.func65 #[.int .i64 t139, .int .u64 t143, .int .u64 a1_2] ?_; (with_reducible refine (formularyref08_Mul.calls t139 t143 a1_2 t144 _ A44.out).mono ?_); rintro e w64 ⟨rfl, hb⟩; refine ⟨_, rfl, ?_⟩; replace BK136 := bkb BK136 hb; replace BK137 := bkb BK137 hb; replace BK138 := bkb BK138 hb; replace HB := bls HB hb; clear hb) | ((with_reducible refine gate_callee (f := 63) rfl ?_); refine gL 44 Tryz.func63 #[.int .i64 t139, .int .u64 a1_1, .int .u64 t144] ?_; (with_reducible refine (formularyref08_Add.calls t139 a1_1 t144 t145 _ A45.out).mono ?_); rintro e w65 ⟨rfl, hb⟩; refine ⟨_, rfl, ?_⟩; replace BK136 := bkb BK136 hb; replace BK137 := bkb BK137 hb; replace BK138 := bkb BK138 hb; replace HB := bls HB hb; clear hb))
  replace BK136 := Aside0.mk (blk_drew BK136.out)
  replace BK137 := Aside0.mk (blk_drew BK137.out)
  replace BK138 := Aside0.mk (blk_drew BK138.out)
  replace HB := Aside0.mk (below_drew1 HB.out)
  refine start_ (n := 24) (S := fun w' => w'.cell? ⟨gb136, 0, none⟩ = some (.int .i64 a0_0) ∧ w'.cell? ⟨gb136, 1, none⟩ = some (.int .u64 a0_1) ∧ w'.cell? ⟨gb136, 2, none⟩ = some (.int .u64 a0_2) ∧ w'.cell? ⟨gb136, 3, none⟩ = some (.string a0_3)) (ds := []) #[false, false, false, false, false, false, false, false, false, false, false, false, false, false, false, false, false, false, false, false, false, false, false, false] (by kernel_rfl) rfl rfl ⟨(blk_cell BK136.out 0).trans rfl, (blk_cell BK136.out 1).trans rfl, (blk_cell BK136.out 2).trans rfl, (blk_cell BK136.out 3).trans rfl⟩ (fun hHeld => ?_); refine with_tabW formularyref10_Div.tab6 formularyref10_Div.bits6 (fun HT_ HW_ => ?_)
  generalize w65.drew = w66 at BK136 BK137 BK138 HB hHeld ⊢
  refine pu 0 45 HT_ ?_
  refine pu 2 47 HT_ ?_
  refine pu 3 48 HT_ ?_
  refine pu 4 49 HT_ ?_
  refine pu 5 50 HT_ ?_
  refine pu 6 51 HT_ ?_
  refine pu 7 52 HT_ ?_
  refine pu 10 55 HT_ ?_
  refine pu 12 57 HT_ ?_
  refine pu 13 58 HT_ ?_
  refine pu 14 59 HT_ ?_
  refine pu 15 60 HT_ ?_
  refine pu 16 61 HT_ ?_
  refine pu 17 62 HT_ ?_
  refine pu 20 65 HT_ ?_
  refine tk 1 46 HT_ HW_ hHeld ?_
  refine one_ (i := 8) (N := some 53) #[true, true, true, true, true, true, true, true, true, false, true, false, true, true, true, true, true, true, false, false, true, false, false, false] rfl rfl (one_of HT_.out (by kernel_rfl)) (by decide) (fun K hK => ?_)
  refine goes_ Tryz.func65 (by kernel_rfl) rfl #[.int .i64 t139, .int .u64 a0_2, .int .u64 t143] (by rfl) rfl rfl (by (try simp only [List.map_toArray, List.map_cons, List.map_nil]); first | done | rfl | (simp only [List.length_drop, List.length_take]; rfl)) ?_
  with_reducible refine (formularyref08_Mul.calls t139 a0_2 t143 t146 _ A46.out).mono ?_
  rintro e w67 ⟨rfl, hb⟩
  refine ⟨_, rfl, ?_⟩
  replace BK136 := bkb BK136 hb
  replace BK137 := bkb BK137 hb
  replace BK138 := bkb BK138 hb
  replace HB := bls HB hb
  (try clear hb)
  (try clear hb2)
  (try clear hk)
  (try clear hi)
  refine hK.out _ _ ⟨(blk_cell BK136.out 0).trans rfl, (blk_cell BK136.out 1).trans rfl, (blk_cell BK136.out 2).trans rfl, (blk_cell BK136.out 3).trans rfl⟩ (fun hHeld => ?_)
  clear hK K
  refine norm_ (a' := ?_) ?_ ?_
  rotate_left
  ·show Act.put _ (some 53) _ = _
   simp only [Act.put, List.setIfInBounds_toArray, List.set_cons_zero, List.set_cons_succ, i64_w, i32_w]
   rfl
  refine one_ (i := 9) (N := some 54) #[true, true, true, true, true, true, true, true, true, true, true, false, true, true, true, true, true, true, false, false, true, false, false, false] rfl rfl (one_of HT_.out (by kernel_rfl)) (by decide) (fun K hK => ?_)
  refine goes_ Tryz.func63 (by kernel_rfl) rfl #[.int .i64 t139, .int .u64 a0_1, .int .u64 t146] (by rfl) rfl rfl (by (try simp only [List.map_toArray, List.map_cons, List.map_nil]); first | done | rfl | (simp only [List.length_drop, List.length_take]; rfl)) ?_
  with_reducible refine (formularyref08_Add.calls t139 a0_1 t146 t147 _ A47.out).mono ?_
  rintro e w68 ⟨rfl, hb⟩
  refine ⟨_, rfl, ?_⟩
  replace BK136 := bkb BK136 hb
  replace BK137 := bkb BK137 hb
  replace BK138 := bkb BK138 hb
  replace HB := bls HB hb
  (try clear hb)
  (try clear hb2)
  (try clear hk)
  (try clear hi)
  refine hK.out _ _ ⟨(blk_cell BK136.out 0).trans rfl, (blk_cell BK136.out 1).trans rfl, (blk_cell BK136.out 2).trans rfl, (blk_cell BK136.out 3).trans rfl⟩ (fun hHeld => ?_)
  clear hK K
  refine norm_ (a' := ?_) ?_ ?_
  rotate_left
  ·show Act.put _ (some 54) _ = _
   simp only [Act.put, List.setIfInBounds_toArray, List.set_cons_zero, List.set_cons_succ, i64_w, i32_w]
   rfl
  refine one_ (i := 11) (N := some 56) #[true, true, true, true, true, true, true, true, true, true, true, true, true, true, true, true, true, true, false, false, true, false, false, false] rfl rfl (one_of HT_.out (by kernel_rfl)) (by decide) (fun K hK => ?_)
  refine goes_ Tryz.func66 (by kernel_rfl) rfl #[.int .i64 t139, .int .u64 t147, .int .u64 t145] (by rfl) rfl rfl (by (try simp only [List.map_toArray, List.map_cons, List.map_nil]); first | done | rfl | (simp only [List.length_drop, List.length_take]; rfl)) ?_
  with_reducible refine (formularyref08_Div.calls t139 t147 t145 t148 _ A48.out).mono ?_
  rintro e w69 ⟨rfl, hb⟩
  refine ⟨_, rfl, ?_⟩
  replace BK136 := bkb BK136 hb
  replace BK137 := bkb BK137 hb
  replace BK138 := bkb BK138 hb
  replace HB := bls HB hb
  (try clear hb)
  (try clear hb2)
  (try clear hk)
  (try clear hi)
  refine hK.out _ _ ⟨(blk_cell BK136.out 0).trans rfl, (blk_cell BK136.out 1).trans rfl, (blk_cell BK136.out 2).trans rfl, (blk_cell BK136.out 3).trans rfl⟩ (fun hHeld => ?_)
  clear hK K
  refine norm_ (a' := ?_) ?_ ?_
  rotate_left
  ·show Act.put _ (some 56) _ = _
   simp only [Act.put, List.setIfInBounds_toArray, List.set_cons_zero, List.set_cons_succ, i64_w, i32_w]
   rfl
  refine one_ (i := 18) (N := some 63) #[true, true, true, true, true, true, true, true, true, true, true, true, true, true, true, true, true, true, true, false, true, false, false, false] rfl rfl (one_of HT_.out (by kernel_rfl)) (by decide) (fun K hK => ?_)
  refine goes_ Tryz.func65 (by kernel_rfl) rfl #[.int .i64 t139, .int .u64 a0_1, .int .u64 t143] (by rfl) rfl rfl (by (try simp only [List.map_toArray, List.map_cons, List.map_nil]); first | done | rfl | (simp only [List.length_drop, List.length_take]; rfl)) ?_
  with_reducible refine (formularyref08_Mul.calls t139 a0_1 t143 t149 _ A49.out).mono ?_
  rintro e w70 ⟨rfl, hb⟩
  refine ⟨_, rfl, ?_⟩
  replace BK136 := bkb BK136 hb
  replace BK137 := bkb BK137 hb
  replace BK138 := bkb BK138 hb
  replace HB := bls HB hb
  (try clear hb)
  (try clear hb2)
  (try clear hk)
  (try clear hi)
  refine hK.out _ _ ⟨(blk_cell BK136.out 0).trans rfl, (blk_cell BK136.out 1).trans rfl, (blk_cell BK136.out 2).trans rfl, (blk_cell BK136.out 3).trans rfl⟩ (fun hHeld => ?_)
  clear hK K
  refine norm_ (a' := ?_) ?_ ?_
  rotate_left
  ·show Act.put _ (some 63) _ = _
   simp only [Act.put, List.setIfInBounds_toArray, List.set_cons_zero, List.set_cons_succ, i64_w, i32_w]
   rfl
  refine one_ (i := 19) (N := some 64) #[true, true, true, true, true, true, true, true, true, true, true, true, true, true, true, true, true, true, true, true, true, false, false, false] rfl rfl (one_of HT_.out (by kernel_rfl)) (by decide) (fun K hK => ?_)
  refine goes_ Tryz.func64 (by kernel_rfl) rfl #[.int .i64 t139, .int .u64 a0_2, .int .u64 t149] (by rfl) rfl rfl (by (try simp only [List.map_toArray, List.map_cons, List.map_nil]); first | done | rfl | (simp only [List.length_drop, List.length_take]; rfl)) ?_
  with_reducible refine (formularyref08_Minus2.calls t139 a0_2 t149 t150 _ A50.out).mono ?_
  rintro e w71 ⟨rfl, hb⟩
  refine ⟨_, rfl, ?_⟩
  replace BK136 := bkb BK136 hb
  replace BK137 := bkb BK137 hb
  replace BK138 := bkb BK138 hb
  replace HB := bls HB hb
  (try clear hb)
  (try clear hb2)
  (try clear hk)
  (try clear hi)
  refine hK.out _ _ ⟨(blk_cell BK136.out 0).trans rfl, (blk_cell BK136.out 1).trans rfl, (blk_cell BK136.out 2).trans rfl, (blk_cell BK136.out 3).trans rfl⟩ (fun hHeld => ?_)
  clear hK K
  refine norm_ (a' := ?_) ?_ ?_
  rotate_left
  ·show Act.put _ (some 64) _ = _
   simp only [Act.put, List.setIfInBounds_toArray, List.set_cons_zero, List.set_cons_succ, i64_w, i32_w]
   rfl
  refine one_ (i := 21) (N := some 66) #[true, true, true, true, true, true, true, true, true, true, true, true, true, true, true, true, true, true, true, true, true, true, false, false] rfl rfl (one_of HT_.out (by kernel_rfl)) (by decide) (fun K hK => ?_)
  refine goes_ Tryz.func66 (by kernel_rfl) rfl #[.int .i64 t139, .int .u64 t150, .int .u64 t145] (by rfl) rfl rfl (by (try simp only [List.map_toArray, List.map_cons, List.map_nil]); first | done | rfl | (simp only [List.length_drop, List.length_take]; rfl)) ?_
  with_reducible refine (formularyref08_Div.calls t139 t150 t145 t151 _ A51.out).mono ?_
  rintro e w72 ⟨rfl, hb⟩
  refine ⟨_, rfl, ?_⟩
  replace BK136 := bkb BK136 hb
  replace BK137 := bkb BK137 hb
  replace BK138 := bkb BK138 hb
  replace HB := bls HB hb
  (try clear hb)
  (try clear hb2)
  (try clear hk)
  (try clear hi)
  refine hK.out _ _ ⟨(blk_cell BK136.out 0).trans rfl, (blk_cell BK136.out 1).trans rfl, (blk_cell BK136.out 2).trans rfl, (blk_cell BK136.out 3).trans rfl⟩ (fun hHeld => ?_)
  clear hK K
  refine norm_ (a' := ?_) ?_ ?_
  rotate_left
  ·show Act.put _ (some 66) _ = _
   simp only [Act.put, List.setIfInBounds_toArray, List.set_cons_zero, List.set_cons_succ, i64_w, i32_w]
   rfl
  refine one_ (i := 22) (N := some 67) #[true, true, true, true, true, true, true, true, true, true, true, true, true, true, true, true, true, true, true, true, true, true, true, false] rfl rfl (one_of HT_.out (by kernel_rfl)) (by decide) (fun K hK => ?_)
  refine goes_ Tryz.func18 (by kernel_rfl) rfl #[.int .i64 a0_0, .int .u64 t148, .int .u64 t151] (by rfl) rfl rfl (by (try simp only [List.map_toArray, List.map_cons, List.map_nil]); first | done | rfl | (simp only [List.length_drop, List.length_take]; rfl)) ?_
  with_reducible refine (formularyref10_Made.calls a0_0 t148 t151 t152 t153 t154 t155 _ A52.out).mono ?_
  rintro e w73 ⟨rfl, hb⟩
  refine ⟨_, rfl, ?_⟩
  replace BK136 := bkb BK136 hb
  replace BK137 := bkb BK137 hb
  replace BK138 := bkb BK138 hb
  replace HB := bls HB hb
  (try clear hb)
  (try clear hb2)
  (try clear hk)
  (try clear hi)
  refine hK.out _ _ ⟨(blk_cell BK136.out 0).trans rfl, (blk_cell BK136.out 1).trans rfl, (blk_cell BK136.out 2).trans rfl, (blk_cell BK136.out 3).trans rfl⟩ (fun hHeld => ?_)
  clear hK K
  refine norm_ (a' := ?_) ?_ ?_
  rotate_left
  ·show Act.put _ (some 67) _ = _
   simp only [Act.put, List.setIfInBounds_toArray, List.set_cons_zero, List.set_cons_succ, i64_w, i32_w]
   rfl
  refine one_ (i := 23) (N := none) #[true, true, true, true, true, true, true, true, true, true, true, true, true, true, true, true, true, true, true, true, true, true, true, true] rfl rfl (one_of HT_.out (by kernel_rfl)) (by decide) (fun K hK => ?_)
  have hs74 : w73.cell? ⟨gb138, 0, none⟩ = some (.int .i64 0) := (blk_cell BK138.out 0).trans rfl
  have hfs74 := blk_frozen BK138.out 0
  have hns74_0 := NB136_138.out
  have hns74_1 := NB137_138.out
  have hms74_0 := NB138_136.out
  have hms74_1 := NB138_137.out
  have hs75 : w73.cell? ⟨gb138, 1, none⟩ = some (.int .u64 0) := (blk_cell BK138.out 1).trans rfl
  have hfs75 := blk_frozen BK138.out 1
  have hns75_0 := NB136_138.out
  have hns75_1 := NB137_138.out
  have hms75_0 := NB138_136.out
  have hms75_1 := NB138_137.out
  have hs76 : w73.cell? ⟨gb138, 2, none⟩ = some (.int .u64 0) := (blk_cell BK138.out 2).trans rfl
  have hfs76 := blk_frozen BK138.out 2
  have hns76_0 := NB136_138.out
  have hns76_1 := NB137_138.out
  have hms76_0 := NB138_136.out
  have hms76_1 := NB138_137.out
  have hs77 : w73.cell? ⟨gb138, 3, none⟩ = some (.string (⟨#[]⟩ : ByteArray)) := (blk_cell BK138.out 3).trans rfl
  have hfs77 := blk_frozen BK138.out 3
  have hns77_0 := NB136_138.out
  have hns77_1 := NB137_138.out
  have hms77_0 := NB138_136.out
  have hms77_1 := NB138_137.out
  refine skip_ (w1 := ?_) (by rfl) rfl ?_ ?_
  rotate_left
  ·go_simp
   rfl
  refine hK.out _ _ ⟨((cell_far (p := ⟨gb138, _, none⟩) NB136_138.out _).trans (((cell_far (p := ⟨gb138, _, none⟩) NB136_138.out _).trans (((cell_far (p := ⟨gb138, _, none⟩) NB136_138.out _).trans (((cell_far (p := ⟨gb138, _, none⟩) NB136_138.out _).trans (hHeld.1)))))))), ((cell_far (p := ⟨gb138, _, none⟩) NB136_138.out _).trans (((cell_far (p := ⟨gb138, _, none⟩) NB136_138.out _).trans (((cell_far (p := ⟨gb138, _, none⟩) NB136_138.out _).trans (((cell_far (p := ⟨gb138, _, none⟩) NB136_138.out _).trans (hHeld.2.1)))))))), ((cell_far (p := ⟨gb138, _, none⟩) NB136_138.out _).trans (((cell_far (p := ⟨gb138, _, none⟩) NB136_138.out _).trans (((cell_far (p := ⟨gb138, _, none⟩) NB136_138.out _).trans (((cell_far (p := ⟨gb138, _, none⟩) NB136_138.out _).trans (hHeld.2.2.1)))))))), ((cell_far (p := ⟨gb138, _, none⟩) NB136_138.out _).trans (((cell_far (p := ⟨gb138, _, none⟩) NB136_138.out _).trans (((cell_far (p := ⟨gb138, _, none⟩) NB136_138.out _).trans (((cell_far (p := ⟨gb138, _, none⟩) NB136_138.out _).trans (hHeld.2.2.2))))))))⟩ (fun hHeld => ?_)
  clear hK K
  refine done_ (done_of HT_.out (by kernel_rfl)) ?_
  try go_wp2
  refine bodyPost_ret (results_cell_row rfl _ _ gb138 24 #[.int .i64 t152, .int .u64 t153, .int .u64 t154, .string t155] (0, 0) _ rfl (by (with_reducible repeat (first | refine blk_drewN ?_ _ | refine blk_drew ?_ | refine blk_alloc ?_ _)); refine blk_put (cs := #[.int .i64 t152, .int .u64 t153, .int .u64 t154, .string (⟨#[]⟩ : ByteArray)]) ?_ 3 _ rfl; (with_reducible repeat (first | refine blk_drewN ?_ _ | refine blk_drew ?_ | refine blk_alloc ?_ _)); refine blk_put (cs := #[.int .i64 t152, .int .u64 t153, .int .u64 0, .string (⟨#[]⟩ : ByteArray)]) ?_ 2 _ rfl; (with_reducible repeat (first | refine blk_drewN ?_ _ | refine blk_drew ?_ | refine blk_alloc ?_ _)); refine blk_put (cs := #[.int .i64 t152, .int .u64 0, .int .u64 0, .string (⟨#[]⟩ : ByteArray)]) ?_ 1 _ rfl; (with_reducible repeat (first | refine blk_drewN ?_ _ | refine blk_drew ?_ | refine blk_alloc ?_ _)); refine blk_put (cs := #[.int .i64 0, .int .u64 0, .int .u64 0, .string (⟨#[]⟩ : ByteArray)]) ?_ 0 _ rfl; (with_reducible repeat (first | refine blk_drewN ?_ _ | refine blk_drew ?_ | refine blk_alloc ?_ _)); exact BK138.out) Tryz.underlying24 rfl (by kernel_rfl)) rfl ?_
  exact ⟨by first | rfl | (simp [errW_none, errW_some] <;> rfl) | (simp [*, errW_none, errW_some] <;> rfl), (blt HB).out⟩
end Go.Proofs.YtmoimcblmmcffaaGreat.PRA

namespace Go.Proofs.YtmoimcblmmcffaaGreat.PRA
open Go.RowKit Go.Proofs.YtmoimcblmmcffaaGreatW.PrintWords Go.Proofs.YtmoimcblmmcffaaGreatW.PrintLast Go.Proofs.YtmoimcblmmcffaaGreatW.PrintMore Go.Proofs.YtmoimcblmmcffaaGreatW.PrintZ
attribute [local go_sem] max2_int min2_int max_two min_two max_three min_three max_four min_four   -- for this text's walks alone
set_option linter.unusedVariables false
set_option linter.unusedSimpArgs false
def formularyref10_Apply.f (a0 : Int) (a1_0 : Int) (a1_1 : Int) (a1_2 : Int) (a1_3 : ByteArray) (a2_0 : Int) (a2_1 : Int) (a2_2 : Int) (a2_3 : ByteArray) : Option (Int × Int × Int × ByteArray) := if a0 = 0 then ((formularyref10_Add.f a1_0 a1_1 a1_2 a1_3 a2_0 a2_1 a2_2 a2_3).bind fun bt172 => (some (bt172.1, bt172.2.1, bt172.2.2.1, bt172.2.2.2))) else (if a0 = 1 then ((formularyref10_Sub.f a1_0 a1_1 a1_2 a1_3 a2_0 a2_1 a2_2 a2_3).bind fun bt176 => (some (bt176.1, bt176.2.1, bt176.2.2.1, bt176.2.2.2))) else (if a0 = 2 then ((formularyref10_Mul.f a1_0 a1_1 a1_2 a1_3 a2_0 a2_1 a2_2 a2_3).bind fun bt180 => (some (bt180.1, bt180.2.1, bt180.2.2.1, bt180.2.2.2))) else ((formularyref10_Div.f a1_0 a1_1 a1_2 a1_3 a2_0 a2_1 a2_2 a2_3).bind fun bt184 => (some (bt184.1, bt184.2.1, bt184.2.2.1, bt184.2.2.2)))))
set_option maxHeartbeats 8000000 in
set_option maxRecDepth 100000 in
theorem formularyref10_Apply.calls (a0 : Int) (a1_0 : Int) (a1_1 : Int) (a1_2 : Int) (a1_3 : ByteArray) (a2_0 : Int) (a2_1 : Int) (a2_2 : Int) (a2_3 : ByteArray) (r1 : Int) (r2 : Int) (r3 : Int) (r4 : ByteArray) (w : World) (h : formularyref10_Apply.f a0 a1_0 a1_1 a1_2 a1_3 a2_0 a2_1 a2_2 a2_3 = some (r1, r2, r3, r4)) :
  Calls Tryz.prog 15 #[.int .i64 a0, .agg #[.int .i64 a1_0, .int .u64 a1_1, .int .u64 a1_2, .string a1_3], .agg #[.int .i64 a2_0, .int .u64 a2_1, .int .u64 a2_2, .string a2_3]] w fun e w' => e = .returned (.agg #[.int .i64 r1, .int .u64 r2, .int .u64 r3, .string r4]) ∧ Below w.heap.size w w' := by
 have hu24 := Tryz.underlying24
 have HB := Aside0.mk (Below.refl w.heap.size w)
 have H : (if a0 = 0 then ((formularyref10_Add.f a1_0 a1_1 a1_2 a1_3 a2_0 a2_1 a2_2 a2_3).bind fun bt172 => (some (bt172.1, bt172.2.1, bt172.2.2.1, bt172.2.2.2))) else (if a0 = 1 then ((formularyref10_Sub.f a1_0 a1_1 a1_2 a1_3 a2_0 a2_1 a2_2 a2_3).bind fun bt176 => (some (bt176.1, bt176.2.1, bt176.2.2.1, bt176.2.2.2))) else (if a0 = 2 then ((formularyref10_Mul.f a1_0 a1_1 a1_2 a1_3 a2_0 a2_1 a2_2 a2_3).bind fun bt180 => (some (bt180.1, bt180.2.1, bt180.2.2.1, bt180.2.2.2))) else ((formularyref10_Div.f a1_0 a1_1 a1_2 a1_3 a2_0 a2_1 a2_2 a2_3).bind fun bt184 => (some (bt184.1, bt184.2.1, bt184.2.2.1, bt184.2.2.2)))))) = some (r1, r2, r3, r4) := h
 clear h
 by_cases c4 : a0 = 0
 ·rw [if_pos c4] at H
  have c4b0 : (a0 == 0) = true := beq_iff_eq.mpr c4
  have c4b1 : (a0 != 0) = false := bne_eq_false_iff_eq.mpr c4
  clear c4
  replace H := Option.bind_eq_some_iff.mp H
  obtain ⟨⟨t172, t173, t174, t175⟩, A5, H⟩ := H
  try dsimp only at H
  replace A5 := Aside0.mk A5
  simp only [Option.some.injEq, Prod.mk.injEq] at H
  obtain ⟨rfl, rfl, rfl, rfl⟩ := H
  go_enter Tryz.func15, Tryz.ntmps15
  go_wp2_with (first | ((with_reducible refine gate_dst (N := 4) rfl ?_); refine bxe 4 (cs := #[.int .i64 a1_0, .int .u64 a1_1, .int .u64 a1_2, .string a1_3]) (t := 24) ?_; intro gb169 hg w6 hbox hb; have BK169 := Aside0.mk hbox; have GW169 := bsz HB hg; have GE169 := bsz HB hg; replace HB := bls HB hb; clear hb hbox hg) | ((with_reducible refine gate_dst (N := 5) rfl ?_); refine bxe 5 (cs := #[.int .i64 a2_0, .int .u64 a2_1, .int .u64 a2_2, .string a2_3]) (t := 24) ?_; intro gb170 hg w7 hbox hb; have BK170 := Aside0.mk hbox; have GW170 := bsz HB hg; have GE170 := bsz HB hg; have NB169_170 := bnl BK169 hg; have NB170_169 := bng BK169 hg; replace BK169 := bkb BK169 hb; replace HB := bls HB hb; clear hb hbox hg) | ((with_reducible refine gate_dst (N := 6) rfl ?_); refine bxe 6 (cs := #[.int .i64 0, .int .u64 0, .int .u64 0, .string (⟨#[]⟩ : ByteArray)]) (t := 24) ?_; intro gb171 hg w8 hbox hb; have BK171 := Aside0.mk hbox; have GW171 := bsz HB hg; have GE171 := bsz HB hg; have NB169_171 := bnl BK169 hg; have NB171_169 := bng BK169 hg; have NB170_171 := bnl BK170 hg; have NB171_170 := bng BK170 hg; replace BK169 := bkb BK169 hb; replace BK170 := bkb BK170 hb; replace HB := bls HB hb; clear hb hbox hg; have hnb9 := NB169_170.out; have hnc9 := NB170_169.out; have hnb10 := NB169_171.out; have hnc10 := NB171_169.out; have hcz11_0 : w8.cell? ⟨gb169, 0, none⟩ = some (.int .i64 a1_0) := (blk_cell BK169.out 0).trans rfl; have hcz11_1 : w8.cell? ⟨gb169, 1, none⟩ = some (.int .u64 a1_1) := (blk_cell BK169.out 1).trans rfl; have hcz11_2 : w8.cell? ⟨gb169, 2, none⟩ = some (.int .u64 a1_2) := (blk_cell BK169.out 2).trans rfl; have hcz11_3 : w8.cell? ⟨gb169, 3, none⟩ = some (.string a1_3) := (blk_cell BK169.out 3).trans rfl; have hfz11_0 := blk_frozen BK169.out 0; have hfz11_1 := blk_frozen BK169.out 1; have hfz11_2 := blk_frozen BK169.out 2; have hfz11_3 := blk_frozen BK169.out 3; have hnb12 := NB170_171.out; have hnc12 := NB171_170.out; have hcz13_0 : w8.cell? ⟨gb170, 0, none⟩ = some (.int .i64 a2_0) := (blk_cell BK170.out 0).trans rfl; have hcz13_1 : w8.cell? ⟨gb170, 1, none⟩ = some (.int .u64 a2_1) := (blk_cell BK170.out 1).trans rfl; have hcz13_2 : w8.cell? ⟨gb170, 2, none⟩ = some (.int .u64 a2_2) := (blk_cell BK170.out 2).trans rfl; have hcz13_3 : w8.cell? ⟨gb170, 3, none⟩ = some (.string a2_3) := (blk_cell BK170.out 3).trans rfl; have hfz13_0 := blk_frozen BK170.out 0; have hfz13_1 := blk_frozen BK170.out 1; have hfz13_2 := blk_frozen BK170.out 2; have hfz13_3 := blk_frozen BK170.out 3) | ((with_reducible refine gate_callee (f := 58) rfl ?_); refine gL 12 Tryz.func58 #[.agg #[.int .i64 a1_0, .int .u64 a1_1, .int .u64 a1_2, .string a1_3], .agg #[.int .i64 a2_0, .int .u64 a2_1, .int .u64 a2_2, .string a2_3]] ?_; (with_reducible refine (formularyref10_Add.calls a1_0 a1_1 a1_2 a1_3 a2_0 a2_1 a2_2 a2_3 t172 t173 t174 t175 _ A5.out).mono ?_); rintro e w14 ⟨rfl, hb⟩; refine ⟨_, rfl, ?_⟩; replace BK169 := bkb BK169 hb; replace BK170 := bkb BK170 hb; replace BK171 := bkb BK171 hb; replace HB := bls HB hb; clear hb; have hcz15_0 : w14.cell? ⟨gb171, 0, none⟩ = some (.int .i64 0) := (blk_cell BK171.out 0).trans rfl; have hcz15_1 : w14.cell? ⟨gb171, 1, none⟩ = some (.int .u64 0) := (blk_cell BK171.out 1).trans rfl; have hcz15_2 : w14.cell? ⟨gb171, 2, none⟩ = some (.int .u64 0) := (blk_cell BK171.out 2).trans rfl; have hcz15_3 : w14.cell? ⟨gb171, 3, none⟩ = some (.string (⟨#[]⟩ : ByteArray)) := (blk_cell BK171.out 3).trans rfl; have hfz15_0 := blk_frozen BK171.out 0; have hfz15_1 := blk_frozen BK171.out 1; have hfz15_2 := blk_frozen BK171.out 2; have hfz15_3 := blk_frozen BK171.out 3))
  refine bodyPost_ret (results_cell_row rfl _ _ gb171 24 #[.int .i64 t172, .int .u64 t173, .int .u64 t174, .string t175] (0, 0) _ rfl (by (with_reducible repeat (first | refine blk_drewN ?_ _ | refine blk_drew ?_ | refine blk_alloc ?_ _)); refine blk_put (cs := #[.int .i64 t172, .int .u64 t173, .int .u64 t174, .string (⟨#[]⟩ : ByteArray)]) ?_ 3 _ rfl; (with_reducible repeat (first | refine blk_drewN ?_ _ | refine blk_drew ?_ | refine blk_alloc ?_ _)); refine blk_put (cs := #[.int .i64 t172, .int .u64 t173, .int .u64 0, .string (⟨#[]⟩ : ByteArray)]) ?_ 2 _ rfl; (with_reducible repeat (first | refine blk_drewN ?_ _ | refine blk_drew ?_ | refine blk_alloc ?_ _)); refine blk_put (cs := #[.int .i64 t172, .int .u64 0, .int .u64 0, .string (⟨#[]⟩ : ByteArray)]) ?_ 1 _ rfl; (with_reducible repeat (first | refine blk_drewN ?_ _ | refine blk_drew ?_ | refine blk_alloc ?_ _)); refine blk_put (cs := #[.int .i64 0, .int .u64 0, .int .u64 0, .string (⟨#[]⟩ : ByteArray)]) ?_ 0 _ rfl; (with_reducible repeat (first | refine blk_drewN ?_ _ | refine blk_drew ?_ | refine blk_alloc ?_ _)); exact BK171.out) Tryz.underlying24 rfl (by kernel_rfl)) rfl ?_
  exact ⟨by first | rfl | (simp [errW_none, errW_some] <;> rfl) | (simp [*, errW_none, errW_some] <;> rfl), (blt HB).out⟩
 ·rw [if_neg c4] at H
  have c4b0 : (a0 == 0) = false := beq_eq_false_iff_ne.mpr c4
  have c4b1 : (a0 != 0) = true := bne_iff_ne.mpr c4
  by_cases c16 : a0 = 1
  ·rw [if_pos c16] at H
   have c16b0 : (a0 == 1) = true := beq_iff_eq.mpr c16
   have c16b1 : (a0 != 1) = false := bne_eq_false_iff_eq.mpr c16
   clear c16
   replace H := Option.bind_eq_some_iff.mp H
   obtain ⟨⟨t176, t177, t178, t179⟩, A17, H⟩ := H
   try dsimp only at H
   replace A17 := Aside0.mk A17
   simp only [Option.some.injEq, Prod.mk.injEq] at H
   obtain ⟨rfl, rfl, rfl, rfl⟩ := H
   go_enter Tryz.func15, Tryz.ntmps15
   go_wp2_with (first | ((with_reducible refine gate_dst (N := 4) rfl ?_); refine bxe 4 (cs := #[.int .i64 a1_0, .int .u64 a1_1, .int .u64 a1_2, .string a1_3]) (t := 24) ?_; intro gb169 hg w18 hbox hb; have BK169 := Aside0.mk hbox; have GW169 := bsz HB hg; have GE169 := bsz HB hg; replace HB := bls HB hb; clear hb hbox hg) | ((with_reducible refine gate_dst (N := 5) rfl ?_); refine bxe 5 (cs := #[.int .i64 a2_0, .int .u64 a2_1, .int .u64 a2_2, .string a2_3]) (t := 24) ?_; intro gb170 hg w19 hbox hb; have BK170 := Aside0.mk hbox; have GW170 := bsz HB hg; have GE170 := bsz HB hg; have NB169_170 := bnl BK169 hg; have NB170_169 := bng BK169 hg; replace BK169 := bkb BK169 hb; replace HB := bls HB hb; clear hb hbox hg) | ((with_reducible refine gate_dst (N := 6) rfl ?_); refine bxe 6 (cs := #[.int .i64 0, .int .u64 0, .int .u64 0, .string (⟨#[]⟩ : ByteArray)]) (t := 24) ?_; intro gb171 hg w20 hbox hb; have BK171 := Aside0.mk hbox; have GW171 := bsz HB hg; have GE171 := bsz HB hg; have NB169_171 := bnl BK169 hg; have NB171_169 := bng BK169 hg; have NB170_171 := bnl BK170 hg; have NB171_170 := bng BK170 hg; replace BK169 := bkb BK169 hb; replace BK170 := bkb BK170 hb; replace HB := bls HB hb; clear hb hbox hg; have hnb21 := NB169_170.out; have hnc21 := NB170_169.out; have hnb22 := NB169_171.out; have hnc22 := NB171_169.out; have hcz23_0 : w20.cell? ⟨gb169, 0, none⟩ = some (.int .i64 a1_0) := (blk_cell BK169.out 0).trans rfl; have hcz23_1 : w20.cell? ⟨gb169, 1, none⟩ = some (.int .u64 a1_1) := (blk_cell BK169.out 1).trans rfl; have hcz23_2 : w20.cell? ⟨gb169, 2, none⟩ = some (.int .u64 a1_2) := (blk_cell BK169.out 2).trans rfl; have hcz23_3 : w20.cell? ⟨gb169, 3, none⟩ = some (.string a1_3) := (blk_cell BK169.out 3).trans rfl; have hfz23_0 := blk_frozen BK169.out 0; have hfz23_1 := blk_frozen BK169.out 1; have hfz23_2 := blk_frozen BK169.out 2; have hfz23_3 := blk_frozen BK169.out 3; have hnb24 := NB170_171.out; have hnc24 := NB171_170.out; have hcz25_0 : w20.cell? ⟨gb170, 0, none⟩ = some (.int .i64 a2_0) := (blk_cell BK170.out 0).trans rfl; have hcz25_1 : w20.cell? ⟨gb170, 1, none⟩ = some (.int .u64 a2_1) := (blk_cell BK170.out 1).trans rfl; have hcz25_2 : w20.cell? ⟨gb170, 2, none⟩ = some (.int .u64 a2_2) := (blk_cell BK170.out 2).trans rfl; have hcz25_3 : w20.cell? ⟨gb170, 3, none⟩ = some (.string a2_3) := (blk_cell BK170.out 3).trans rfl; have hfz25_0 := blk_frozen BK170.out 0; have hfz25_1 := blk_frozen BK170.out 1; have hfz25_2 := blk_frozen BK170.out 2; have hfz25_3 := blk_frozen BK170.out 3) | ((with_reducible refine gate_callee (f := 59) rfl ?_); refine gL 17 Tryz.func59 #[.agg #[.int .i64 a1_0, .int .u64 a1_1, .int .u64 a1_2, .string a1_3], .agg #[.int .i64 a2_0, .int .u64 a2_1, .int .u64 a2_2, .string a2_3]] ?_; (with_reducible refine (formularyref10_Sub.calls a1_0 a1_1 a1_2 a1_3 a2_0 a2_1 a2_2 a2_3 t176 t177 t178 t179 _ A17.out).mono ?_); rintro e w26 ⟨rfl, hb⟩; refine ⟨_, rfl, ?_⟩; replace BK169 := bkb BK169 hb; replace BK170 := bkb BK170 hb; replace BK171 := bkb BK171 hb; replace HB := bls HB hb; clear hb; have hcz27_0 : w26.cell? ⟨gb171, 0, none⟩ = some (.int .i64 0) := (blk_cell BK171.out 0).trans rfl; have hcz27_1 : w26.cell? ⟨gb171, 1, none⟩ = some (.int .u64 0) := (blk_cell BK171.out 1).trans rfl; have hcz27_2 : w26.cell? ⟨gb171, 2, none⟩ = some (.int .u64 0) := (blk_cell BK171.out 2).trans rfl; have hcz27_3 : w26.cell? ⟨gb171, 3, none⟩ = some (.string (⟨#[]⟩ : ByteArray)) := (blk_cell BK171.out 3).trans rfl; have hfz27_0 := blk_frozen BK171.out 0; have hfz27_1 := blk_frozen BK171.out 1; have hfz27_2 := blk_frozen BK171.out 2; have hfz27_3 := blk_frozen BK171.out 3))
   refine bodyPost_ret (results_cell_row rfl _ _ gb171 24 #[.int .i64 t176, .int .u64 t177, .int .u64 t178, .string t179] (0, 0) _ rfl (by (with_reducible repeat (first | refine blk_drewN ?_ _ | refine blk_drew ?_ | refine blk_alloc ?_ _)); refine blk_put (cs := #[.int .i64 t176, .int .u64 t177, .int .u64 t178, .string (⟨#[]⟩ : ByteArray)]) ?_ 3 _ rfl; (with_reducible repeat (first | refine blk_drewN ?_ _ | refine blk_drew ?_ | refine blk_alloc ?_ _)); refine blk_put (cs := #[.int .i64 t176, .int .u64 t177, .int .u64 0, .string (⟨#[]⟩ : ByteArray)]) ?_ 2 _ rfl; (with_reducible repeat (first | refine blk_drewN ?_ _ | refine blk_drew ?_ | refine blk_alloc ?_ _)); refine blk_put (cs := #[.int .i64 t176, .int .u64 0, .int .u64 0, .string (⟨#[]⟩ : ByteArray)]) ?_ 1 _ rfl; (with_reducible repeat (first | refine blk_drewN ?_ _ | refine blk_drew ?_ | refine blk_alloc ?_ _)); refine blk_put (cs := #[.int .i64 0, .int .u64 0, .int .u64 0, .string (⟨#[]⟩ : ByteArray)]) ?_ 0 _ rfl; (with_reducible repeat (first | refine blk_drewN ?_ _ | refine blk_drew ?_ | refine blk_alloc ?_ _)); exact BK171.out) Tryz.underlying24 rfl (by kernel_rfl)) rfl ?_
   exact ⟨by first | rfl | (simp [errW_none, errW_some] <;> rfl) | (simp [*, errW_none, errW_some] <;> rfl), (blt HB).out⟩
  ·rw [if_neg c16] at H
   have c16b0 : (a0 == 1) = false := beq_eq_false_iff_ne.mpr c16
   have c16b1 : (a0 != 1) = true := bne_iff_ne.mpr c16
   by_cases c28 : a0 = 2
   ·rw [if_pos c28] at H
    have c28b0 : (a0 == 2) = true := beq_iff_eq.mpr c28
    have c28b1 : (a0 != 2) = false := bne_eq_false_iff_eq.mpr c28
    clear c28
    replace H := Option.bind_eq_some_iff.mp H
    obtain ⟨⟨t180, t181, t182, t183⟩, A29, H⟩ := H
    try dsimp only at H
    replace A29 := Aside0.mk A29
    simp only [Option.some.injEq, Prod.mk.injEq] at H
    obtain ⟨rfl, rfl, rfl, rfl⟩ := H
    go_enter Tryz.func15, Tryz.ntmps15
    go_wp2_with (first | ((with_reducible refine gate_dst (N := 4) rfl ?_); refine bxe 4 (cs := #[.int .i64 a1_0, .int .u64 a1_1, .int .u64 a1_2, .string a1_3]) (t := 24) ?_; intro gb169 hg w30 hbox hb; have BK169 := Aside0.mk hbox; have GW169 := bsz HB hg; have GE169 := bsz HB hg; replace HB := bls HB hb; clear hb hbox hg) | ((with_reducible refine gate_dst (N := 5) rfl ?_); refine bxe 5 (cs := #[.int .i64 a2_0, .int .u64 a2_1, .int .u64 a2_2, .string a2_3]) (t := 24) ?_; intro gb170 hg w31 hbox hb; have BK170 := Aside0.mk hbox; have GW170 := bsz HB hg; have GE170 := bsz HB hg; have NB169_170 := bnl BK169 hg; have NB170_169 := bng BK169 hg; replace BK169 := bkb BK169 hb; replace HB := bls HB hb; clear hb hbox hg) | ((with_reducible refine gate_dst (N := 6) rfl ?_); refine bxe 6 (cs := #[.int .i64 0, .int .u64 0, .int .u64 0, .string (⟨#[]⟩ : ByteArray)]) (t := 24) ?_; intro gb171 hg w32 hbox hb; have BK171 := Aside0.mk hbox; have GW171 := bsz HB hg; have GE171 := bsz HB hg; have NB169_171 := bnl BK169 hg; have NB171_169 := bng BK169 hg; have NB170_171 := bnl BK170 hg; have NB171_170 := bng BK170 hg; replace BK169 := bkb BK169 hb; replace BK170 := bkb BK170 hb; replace HB := bls HB hb; clear hb hbox hg; have hnb33 := NB169_170.out; have hnc33 := NB170_169.out; have hnb34 := NB169_171.out; have hnc34 := NB171_169.out; have hcz35_0 : w32.cell? ⟨gb169, 0, none⟩ = some (.int .i64 a1_0) := (blk_cell BK169.out 0).trans rfl; have hcz35_1 : w32.cell? ⟨gb169, 1, none⟩ = some (.int .u64 a1_1) := (blk_cell BK169.out 1).trans rfl; have hcz35_2 : w32.cell? ⟨gb169, 2, none⟩ = some (.int .u64 a1_2) := (blk_cell BK169.out 2).trans rfl; have hcz35_3 : w32.cell? ⟨gb169, 3, none⟩ = some (.string a1_3) := (blk_cell BK169.out 3).trans rfl; have hfz35_0 := blk_frozen BK169.out 0; have hfz35_1 := blk_frozen BK169.out 1; have hfz35_2 := blk_frozen BK169.out 2; have hfz35_3 := blk_frozen BK169.out 3; have hnb36 := NB170_171.out; have hnc36 := NB171_170.out; have hcz37_0 : w32.cell? ⟨gb170, 0, none⟩ = some (.int .i64 a2_0) := (blk_cell BK170.out 0).trans rfl; have hcz37_1 : w32.cell? ⟨gb170, 1, none⟩ = some (.int .u64 a2_1) := (blk_cell BK170.out 1).trans rfl; have hcz37_2 : w32.cell? ⟨gb170, 2, none⟩ = some (.int .u64 a2_2) := (blk_cell BK170.out 2).trans rfl; have hcz37_3 : w32.cell? ⟨gb170, 3, none⟩ = some (.string a2_3) := (blk_cell BK170.out 3).trans rfl; have hfz37_0 := blk_frozen BK170.out 0; have hfz37_1 := blk_frozen BK170.out 1; have hfz37_2 := blk_frozen BK170.out 2; have hfz37_3 := blk_frozen BK170.out 3) | ((with_reducible refine gate_callee (f := 60) rfl ?_); refine gL 22 Tryz.func60 #[.agg #[.int .i64 a1_0, .int .u64 a1_1, .int .u64 a1_2, .string a1_3], .agg #[.int .i64 a2_0, .int .u64 a2_1, .int .u64 a2_2, .string a2_3]] ?_; (with_reducible refine (formularyref10_Mul.calls a1_0 a1_1 a1_2 a1_3 a2_0 a2_1 a2_2 a2_3 t180 t181 t182 t183 _ A29.out).mono ?_); rintro e w38 ⟨rfl, hb⟩; refine ⟨_, rfl, ?_⟩; replace BK169 := bkb BK169 hb; replace BK170 := bkb BK170 hb; replace BK171 := bkb BK171 hb; replace HB := bls HB hb; clear hb; have hcz39_0 : w38.cell? ⟨gb171, 0, none⟩ = some (.int .i64 0) := (blk_cell BK171.out 0).trans rfl; have hcz39_1 : w38.cell? ⟨gb171, 1, none⟩ = some (.int .u64 0) := (blk_cell BK171.out 1).trans rfl; have hcz39_2 : w38.cell? ⟨gb171, 2, none⟩ = some (.int .u64 0) := (blk_cell BK171.out 2).trans rfl; have hcz39_3 : w38.cell? ⟨gb171, 3, none⟩ = some (.string (⟨#[]⟩ : ByteArray)) := (blk_cell BK171.out 3).trans rfl; have hfz39_0 := blk_frozen BK171.out 0; have hfz39_1 := blk_frozen BK171.out 1; have hfz39_2 := blk_frozen BK171.out 2; have hfz39_3 := blk_frozen BK171.out 3))
    refine bodyPost_ret (results_cell_row rfl _ _ gb171 24 #[.int .i64 t180, .int .u64 t181, .int .u64 t182, .string t183] (0, 0) _ rfl (by (with_reducible repeat (first | refine blk_drewN ?_ _ | refine blk_drew ?_ | refine blk_alloc ?_ _)); refine blk_put (cs := #[.int .i64 t180, .int .u64 t181, .int .u64 t182, .string (⟨#[]⟩ : ByteArray)]) ?_ 3 _ rfl; (with_reducible repeat (first | refine blk_drewN ?_ _ | refine blk_drew ?_ | refine blk_alloc ?_ _)); refine blk_put (cs := #[.int .i64 t180, .int .u64 t181, .int .u64 0, .string (⟨#[]⟩ : ByteArray)]) ?_ 2 _ rfl; (with_reducible repeat (first | refine blk_drewN ?_ _ | refine blk_drew ?_ | refine blk_alloc ?_ _)); refine blk_put (cs := #[.int .i64 t180, .int .u64 0, .int .u64 0, .string (⟨#[]⟩ : ByteArray)]) ?_ 1 _ rfl; (with_reducible repeat (first | refine blk_drewN ?_ _ | refine blk_drew ?_ | refine blk_alloc ?_ _)); refine blk_put (cs := #[.int .i64 0, .int .u64 0, .int .u64 0, .string (⟨#[]⟩ : ByteArray)]) ?_ 0 _ rfl; (with_reducible repeat (first | refine blk_drewN ?_ _ | refine blk_drew ?_ | refine blk_alloc ?_ _)); exact BK171.out) Tryz.underlying24 rfl (by kernel_rfl)) rfl ?_
    exact ⟨by first | rfl | (simp [errW_none, errW_some] <;> rfl) | (simp [*, errW_none, errW_some] <;> rfl), (blt HB).out⟩
   ·rw [if_neg c28] at H
    have c28b0 : (a0 == 2) = false := beq_eq_false_iff_ne.mpr c28
    have c28b1 : (a0 != 2) = true := bne_iff_ne.mpr c28
    replace H := Option.bind_eq_some_iff.mp H
    obtain ⟨⟨t184, t185, t186, t187⟩, A40, H⟩ := H
    try dsimp only at H
    replace A40 := Aside0.mk A40
    simp only [Option.some.injEq, Prod.mk.injEq] at H
    obtain ⟨rfl, rfl, rfl, rfl⟩ := H
    go_enter Tryz.func15, Tryz.ntmps15
    go_wp2_with (first | ((with_reducible refine gate_dst (N := 4) rfl ?_); refine bxe 4 (cs := #[.int .i64 a1_0, .int .u64 a1_1, .int .u64 a1_2, .string a1_3]) (t := 24) ?_; intro gb169 hg w41 hbox hb; have BK169 := Aside0.mk hbox; have GW169 := bsz HB hg; have GE169 := bsz HB hg; replace HB := bls HB hb; clear hb hbox hg) | ((with_reducible refine gate_dst (N := 5) rfl ?_); refine bxe 5 (cs := #[.int .i64 a2_0, .int .u64 a2_1, .int .u64 a2_2, .string a2_3]) (t := 24) ?_; intro gb170 hg w42 hbox hb; have BK170 := Aside0.mk hbox; have GW170 := bsz HB hg; have GE170 := bsz HB hg; have NB169_170 := bnl BK169 hg; have NB170_169 := bng BK169 hg; replace BK169 := bkb BK169 hb; replace HB := bls HB hb; clear hb hbox hg) | ((with_reducible refine gate_dst (N := 6) rfl ?_); refine bxe 6 (cs := #[.int .i64 0, .int .u64 0, .int .u64 0, .string (⟨#[]⟩ : ByteArray)]) (t := 24) ?_; intro gb171 hg w43 hbox hb; have BK171 := Aside0.mk hbox; have GW171 := bsz HB hg; have GE171 := bsz HB hg; have NB169_171 := bnl BK169 hg; have NB171_169 := bng BK169 hg; have NB170_171 := bnl BK170 hg; have NB171_170 := bng BK170 hg; replace BK169 := bkb BK169 hb; replace BK170 := bkb BK170 hb; replace HB := bls HB hb; clear hb hbox hg; have hnb44 := NB169_170.out; have hnc44 := NB170_169.out; have hnb45 := NB169_171.out; have hnc45 := NB171_169.out; have hcz46_0 : w43.cell? ⟨gb169, 0, none⟩ = some (.int .i64 a1_0) := (blk_cell BK169.out 0).trans rfl; have hcz46_1 : w43.cell? ⟨gb169, 1, none⟩ = some (.int .u64 a1_1) := (blk_cell BK169.out 1).trans rfl; have hcz46_2 : w43.cell? ⟨gb169, 2, none⟩ = some (.int .u64 a1_2) := (blk_cell BK169.out 2).trans rfl; have hcz46_3 : w43.cell? ⟨gb169, 3, none⟩ = some (.string a1_3) := (blk_cell BK169.out 3).trans rfl; have hfz46_0 := blk_frozen BK169.out 0; have hfz46_1 := blk_frozen BK169.out 1; have hfz46_2 := blk_frozen BK169.out 2; have hfz46_3 := blk_frozen BK169.out 3; have hnb47 := NB170_171.out; have hnc47 := NB171_170.out; have hcz48_0 : w43.cell? ⟨gb170, 0, none⟩ = some (.int .i64 a2_0) := (blk_cell BK170.out 0).trans rfl; have hcz48_1 : w43.cell? ⟨gb170, 1, none⟩ = some (.int .u64 a2_1) := (blk_cell BK170.out 1).trans rfl; have hcz48_2 : w43.cell? ⟨gb170, 2, none⟩ = some (.int .u64 a2_2) := (blk_cell BK170.out 2).trans rfl; have hcz48_3 : w43.cell? ⟨gb170, 3, none⟩ = some (.string a2_3) := (blk_cell BK170.out 3).trans rfl; have hfz48_0 := blk_frozen BK170.out 0; have hfz48_1 := blk_frozen BK170.out 1; have hfz48_2 := blk_frozen BK170.out 2; have hfz48_3 := blk_frozen BK170.out 3) | ((with_reducible refine gate_callee (f := 61) rfl ?_); refine gL 25 Tryz.func61 #[.agg #[.int .i64 a1_0, .int .u64 a1_1, .int .u64 a1_2, .string a1_3], .agg #[.int .i64 a2_0, .int .u64 a2_1, .int .u64 a2_2, .string a2_3]] ?_; (with_reducible refine (formularyref10_Div.calls a1_0 a1_1 a1_2 a1_3 a2_0 a2_1 a2_2 a2_3 t184 t185 t186 t187 _ A40.out).mono ?_); rintro e w49 ⟨rfl, hb⟩; refine ⟨_, rfl, ?_⟩; replace BK169 := bkb BK169 hb; replace BK170 := bkb BK170 hb; replace BK171 := bkb BK171 hb; replace HB := bls HB hb; clear hb; have hcz50_0 : w49.cell? ⟨gb171, 0, none⟩ = some (.int .i64 0) := (blk_cell BK171.out 0).trans rfl; have hcz50_1 : w49.cell? ⟨gb171, 1, none⟩ = some (.int .u64 0) := (blk_cell BK171.out 1).trans rfl; have hcz50_2 : w49.cell? ⟨gb171, 2, none⟩ = some (.int .u64 0) := (blk_cell BK171.out 2).trans rfl; have hcz50_3 : w49.cell? ⟨gb171, 3, none⟩ = some (.string (⟨#[]⟩ : ByteArray)) := (blk_cell BK171.out 3).trans rfl; have hfz50_0 := blk_frozen BK171.out 0; have hfz50_1 := blk_frozen BK171.out 1; have hfz50_2 := blk_frozen BK171.out 2; have hfz50_3 := blk_frozen BK171.out 3))
    refine bodyPost_ret (results_cell_row rfl _ _ gb171 24 #[.int .i64 t184, .int .u64 t185, .int .u64 t186, .string t187] (0, 0) _ rfl (by (with_reducible repeat (first | refine blk_drewN ?_ _ | refine blk_drew ?_ | refine blk_alloc ?_ _)); refine blk_put (cs := #[.int .i64 t184, .int .u64 t185, .int .u64 t186, .string (⟨#[]⟩ : ByteArray)]) ?_ 3 _ rfl; (with_reducible repeat (first | refine blk_drewN ?_ _ | refine blk_drew ?_ | refine blk_alloc ?_ _)); refine blk_put (cs := #[.int .i64 t184, .int .u64 t185, .int .u64 0, .string (⟨#[]⟩ : ByteArray)]) ?_ 2 _ rfl; (with_reducible repeat (first | refine blk_drewN ?_ _ | refine blk_drew ?_ | refine blk_alloc ?_ _)); refine blk_put (cs := #[.int .i64 t184, .int .u64 0, .int .u64 0, .string (⟨#[]⟩ : ByteArray)]) ?_ 1 _ rfl; (with_reducible repeat (first | refine blk_drewN ?_ _ | refine blk_drew ?_ | refine blk_alloc ?_ _)); refine blk_put (cs := #[.int .i64 0, .int .u64 0, .int .u64 0, .string (⟨#[]⟩ : ByteArray)]) ?_ 0 _ rfl; (with_reducible repeat (first | refine blk_drewN ?_ _ | refine blk_drew ?_ | refine blk_alloc ?_ _)); exact BK171.out) Tryz.underlying24 rfl (by kernel_rfl)) rfl ?_
    exact ⟨by first | rfl | (simp [errW_none, errW_some] <;> rfl) | (simp [*, errW_none, errW_some] <;> rfl), (blt HB).out⟩
def formularyref10_TypeErr.f (a0 : Int) : Option (Int) := if a0 = 3 then (some 0) else (if a0 = 4 then (some 0) else (some 27))
set_option maxHeartbeats 8000000 in
set_option maxRecDepth 100000 in
theorem formularyref10_TypeErr.calls (a0 : Int) (r : Int) (w : World) (h : formularyref10_TypeErr.f a0 = some r) :
  Calls Tryz.prog 39 #[.int .i64 a0] w fun e w' => e = .returned (.int .i64 r) ∧ Drawn0 w w' := by
 have H : (if a0 = 3 then (some 0) else (if a0 = 4 then (some 0) else (some 27))) = some r := h
 clear h
 by_cases c2 : a0 = 3
 ·rw [if_pos c2] at H
  have c2b0 : (a0 == 3) = true := beq_iff_eq.mpr c2
  have c2b1 : (a0 != 3) = false := bne_eq_false_iff_eq.mpr c2
  clear c2
  obtain rfl := Option.some.inj H
  go_enter Tryz.func39, Tryz.ntmps39
  go_wp2
  go_ret
  exact ⟨by first | rfl | (simp; done) | (simp [*]; done), by repeat (first | exact Drawn0.refl _ | apply Drawn0.step)⟩
 ·rw [if_neg c2] at H
  have c2b0 : (a0 == 3) = false := beq_eq_false_iff_ne.mpr c2
  have c2b1 : (a0 != 3) = true := bne_iff_ne.mpr c2
  by_cases c3 : a0 = 4
  ·rw [if_pos c3] at H
   have c3b0 : (a0 == 4) = true := beq_iff_eq.mpr c3
   have c3b1 : (a0 != 4) = false := bne_eq_false_iff_eq.mpr c3
   clear c3
   obtain rfl := Option.some.inj H
   go_enter Tryz.func39, Tryz.ntmps39
   go_wp2
   go_ret
   exact ⟨by first | rfl | (simp; done) | (simp [*]; done), by repeat (first | exact Drawn0.refl _ | apply Drawn0.step)⟩
  ·rw [if_neg c3] at H
   have c3b0 : (a0 == 4) = false := beq_eq_false_iff_ne.mpr c3
   have c3b1 : (a0 != 4) = true := bne_iff_ne.mpr c3
   obtain rfl := Option.some.inj H
   go_enter Tryz.func39, Tryz.ntmps39
   go_wp2
   go_ret
   exact ⟨by first | rfl | (simp; done) | (simp [*]; done), by repeat (first | exact Drawn0.refl _ | apply Drawn0.step)⟩
def formularyref10_ValueErr.f (a0_0 : Int) (a0_1 : Int) (a0_2 : Int) (a0_3 : ByteArray) : Option (Int) := (formularyref10_TypeErr.f a0_0).bind fun t189 => (if t189 = 0 then (if a0_3.toList = ([] : List UInt8) then (if a0_0 = 3 then (if a0_1 ≥ 4294967296 then (some 3) else (if a0_2 ≥ 4294967296 then (some 3) else (some 0))) else (some 0)) else (some 3)) else (some t189))
set_option maxHeartbeats 8000000 in
set_option maxRecDepth 100000 in
theorem formularyref10_ValueErr.calls (a0_0 : Int) (a0_1 : Int) (a0_2 : Int) (a0_3 : ByteArray) (r : Int) (w : World) (h : formularyref10_ValueErr.f a0_0 a0_1 a0_2 a0_3 = some r) :
  Calls Tryz.prog 29 #[.agg #[.int .i64 a0_0, .int .u64 a0_1, .int .u64 a0_2, .string a0_3]] w fun e w' => e = .returned (.int .i64 r) ∧ Below w.heap.size w w' := by
 have hu24 := Tryz.underlying24
 have HB := Aside0.mk (Below.refl w.heap.size w)
 have H : ((formularyref10_TypeErr.f a0_0).bind fun t189 => (if t189 = 0 then (if a0_3.toList = ([] : List UInt8) then (if a0_0 = 3 then (if a0_1 ≥ 4294967296 then (some 3) else (if a0_2 ≥ 4294967296 then (some 3) else (some 0))) else (some 0)) else (some 3)) else (some t189))) = some r := h
 clear h
 replace H := Option.bind_eq_some_iff.mp H
 obtain ⟨t189, A2, H⟩ := H
 try dsimp only at H
 replace A2 := Aside0.mk A2
 by_cases c3 : t189 = 0
 ·rw [if_pos c3] at H
  have c3b0 : (t189 == 0) = true := beq_iff_eq.mpr c3
  have c3b1 : (t189 != 0) = false := bne_eq_false_iff_eq.mpr c3
  clear c3
  by_cases c4 : a0_3.toList = ([] : List UInt8)
  ·rw [if_pos c4] at H
   have c4b0 : (a0_3.toList == ([] : List UInt8)) = true := beq_iff_eq.mpr c4
   have c4b1 : (a0_3.toList != ([] : List UInt8)) = false := bne_eq_false_iff_eq.mpr c4
   clear c4
   by_cases c5 : a0_0 = 3
   ·rw [if_pos c5] at H
    have c5b0 : (a0_0 == 3) = true := beq_iff_eq.mpr c5
    have c5b1 : (a0_0 != 3) = false := bne_eq_false_iff_eq.mpr c5
    clear c5
    by_cases c6 : a0_1 ≥ 4294967296
    ·rw [if_pos c6] at H
     have c6b0 : decide (4294967296 ≤ a0_1) = true := decide_eq_true c6
     clear c6
     obtain rfl := Option.some.inj H
     go_enter Tryz.func29, Tryz.ntmps29
     go_wp2_with (first | ((with_reducible refine gate_dst (N := 1) rfl ?_); refine bxe 1 (cs := #[.int .i64 a0_0, .int .u64 a0_1, .int .u64 a0_2, .string a0_3]) (t := 24) ?_; intro gb188 hg w7 hbox hb; have BK188 := Aside0.mk hbox; have GW188 := bsz HB hg; have GE188 := bsz HB hg; replace HB := bls HB hb; clear hb hbox hg; have hcz8_0 : w7.cell? ⟨gb188, 0, none⟩ = some (.int .i64 a0_0) := (blk_cell BK188.out 0).trans rfl; have hcz8_1 : w7.cell? ⟨gb188, 1, none⟩ = some (.int .u64 a0_1) := (blk_cell BK188.out 1).trans rfl; have hcz8_2 : w7.cell? ⟨gb188, 2, none⟩ = some (.int .u64 a0_2) := (blk_cell BK188.out 2).trans rfl; have hcz8_3 : w7.cell? ⟨gb188, 3, none⟩ = some (.string a0_3) := (blk_cell BK188.out 3).trans rfl; have hfz8_0 := blk_frozen BK188.out 0; have hfz8_1 := blk_frozen BK188.out 1; have hfz8_2 := blk_frozen BK188.out 2; have hfz8_3 := blk_frozen BK188.out 3) | ((with_reducible refine gate_callee (f := 39) rfl ?_); refine gL 6 Tryz.func39 #[.int .i64 a0_0] ?_; (with_reducible refine (formularyref10_TypeErr.calls a0_0 t189 _ A2.out).mono ?_); rintro e w' ⟨rfl, ⟨nd, rfl⟩⟩; refine ⟨_, rfl, ?_⟩))
     go_ret
     exact ⟨by first | rfl | (simp [errW_none, errW_some] <;> rfl) | (simp [*, errW_none, errW_some] <;> rfl), (blt HB).out⟩
    ·rw [if_neg c6] at H
     have c6b0 : decide (4294967296 ≤ a0_1) = false := decide_eq_false c6
     clear c6
     by_cases c9 : a0_2 ≥ 4294967296
     ·rw [if_pos c9] at H
      have c9b0 : decide (4294967296 ≤ a0_2) = true := decide_eq_true c9
      clear c9
      obtain rfl := Option.some.inj H
      go_enter Tryz.func29, Tryz.ntmps29
      go_wp2_with (first | ((with_reducible refine gate_dst (N := 1) rfl ?_); refine bxe 1 (cs := #[.int .i64 a0_0, .int .u64 a0_1, .int .u64 a0_2, .string a0_3]) (t := 24) ?_; intro gb188 hg w10 hbox hb; have BK188 := Aside0.mk hbox; have GW188 := bsz HB hg; have GE188 := bsz HB hg; replace HB := bls HB hb; clear hb hbox hg; have hcz11_0 : w10.cell? ⟨gb188, 0, none⟩ = some (.int .i64 a0_0) := (blk_cell BK188.out 0).trans rfl; have hcz11_1 : w10.cell? ⟨gb188, 1, none⟩ = some (.int .u64 a0_1) := (blk_cell BK188.out 1).trans rfl; have hcz11_2 : w10.cell? ⟨gb188, 2, none⟩ = some (.int .u64 a0_2) := (blk_cell BK188.out 2).trans rfl; have hcz11_3 : w10.cell? ⟨gb188, 3, none⟩ = some (.string a0_3) := (blk_cell BK188.out 3).trans rfl; have hfz11_0 := blk_frozen BK188.out 0; have hfz11_1 := blk_frozen BK188.out 1; have hfz11_2 := blk_frozen BK188.out 2; have hfz11_3 := blk_frozen BK188.out 3) | ((with_reducible refine gate_callee (f := 39) rfl ?_); refine gL 6 Tryz.func39 #[.int .i64 a0_0] ?_; (with_reducible refine (formularyref10_TypeErr.calls a0_0 t189 _ A2.out).mono ?_); rintro e w' ⟨rfl, ⟨nd, rfl⟩⟩; refine ⟨_, rfl, ?_⟩))
      go_ret
      exact ⟨by first | rfl | (simp [errW_none, errW_some] <;> rfl) | (simp [*, errW_none, errW_some] <;> rfl), (blt HB).out⟩
     ·rw [if_neg c9] at H
      have c9b0 : decide (4294967296 ≤ a0_2) = false := decide_eq_false c9
      clear c9
      obtain rfl := Option.some.inj H
      go_enter Tryz.func29, Tryz.ntmps29
      go_wp2_with (first | ((with_reducible refine gate_dst (N := 1) rfl ?_); refine bxe 1 (cs := #[.int .i64 a0_0, .int .u64 a0_1, .int .u64 a0_2, .string a0_3]) (t := 24) ?_; intro gb188 hg w12 hbox hb; have BK188 := Aside0.mk hbox; have GW188 := bsz HB hg; have GE188 := bsz HB hg; replace HB := bls HB hb; clear hb hbox hg; have hcz13_0 : w12.cell? ⟨gb188, 0, none⟩ = some (.int .i64 a0_0) := (blk_cell BK188.out 0).trans rfl; have hcz13_1 : w12.cell? ⟨gb188, 1, none⟩ = some (.int .u64 a0_1) := (blk_cell BK188.out 1).trans rfl; have hcz13_2 : w12.cell? ⟨gb188, 2, none⟩ = some (.int .u64 a0_2) := (blk_cell BK188.out 2).trans rfl; have hcz13_3 : w12.cell? ⟨gb188, 3, none⟩ = some (.string a0_3) := (blk_cell BK188.out 3).trans rfl; have hfz13_0 := blk_frozen BK188.out 0; have hfz13_1 := blk_frozen BK188.out 1; have hfz13_2 := blk_frozen BK188.out 2; have hfz13_3 := blk_frozen BK188.out 3) | ((with_reducible refine gate_callee (f := 39) rfl ?_); refine gL 6 Tryz.func39 #[.int .i64 a0_0] ?_; (with_reducible refine (formularyref10_TypeErr.calls a0_0 t189 _ A2.out).mono ?_); rintro e w' ⟨rfl, ⟨nd, rfl⟩⟩; refine ⟨_, rfl, ?_⟩))
      go_ret
      exact ⟨by first | rfl | (simp [errW_none, errW_some] <;> rfl) | (simp [*, errW_none, errW_some] <;> rfl), (blt HB).out⟩
   ·rw [if_neg c5] at H
    have c5b0 : (a0_0 == 3) = false := beq_eq_false_iff_ne.mpr c5
    have c5b1 : (a0_0 != 3) = true := bne_iff_ne.mpr c5
    obtain rfl := Option.some.inj H
    go_enter Tryz.func29, Tryz.ntmps29
    go_wp2_with (first | ((with_reducible refine gate_dst (N := 1) rfl ?_); refine bxe 1 (cs := #[.int .i64 a0_0, .int .u64 a0_1, .int .u64 a0_2, .string a0_3]) (t := 24) ?_; intro gb188 hg w14 hbox hb; have BK188 := Aside0.mk hbox; have GW188 := bsz HB hg; have GE188 := bsz HB hg; replace HB := bls HB hb; clear hb hbox hg; have hcz15_0 : w14.cell? ⟨gb188, 0, none⟩ = some (.int .i64 a0_0) := (blk_cell BK188.out 0).trans rfl; have hcz15_1 : w14.cell? ⟨gb188, 1, none⟩ = some (.int .u64 a0_1) := (blk_cell BK188.out 1).trans rfl; have hcz15_2 : w14.cell? ⟨gb188, 2, none⟩ = some (.int .u64 a0_2) := (blk_cell BK188.out 2).trans rfl; have hcz15_3 : w14.cell? ⟨gb188, 3, none⟩ = some (.string a0_3) := (blk_cell BK188.out 3).trans rfl; have hfz15_0 := blk_frozen BK188.out 0; have hfz15_1 := blk_frozen BK188.out 1; have hfz15_2 := blk_frozen BK188.out 2; have hfz15_3 := blk_frozen BK188.out 3) | ((with_reducible refine gate_callee (f := 39) rfl ?_); refine gL 6 Tryz.func39 #[.int .i64 a0_0] ?_; (with_reducible refine (formularyref10_TypeErr.calls a0_0 t189 _ A2.out).mono ?_); rintro e w' ⟨rfl, ⟨nd, rfl⟩⟩; refine ⟨_, rfl, ?_⟩))
    go_ret
    exact ⟨by first | rfl | (simp [errW_none, errW_some] <;> rfl) | (simp [*, errW_none, errW_some] <;> rfl), (blt HB).out⟩
  ·rw [if_neg c4] at H
   have c4b0 : (a0_3.toList == ([] : List UInt8)) = false := beq_eq_false_iff_ne.mpr c4
   have c4b1 : (a0_3.toList != ([] : List UInt8)) = true := bne_iff_ne.mpr c4
   obtain rfl := Option.some.inj H
   go_enter Tryz.func29, Tryz.ntmps29
   go_wp2_with (first | ((with_reducible refine gate_dst (N := 1) rfl ?_); refine bxe 1 (cs := #[.int .i64 a0_0, .int .u64 a0_1, .int .u64 a0_2, .string a0_3]) (t := 24) ?_; intro gb188 hg w16 hbox hb; have BK188 := Aside0.mk hbox; have GW188 := bsz HB hg; have GE188 := bsz HB hg; replace HB := bls HB hb; clear hb hbox hg; have hcz17_0 : w16.cell? ⟨gb188, 0, none⟩ = some (.int .i64 a0_0) := (blk_cell BK188.out 0).trans rfl; have hcz17_1 : w16.cell? ⟨gb188, 1, none⟩ = some (.int .u64 a0_1) := (blk_cell BK188.out 1).trans rfl; have hcz17_2 : w16.cell? ⟨gb188, 2, none⟩ = some (.int .u64 a0_2) := (blk_cell BK188.out 2).trans rfl; have hcz17_3 : w16.cell? ⟨gb188, 3, none⟩ = some (.string a0_3) := (blk_cell BK188.out 3).trans rfl; have hfz17_0 := blk_frozen BK188.out 0; have hfz17_1 := blk_frozen BK188.out 1; have hfz17_2 := blk_frozen BK188.out 2; have hfz17_3 := blk_frozen BK188.out 3) | ((with_reducible refine gate_callee (f := 39) rfl ?_); refine gL 6 Tryz.func39 #[.int .i64 a0_0] ?_; (with_reducible refine (formularyref10_TypeErr.calls a0_0 t189 _ A2.out).mono ?_); rintro e w' ⟨rfl, ⟨nd, rfl⟩⟩; refine ⟨_, rfl, ?_⟩))
   go_ret
   exact ⟨by first | rfl | (simp [errW_none, errW_some] <;> rfl) | (simp [*, errW_none, errW_some] <;> rfl), (blt HB).out⟩
 ·rw [if_neg c3] at H
  have c3b0 : (t189 == 0) = false := beq_eq_false_iff_ne.mpr c3
  have c3b1 : (t189 != 0) = true := bne_iff_ne.mpr c3
  obtain rfl := Option.some.inj H
  go_enter Tryz.func29, Tryz.ntmps29
  go_wp2_with (first | ((with_reducible refine gate_dst (N := 1) rfl ?_); refine bxe 1 (cs := #[.int .i64 a0_0, .int .u64 a0_1, .int .u64 a0_2, .string a0_3]) (t := 24) ?_; intro gb188 hg w18 hbox hb; have BK188 := Aside0.mk hbox; have GW188 := bsz HB hg; have GE188 := bsz HB hg; replace HB := bls HB hb; clear hb hbox hg; have hcz19_0 : w18.cell? ⟨gb188, 0, none⟩ = some (.int .i64 a0_0) := (blk_cell BK188.out 0).trans rfl; have hcz19_1 : w18.cell? ⟨gb188, 1, none⟩ = some (.int .u64 a0_1) := (blk_cell BK188.out 1).trans rfl; have hcz19_2 : w18.cell? ⟨gb188, 2, none⟩ = some (.int .u64 a0_2) := (blk_cell BK188.out 2).trans rfl; have hcz19_3 : w18.cell? ⟨gb188, 3, none⟩ = some (.string a0_3) := (blk_cell BK188.out 3).trans rfl; have hfz19_0 := blk_frozen BK188.out 0; have hfz19_1 := blk_frozen BK188.out 1; have hfz19_2 := blk_frozen BK188.out 2; have hfz19_3 := blk_frozen BK188.out 3) | ((with_reducible refine gate_callee (f := 39) rfl ?_); refine gL 6 Tryz.func39 #[.int .i64 a0_0] ?_; (with_reducible refine (formularyref10_TypeErr.calls a0_0 t189 _ A2.out).mono ?_); rintro e w' ⟨rfl, ⟨nd, rfl⟩⟩; refine ⟨_, rfl, ?_⟩))
  go_ret
  exact ⟨by first | rfl | (simp [errW_none, errW_some] <;> rfl) | (simp [*, errW_none, errW_some] <;> rfl), (blt HB).out⟩
def formularyref10_TwoErr.f (a0_0 : Int) (a0_1 : Int) (a0_2 : Int) (a0_3 : ByteArray) (a1_0 : Int) (a1_1 : Int) (a1_2 : Int) (a1_3 : ByteArray) : Option (Int) := (formularyref10_ValueErr.f a0_0 a0_1 a0_2 a0_3).bind fun t192 => (if t192 = 0 then ((formularyref10_ValueErr.f a1_0 a1_1 a1_2 a1_3).bind fun t193 => (if t193 = 0 then (if a0_0 = a1_0 then (some 0) else (some 27)) else (some t193))) else (some t192))
set_option maxHeartbeats 8000000 in
set_option maxRecDepth 100000 in
theorem formularyref10_TwoErr.calls (a0_0 : Int) (a0_1 : Int) (a0_2 : Int) (a0_3 : ByteArray) (a1_0 : Int) (a1_1 : Int) (a1_2 : Int) (a1_3 : ByteArray) (r : Int) (w : World) (h : formularyref10_TwoErr.f a0_0 a0_1 a0_2 a0_3 a1_0 a1_1 a1_2 a1_3 = some r) :
  Calls Tryz.prog 13 #[.agg #[.int .i64 a0_0, .int .u64 a0_1, .int .u64 a0_2, .string a0_3], .agg #[.int .i64 a1_0, .int .u64 a1_1, .int .u64 a1_2, .string a1_3]] w fun e w' => e = .returned (.int .i64 r) ∧ Below w.heap.size w w' := by
 have hu24 := Tryz.underlying24
 have HB := Aside0.mk (Below.refl w.heap.size w)
 have H : ((formularyref10_ValueErr.f a0_0 a0_1 a0_2 a0_3).bind fun t192 => (if t192 = 0 then ((formularyref10_ValueErr.f a1_0 a1_1 a1_2 a1_3).bind fun t193 => (if t193 = 0 then (if a0_0 = a1_0 then (some 0) else (some 27)) else (some t193))) else (some t192))) = some r := h
 clear h
 replace H := Option.bind_eq_some_iff.mp H
 obtain ⟨t192, A3, H⟩ := H
 try dsimp only at H
 replace A3 := Aside0.mk A3
 by_cases c4 : t192 = 0
 ·rw [if_pos c4] at H
  have c4b0 : (t192 == 0) = true := beq_iff_eq.mpr c4
  have c4b1 : (t192 != 0) = false := bne_eq_false_iff_eq.mpr c4
  clear c4
  replace H := Option.bind_eq_some_iff.mp H
  obtain ⟨t193, A5, H⟩ := H
  try dsimp only at H
  replace A5 := Aside0.mk A5
  by_cases c6 : t193 = 0
  ·rw [if_pos c6] at H
   have c6b0 : (t193 == 0) = true := beq_iff_eq.mpr c6
   have c6b1 : (t193 != 0) = false := bne_eq_false_iff_eq.mpr c6
   clear c6
   by_cases c7 : a0_0 = a1_0
   ·rw [if_pos c7] at H
    have c7b0 : (a0_0 == a1_0) = true := beq_iff_eq.mpr c7
    have c7b1 : (a0_0 != a1_0) = false := bne_eq_false_iff_eq.mpr c7
    clear c7
    obtain rfl := Option.some.inj H
    go_enter Tryz.func13, Tryz.ntmps13
    go_wp2_with (first | ((with_reducible refine gate_dst (N := 2) rfl ?_); refine bxe 2 (cs := #[.int .i64 a0_0, .int .u64 a0_1, .int .u64 a0_2, .string a0_3]) (t := 24) ?_; intro gb190 hg w8 hbox hb; have BK190 := Aside0.mk hbox; have GW190 := bsz HB hg; have GE190 := bsz HB hg; replace HB := bls HB hb; clear hb hbox hg) | ((with_reducible refine gate_dst (N := 3) rfl ?_); refine bxe 3 (cs := #[.int .i64 a1_0, .int .u64 a1_1, .int .u64 a1_2, .string a1_3]) (t := 24) ?_; intro gb191 hg w9 hbox hb; have BK191 := Aside0.mk hbox; have GW191 := bsz HB hg; have GE191 := bsz HB hg; have NB190_191 := bnl BK190 hg; have NB191_190 := bng BK190 hg; replace BK190 := bkb BK190 hb; replace HB := bls HB hb; clear hb hbox hg; have hnb10 := NB190_191.out; have hnc10 := NB191_190.out; have hcz11_0 : w9.cell? ⟨gb190, 0, none⟩ = some (.int .i64 a0_0) := (blk_cell BK190.out 0).trans rfl; have hcz11_1 : w9.cell? ⟨gb190, 1, none⟩ = some (.int .u64 a0_1) := (blk_cell BK190.out 1).trans rfl; have hcz11_2 : w9.cell? ⟨gb190, 2, none⟩ = some (.int .u64 a0_2) := (blk_cell BK190.out 2).trans rfl; have hcz11_3 : w9.cell? ⟨gb190, 3, none⟩ = some (.string a0_3) := (blk_cell BK190.out 3).trans rfl; have hfz11_0 := blk_frozen BK190.out 0; have hfz11_1 := blk_frozen BK190.out 1; have hfz11_2 := blk_frozen BK190.out 2; have hfz11_3 := blk_frozen BK190.out 3) | ((with_reducible refine gate_callee (f := 29) rfl ?_); refine gL 8 Tryz.func29 #[.agg #[.int .i64 a0_0, .int .u64 a0_1, .int .u64 a0_2, .string a0_3]] ?_; (with_reducible refine (formularyref10_ValueErr.calls a0_0 a0_1 a0_2 a0_3 t192 _ A3.out).mono ?_); rintro e w12 ⟨rfl, hb⟩; refine ⟨_, rfl, ?_⟩; replace BK190 := bkb BK190 hb; replace BK191 := bkb BK191 hb; replace HB := bls HB hb; clear hb; have hcz13_0 : w12.cell? ⟨gb191, 0, none⟩ = some (.int .i64 a1_0) := (blk_cell BK191.out 0).trans rfl; have hcz13_1 : w12.cell? ⟨gb191, 1, none⟩ = some (.int .u64 a1_1) := (blk_cell BK191.out 1).trans rfl; have hcz13_2 : w12.cell? ⟨gb191, 2, none⟩ = some (.int .u64 a1_2) := (blk_cell BK191.out 2).trans rfl; have hcz13_3 : w12.cell? ⟨gb191, 3, none⟩ = some (.string a1_3) := (blk_cell BK191.out 3).trans rfl; have hfz13_0 := blk_frozen BK191.out 0; have hfz13_1 := blk_frozen BK191.out 1; have hfz13_2 := blk_frozen BK191.out 2; have hfz13_3 := blk_frozen BK191.out 3) | ((with_reducible refine gate_callee (f := 29) rfl ?_); refine gL 13 Tryz.func29 #[.agg #[.int .i64 a1_0, .int .u64 a1_1, .int .u64 a1_2, .string a1_3]] ?_; (with_reducible refine (formularyref10_ValueErr.calls a1_0 a1_1 a1_2 a1_3 t193 _ A5.out).mono ?_); rintro e w14 ⟨rfl, hb⟩; refine ⟨_, rfl, ?_⟩; replace BK190 := bkb BK190 hb; replace BK191 := bkb BK191 hb; replace HB := bls HB hb; clear hb; have hcz15_0 : w14.cell? ⟨gb190, 0, none⟩ = some (.int .i64 a0_0) := (blk_cell BK190.out 0).trans rfl; have hcz15_1 : w14.cell? ⟨gb190, 1, none⟩ = some (.int .u64 a0_1) := (blk_cell BK190.out 1).trans rfl; have hcz15_2 : w14.cell? ⟨gb190, 2, none⟩ = some (.int .u64 a0_2) := (blk_cell BK190.out 2).trans rfl; have hcz15_3 : w14.cell? ⟨gb190, 3, none⟩ = some (.string a0_3) := (blk_cell BK190.out 3).trans rfl; have hfz15_0 := blk_frozen BK190.out 0; have hfz15_1 := blk_frozen BK190.out 1; have hfz15_2 := blk_frozen BK190.out 2; have hfz15_3 := blk_frozen BK190.out 3; have hcz16_0 : w14.cell? ⟨gb191, 0, none⟩ = some (.int .i64 a1_0) := (blk_cell BK191.out 0).trans rfl; have hcz16_1 : w14.cell? ⟨gb191, 1, none⟩ = some (.int .u64 a1_1) := (blk_cell BK191.out 1).trans rfl; have hcz16_2 : w14.cell? ⟨gb191, 2, none⟩ = some (.int .u64 a1_2) := (blk_cell BK191.out 2).trans rfl; have hcz16_3 : w14.cell? ⟨gb191, 3, none⟩ = some (.string a1_3) := (blk_cell BK191.out 3).trans rfl; have hfz16_0 := blk_frozen BK191.out 0; have hfz16_1 := blk_frozen BK191.out 1; have hfz16_2 := blk_frozen BK191.out 2; have hfz16_3 := blk_frozen BK191.out 3))
    go_ret
    exact ⟨by first | rfl | (simp [errW_none, errW_some] <;> rfl) | (simp [*, errW_none, errW_some] <;> rfl), (blt HB).out⟩
   ·rw [if_neg c7] at H
    have c7b0 : (a0_0 == a1_0) = false := beq_eq_false_iff_ne.mpr c7
    have c7b1 : (a0_0 != a1_0) = true := bne_iff_ne.mpr c7
    obtain rfl := Option.some.inj H
    go_enter Tryz.func13, Tryz.ntmps13
    go_wp2_with (first | ((with_reducible refine gate_dst (N := 2) rfl ?_); refine bxe 2 (cs := #[.int .i64 a0_0, .int .u64 a0_1, .int .u64 a0_2, .string a0_3]) (t := 24) ?_; intro gb190 hg w17 hbox hb; have BK190 := Aside0.mk hbox; have GW190 := bsz HB hg; have GE190 := bsz HB hg; replace HB := bls HB hb; clear hb hbox hg) | ((with_reducible refine gate_dst (N := 3) rfl ?_); refine bxe 3 (cs := #[.int .i64 a1_0, .int .u64 a1_1, .int .u64 a1_2, .string a1_3]) (t := 24) ?_; intro gb191 hg w18 hbox hb; have BK191 := Aside0.mk hbox; have GW191 := bsz HB hg; have GE191 := bsz HB hg; have NB190_191 := bnl BK190 hg; have NB191_190 := bng BK190 hg; replace BK190 := bkb BK190 hb; replace HB := bls HB hb; clear hb hbox hg; have hnb19 := NB190_191.out; have hnc19 := NB191_190.out; have hcz20_0 : w18.cell? ⟨gb190, 0, none⟩ = some (.int .i64 a0_0) := (blk_cell BK190.out 0).trans rfl; have hcz20_1 : w18.cell? ⟨gb190, 1, none⟩ = some (.int .u64 a0_1) := (blk_cell BK190.out 1).trans rfl; have hcz20_2 : w18.cell? ⟨gb190, 2, none⟩ = some (.int .u64 a0_2) := (blk_cell BK190.out 2).trans rfl; have hcz20_3 : w18.cell? ⟨gb190, 3, none⟩ = some (.string a0_3) := (blk_cell BK190.out 3).trans rfl; have hfz20_0 := blk_frozen BK190.out 0; have hfz20_1 := blk_frozen BK190.out 1; have hfz20_2 := blk_frozen BK190.out 2; have hfz20_3 := blk_frozen BK190.out 3) | ((with_reducible refine gate_callee (f := 29) rfl ?_); refine gL 8 Tryz.func29 #[.agg #[.int .i64 a0_0, .int .u64 a0_1, .int .u64 a0_2, .string a0_3]] ?_; (with_reducible refine (formularyref10_ValueErr.calls a0_0 a0_1 a0_2 a0_3 t192 _ A3.out).mono ?_); rintro e w21 ⟨rfl, hb⟩; refine ⟨_, rfl, ?_⟩; replace BK190 := bkb BK190 hb; replace BK191 := bkb BK191 hb; replace HB := bls HB hb; clear hb; have hcz22_0 : w21.cell? ⟨gb191, 0, none⟩ = some (.int .i64 a1_0) := (blk_cell BK191.out 0).trans rfl; have hcz22_1 : w21.cell? ⟨gb191, 1, none⟩ = some (.int .u64 a1_1) := (blk_cell BK191.out 1).trans rfl; have hcz22_2 : w21.cell? ⟨gb191, 2, none⟩ = some (.int .u64 a1_2) := (blk_cell BK191.out 2).trans rfl; have hcz22_3 : w21.cell? ⟨gb191, 3, none⟩ = some (.string a1_3) := (blk_cell BK191.out 3).trans rfl; have hfz22_0 := blk_frozen BK191.out 0; have hfz22_1 := blk_frozen BK191.out 1; have hfz22_2 := blk_frozen BK191.out 2; have hfz22_3 := blk_frozen BK191.out 3) | ((with_reducible refine gate_callee (f := 29) rfl ?_); refine gL 13 Tryz.func29 #[.agg #[.int .i64 a1_0, .int .u64 a1_1, .int .u64 a1_2, .string a1_3]] ?_; (with_reducible refine (formularyref10_ValueErr.calls a1_0 a1_1 a1_2 a1_3 t193 _ A5.out).mono ?_); rintro e w23 ⟨rfl, hb⟩; refine ⟨_, rfl, ?_⟩; replace BK190 := bkb BK190 hb; replace BK191 := bkb BK191 hb; replace HB := bls HB hb; clear hb; have hcz24_0 : w23.cell? ⟨gb190, 0, none⟩ = some (.int .i64 a0_0) := (blk_cell BK190.out 0).trans rfl; have hcz24_1 : w23.cell? ⟨gb190, 1, none⟩ = some (.int .u64 a0_1) := (blk_cell BK190.out 1).trans rfl; have hcz24_2 : w23.cell? ⟨gb190, 2, none⟩ = some (.int .u64 a0_2) := (blk_cell BK190.out 2).trans rfl; have hcz24_3 : w23.cell? ⟨gb190, 3, none⟩ = some (.string a0_3) := (blk_cell BK190.out 3).trans rfl; have hfz24_0 := blk_frozen BK190.out 0; have hfz24_1 := blk_frozen BK190.out 1; have hfz24_2 := blk_frozen BK190.out 2; have hfz24_3 := blk_frozen BK190.out 3; have hcz25_0 : w23.cell? ⟨gb191, 0, none⟩ = some (.int .i64 a1_0) := (blk_cell BK191.out 0).trans rfl; have hcz25_1 : w23.cell? ⟨gb191, 1, none⟩ = some (.int .u64 a1_1) := (blk_cell BK191.out 1).trans rfl; have hcz25_2 : w23.cell? ⟨gb191, 2, none⟩ = some (.int .u64 a1_2) := (blk_cell BK191.out 2).trans rfl; have hcz25_3 : w23.cell? ⟨gb191, 3, none⟩ = some (.string a1_3) := (blk_cell BK191.out 3).trans rfl; have hfz25_0 := blk_frozen BK191.out 0; have hfz25_1 := blk_frozen BK191.out 1; have hfz25_2 := blk_frozen BK191.out 2; have hfz25_3 := blk_frozen BK191.out 3))
    go_ret
    exact ⟨by first | rfl | (simp [errW_none, errW_some] <;> rfl) | (simp [*, errW_none, errW_some] <;> rfl), (blt HB).out⟩
  ·rw [if_neg c6] at H
   have c6b0 : (t193 == 0) = false := beq_eq_false_iff_ne.mpr c6
   have c6b1 : (t193 != 0) = true := bne_iff_ne.mpr c6
   obtain rfl := Option.some.inj H
   go_enter Tryz.func13, Tryz.ntmps13
   go_wp2_with (first | ((with_reducible refine gate_dst (N := 2) rfl ?_); refine bxe 2 (cs := #[.int .i64 a0_0, .int .u64 a0_1, .int .u64 a0_2, .string a0_3]) (t := 24) ?_; intro gb190 hg w26 hbox hb; have BK190 := Aside0.mk hbox; have GW190 := bsz HB hg; have GE190 := bsz HB hg; replace HB := bls HB hb; clear hb hbox hg) | ((with_reducible refine gate_dst (N := 3) rfl ?_); refine bxe 3 (cs := #[.int .i64 a1_0, .int .u64 a1_1, .int .u64 a1_2, .string a1_3]) (t := 24) ?_; intro gb191 hg w27 hbox hb; have BK191 := Aside0.mk hbox; have GW191 := bsz HB hg; have GE191 := bsz HB hg; have NB190_191 := bnl BK190 hg; have NB191_190 := bng BK190 hg; replace BK190 := bkb BK190 hb; replace HB := bls HB hb; clear hb hbox hg; have hnb28 := NB190_191.out; have hnc28 := NB191_190.out; have hcz29_0 : w27.cell? ⟨gb190, 0, none⟩ = some (.int .i64 a0_0) := (blk_cell BK190.out 0).trans rfl; have hcz29_1 : w27.cell? ⟨gb190, 1, none⟩ = some (.int .u64 a0_1) := (blk_cell BK190.out 1).trans rfl; have hcz29_2 : w27.cell? ⟨gb190, 2, none⟩ = some (.int .u64 a0_2) := (blk_cell BK190.out 2).trans rfl; have hcz29_3 : w27.cell? ⟨gb190, 3, none⟩ = some (.string a0_3) := (blk_cell BK190.out 3).trans rfl; have hfz29_0 := blk_frozen BK190.out 0; have hfz29_1 := blk_frozen BK190.out 1; have hfz29_2 := blk_frozen BK190.out 2; have hfz29_3 := blk_frozen BK190.out 3) | ((with_reducible refine gate_callee (f := 29) rfl ?_); refine gL 8 Tryz.func29 #[.agg #[.int .i64 a0_0, .int .u64 a0_1, .int .u64 a0_2, .string a0_3]] ?_; (with_reducible refine (formularyref10_ValueErr.calls a0_0 a0_1 a0_2 a0_3 t192 _ A3.out).mono ?_); rintro e w30 ⟨rfl, hb⟩; refine ⟨_, rfl, ?_⟩; replace BK190 := bkb BK190 hb; replace BK191 := bkb BK191 hb; replace HB := bls HB hb; clear hb; have hcz31_0 : w30.cell? ⟨gb191, 0, none⟩ = some (.int .i64 a1_0) := (blk_cell BK191.out 0).trans rfl; have hcz31_1 : w30.cell? ⟨gb191, 1, none⟩ = some (.int .u64 a1_1) := (blk_cell BK191.out 1).trans rfl; have hcz31_2 : w30.cell? ⟨gb191, 2, none⟩ = some (.int .u64 a1_2) := (blk_cell BK191.out 2).trans rfl; have hcz31_3 : w30.cell? ⟨gb191, 3, none⟩ = some (.string a1_3) := (blk_cell BK191.out 3).trans rfl; have hfz31_0 := blk_frozen BK191.out 0; have hfz31_1 := blk_frozen BK191.out 1; have hfz31_2 := blk_frozen BK191.out 2; have hfz31_3 := blk_frozen BK191.out 3) | ((with_reducible refine gate_callee (f := 29) rfl ?_); refine gL 13 Tryz.func29 #[.agg #[.int .i64 a1_0, .int .u64 a1_1, .int .u64 a1_2, .string a1_3]] ?_; (with_reducible refine (formularyref10_ValueErr.calls a1_0 a1_1 a1_2 a1_3 t193 _ A5.out).mono ?_); rintro e w32 ⟨rfl, hb⟩; refine ⟨_, rfl, ?_⟩; replace BK190 := bkb BK190 hb; replace BK191 := bkb BK191 hb; replace HB := bls HB hb; clear hb))
   go_ret
   exact ⟨by first | rfl | (simp [errW_none, errW_some] <;> rfl) | (simp [*, errW_none, errW_some] <;> rfl), (blt HB).out⟩
 ·rw [if_neg c4] at H
  have c4b0 : (t192 == 0) = false := beq_eq_false_iff_ne.mpr c4
  have c4b1 : (t192 != 0) = true := bne_iff_ne.mpr c4
  obtain rfl := Option.some.inj H
  go_enter Tryz.func13, Tryz.ntmps13
  go_wp2_with (first | ((with_reducible refine gate_dst (N := 2) rfl ?_); refine bxe 2 (cs := #[.int .i64 a0_0, .int .u64 a0_1, .int .u64 a0_2, .string a0_3]) (t := 24) ?_; intro gb190 hg w33 hbox hb; have BK190 := Aside0.mk hbox; have GW190 := bsz HB hg; have GE190 := bsz HB hg; replace HB := bls HB hb; clear hb hbox hg) | ((with_reducible refine gate_dst (N := 3) rfl ?_); refine bxe 3 (cs := #[.int .i64 a1_0, .int .u64 a1_1, .int .u64 a1_2, .string a1_3]) (t := 24) ?_; intro gb191 hg w34 hbox hb; have BK191 := Aside0.mk hbox; have GW191 := bsz HB hg; have GE191 := bsz HB hg; have NB190_191 := bnl BK190 hg; have NB191_190 := bng BK190 hg; replace BK190 := bkb BK190 hb; replace HB := bls HB hb; clear hb hbox hg; have hnb35 := NB190_191.out; have hnc35 := NB191_190.out; have hcz36_0 : w34.cell? ⟨gb190, 0, none⟩ = some (.int .i64 a0_0) := (blk_cell BK190.out 0).trans rfl; have hcz36_1 : w34.cell? ⟨gb190, 1, none⟩ = some (.int .u64 a0_1) := (blk_cell BK190.out 1).trans rfl; have hcz36_2 : w34.cell? ⟨gb190, 2, none⟩ = some (.int .u64 a0_2) := (blk_cell BK190.out 2).trans rfl; have hcz36_3 : w34.cell? ⟨gb190, 3, none⟩ = some (.string a0_3) := (blk_cell BK190.out 3).trans rfl; have hfz36_0 := blk_frozen BK190.out 0; have hfz36_1 := blk_frozen BK190.out 1; have hfz36_2 := blk_frozen BK190.out 2; have hfz36_3 := blk_frozen BK190.out 3) | ((with_reducible refine gate_callee (f := 29) rfl ?_); refine gL 8 Tryz.func29 #[.agg #[.int .i64 a0_0, .int .u64 a0_1, .int .u64 a0_2, .string a0_3]] ?_; (with_reducible refine (formularyref10_ValueErr.calls a0_0 a0_1 a0_2 a0_3 t192 _ A3.out).mono ?_); rintro e w37 ⟨rfl, hb⟩; refine ⟨_, rfl, ?_⟩; replace BK190 := bkb BK190 hb; replace BK191 := bkb BK191 hb; replace HB := bls HB hb; clear hb))
  go_ret
  exact ⟨by first | rfl | (simp [errW_none, errW_some] <;> rfl) | (simp [*, errW_none, errW_some] <;> rfl), (blt HB).out⟩
def formularylaw10_brief.f (a0_0 : Int) (a0_1 : Int) (a0_2 : Int) (a0_3 : ByteArray) : Option (Bool) := some (decide ((a0_3.size : Int) ≤ 60))
set_option maxHeartbeats 8000000 in
set_option maxRecDepth 100000 in
theorem formularylaw10_brief.calls (a0_0 : Int) (a0_1 : Int) (a0_2 : Int) (a0_3 : ByteArray) (r : Bool) (w : World) (h : formularylaw10_brief.f a0_0 a0_1 a0_2 a0_3 = some r) :
  Calls Tryz.prog 11 #[.agg #[.int .i64 a0_0, .int .u64 a0_1, .int .u64 a0_2, .string a0_3]] w fun e w' => e = .returned (.bool r) ∧ Below w.heap.size w w' := by
 have hu24 := Tryz.underlying24
 have HB := Aside0.mk (Below.refl w.heap.size w)
 have H : (some (decide ((a0_3.size : Int) ≤ 60))) = some r := h
 clear h
 obtain rfl := Option.some.inj H
 go_enter Tryz.func11, Tryz.ntmps11
 go_wp2_with (first | ((with_reducible refine gate_dst (N := 1) rfl ?_); refine bxe 1 (cs := #[.int .i64 a0_0, .int .u64 a0_1, .int .u64 a0_2, .string a0_3]) (t := 24) ?_; intro gb194 hg w2 hbox hb; have BK194 := Aside0.mk hbox; have GW194 := bsz HB hg; have GE194 := bsz HB hg; replace HB := bls HB hb; clear hb hbox hg; have hcz3_0 : w2.cell? ⟨gb194, 0, none⟩ = some (.int .i64 a0_0) := (blk_cell BK194.out 0).trans rfl; have hcz3_1 : w2.cell? ⟨gb194, 1, none⟩ = some (.int .u64 a0_1) := (blk_cell BK194.out 1).trans rfl; have hcz3_2 : w2.cell? ⟨gb194, 2, none⟩ = some (.int .u64 a0_2) := (blk_cell BK194.out 2).trans rfl; have hcz3_3 : w2.cell? ⟨gb194, 3, none⟩ = some (.string a0_3) := (blk_cell BK194.out 3).trans rfl; have hfz3_0 := blk_frozen BK194.out 0; have hfz3_1 := blk_frozen BK194.out 1; have hfz3_2 := blk_frozen BK194.out 2; have hfz3_3 := blk_frozen BK194.out 3))
 go_ret
 exact ⟨by first | rfl | (simp [errW_none, errW_some] <;> rfl) | (simp [*, errW_none, errW_some] <;> rfl), (blt HB).out⟩
end Go.Proofs.YtmoimcblmmcffaaGreat.PRA
