/- Contracts and plain laws that the law ComplexesValues leans on (texts joined by program; what it does not come to is left out). -/
import Derived.Test.YtmoimcblmmcffaaGreatQComplexesValuesA
import Derived.Test.YtmoimcblmmcffaaGreatQComplexesValuesF

namespace Go.Proofs.YtmoimcblmmcffaaGreat.PPC
open Go.RowKit Go.Proofs.YtmoimcblmmcffaaGreatW.PrintWords Go.Proofs.YtmoimcblmmcffaaGreatW.PrintLast Go.Proofs.YtmoimcblmmcffaaGreatW.PrintMore Go.Proofs.YtmoimcblmmcffaaGreatW.PrintZ
attribute [local go_sem] max2_int min2_int max_two min_two max_three min_three max_four min_four   -- for this text's walks alone
set_option linter.unusedVariables false
set_option linter.unusedSimpArgs false
def fd_times.f (a0 : Int) (a1_0 : Int) (a1_1 : Int) (a2_0 : Int) (a2_1 : Int) : Option (Int × Int) := (fd_mul.f a0 a1_0 a2_0).bind fun t119 => ((fd_mul.f a0 a1_1 a2_1).bind fun t120 => ((fd_sub.f a0 t119 t120).bind fun t121 => ((fd_mul.f a0 a1_0 a2_1).bind fun t122 => ((fd_mul.f a0 a1_1 a2_0).bind fun t123 => ((fd_add.f a0 t122 t123).bind fun t124 => (some (t121, t124)))))))
def fd_times.T1 : Bool × List (List Nat × List Nat) := (true, [([], []), ([], []), ([], []), ([2], [2]), ([], []), ([4], [4]), ([1, 3, 5], [1, 3, 5]), ([], []), ([], []), ([8], [8]), ([], []), ([10], [10]), ([7, 9, 11, 6], [7, 9, 11]), ([0, 6, 12, 12], [0, 6, 12]), ([], []), ([], []), ([], []), ([16], [16]), ([], []), ([18], [18]), ([15, 17, 19, 13], [15, 17, 19]), ([], []), ([], []), ([22], [22]), ([], []), ([24], [24]), ([21, 23, 25, 20], [21, 23, 25]), ([14, 20, 26, 26], [14, 20, 26]), ([13, 27], [13, 27]), ([28, 27, 0, 1, 2, 3, 4, 5, 6, 7, 8, 9, 10, 11, 12, 13, 14, 15, 16, 17, 18, 19, 20, 21, 22, 23, 24, 25, 26, 27, 28], [28])])
def fd_times.B1 : List Nat := [0, 0, 0, 4, 0, 16, 62, 0, 0, 256, 0, 1024, 4094, 8191, 0, 0, 0, 65536, 0, 262144, 1032191, 0, 0, 4194304, 0, 16777216, 67092479, 134217727, 268435455, 536870911]
theorem fd_times.tab1 : rtab .any (opsOf Tryz.f55 1) = fd_times.T1 := by kernel_rfl
theorem fd_times.bits1 : waitsOk fd_times.T1.2 fd_times.B1 = true := by kernel_rfl
set_option maxHeartbeats 8000000 in
set_option maxRecDepth 100000 in
theorem fd_times.calls (a0 : Int) (a1_0 : Int) (a1_1 : Int) (a2_0 : Int) (a2_1 : Int) (r1 : Int) (r2 : Int) (w : World) (h : fd_times.f a0 a1_0 a1_1 a2_0 a2_1 = some (r1, r2)) :
  Calls Tryz.prog 55 #[.int .i64 a0, .agg #[.int .u64 a1_0, .int .u64 a1_1], .agg #[.int .u64 a2_0, .int .u64 a2_1]] w fun e w' => e = .returned (.agg #[.int .u64 r1, .int .u64 r2]) ∧ Below w.heap.size w w' := by
 have hu74 := Tryz.underlying74
 have HB := Aside0.mk (Below.refl w.heap.size w)
 have H : ((fd_mul.f a0 a1_0 a2_0).bind fun t119 => ((fd_mul.f a0 a1_1 a2_1).bind fun t120 => ((fd_sub.f a0 t119 t120).bind fun t121 => ((fd_mul.f a0 a1_0 a2_1).bind fun t122 => ((fd_mul.f a0 a1_1 a2_0).bind fun t123 => ((fd_add.f a0 t122 t123).bind fun t124 => (some (t121, t124)))))))) = some (r1, r2) := h
 clear h
 replace H := Option.bind_eq_some_iff.mp H
 obtain ⟨t119, A4, H⟩ := H
 try dsimp only at H
 replace A4 := Aside0.mk A4
 replace H := Option.bind_eq_some_iff.mp H
 obtain ⟨t120, A5, H⟩ := H
 try dsimp only at H
 replace A5 := Aside0.mk A5
 replace H := Option.bind_eq_some_iff.mp H
 obtain ⟨t121, A6, H⟩ := H
 try dsimp only at H
 replace A6 := Aside0.mk A6
 replace H := Option.bind_eq_some_iff.mp H
 obtain ⟨t122, A7, H⟩ := H
 try dsimp only at H
 replace A7 := Aside0.mk A7
 replace H := Option.bind_eq_some_iff.mp H
 obtain ⟨t123, A8, H⟩ := H
 try dsimp only at H
 replace A8 := Aside0.mk A8
 replace H := Option.bind_eq_some_iff.mp H
 obtain ⟨t124, A9, H⟩ := H
 try dsimp only at H
 replace A9 := Aside0.mk A9
 simp only [Option.some.injEq, Prod.mk.injEq] at H
 obtain ⟨rfl, rfl⟩ := H
 go_enter Tryz.func55, Tryz.ntmps55
 try go_wp2_with (first | ((with_reducible refine gate_dst (N := 4) rfl ?_); refine bxe 4 (cs := #[.int .u64 a1_0, .int .u64 a1_1]) (t := 74) ?_; intro gb116 hg w10 hbox hb; have BK116 := Aside0.mk hbox; have GW116 := bsz HB hg; have GE116 := bsz HB hg; replace HB := bls HB hb; clear hb hbox hg) | ((with_reducible refine gate_dst (N := 5) rfl ?_); refine bxe 5 (cs := #[.int .u64 a2_0, .int .u64 a2_1]) (t := 74) ?_; intro gb117 hg w11 hbox hb; have BK117 := Aside0.mk hbox; have GW117 := bsz HB hg; have GE117 := bsz HB hg; have NB116_117 := bnl BK116 hg; have NB117_116 := bng BK116 hg; replace BK116 := bkb BK116 hb; replace HB := bls HB hb; clear hb hbox hg) | ((with_reducible refine gate_dst (N := 6) rfl ?_); refine bxe 6 (cs := #[.int .u64 0, .int .u64 0]) (t := 74) ?_; intro gb118 hg w12 hbox hb; have BK118 := Aside0.mk hbox; have GW118 := bsz HB hg; have GE118 := bsz HB hg; have NB116_118 := bnl BK116 hg; have NB118_116 := bng BK116 hg; have NB117_118 := bnl BK117 hg; have NB118_117 := bng BK117 hg; replace BK116 := bkb BK116 hb; replace BK117 := bkb BK117 hb; replace HB := bls HB hb; clear hb hbox hg))
 replace BK116 := Aside0.mk (blk_drew BK116.out)
 replace BK117 := Aside0.mk (blk_drew BK117.out)
 replace BK118 := Aside0.mk (blk_drew BK118.out)
 replace HB := Aside0.mk (below_drew1 HB.out)
 refine start_ (n := 30) (S := fun w' => w'.cell? ⟨gb116, 0, none⟩ = some (.int .u64 a1_0) ∧ w'.cell? ⟨gb116, 1, none⟩ = some (.int .u64 a1_1) ∧ w'.cell? ⟨gb117, 0, none⟩ = some (.int .u64 a2_0) ∧ w'.cell? ⟨gb117, 1, none⟩ = some (.int .u64 a2_1)) (ds := []) #[false, false, false, false, false, false, false, false, false, false, false, false, false, false, false, false, false, false, false, false, false, false, false, false, false, false, false, false, false, false] (by kernel_rfl) rfl rfl ⟨(blk_cell BK116.out 0).trans rfl, (blk_cell BK116.out 1).trans rfl, (blk_cell BK117.out 0).trans rfl, (blk_cell BK117.out 1).trans rfl⟩ (fun hHeld => ?_); refine with_tabW fd_times.tab1 fd_times.bits1 (fun HT_ HW_ => ?_)
 generalize w12.drew = w13 at BK116 BK117 BK118 HB hHeld ⊢
 refine pu 0 7 HT_ ?_
 refine pu 1 8 HT_ ?_
 refine pu 2 9 HT_ ?_
 refine pu 4 11 HT_ ?_
 refine pu 7 14 HT_ ?_
 refine pu 8 15 HT_ ?_
 refine pu 10 17 HT_ ?_
 refine pu 14 21 HT_ ?_
 refine pu 15 22 HT_ ?_
 refine pu 16 23 HT_ ?_
 refine pu 18 25 HT_ ?_
 refine pu 21 28 HT_ ?_
 refine pu 22 29 HT_ ?_
 refine pu 24 31 HT_ ?_
 refine tk 3 10 HT_ HW_ hHeld ?_
 refine tk 5 12 HT_ HW_ hHeld ?_
 refine tk 9 16 HT_ HW_ hHeld ?_
 refine tk 11 18 HT_ HW_ hHeld ?_
 refine tk 17 24 HT_ HW_ hHeld ?_
 refine tk 19 26 HT_ HW_ hHeld ?_
 refine tk 23 30 HT_ HW_ hHeld ?_
 refine tk 25 32 HT_ HW_ hHeld ?_
 refine one_ (i := 6) (N := some 13) #[true, true, true, true, true, true, true, true, true, true, true, true, false, false, true, true, true, true, true, true, false, true, true, true, true, true, false, false, false, false] rfl rfl (one_of HT_.out (by kernel_rfl)) (by decide) (fun K hK => ?_)
 refine goes_ Tryz.func99 (by kernel_rfl) rfl #[.int .i64 a0, .int .u64 a1_0, .int .u64 a2_0] (by rfl) rfl rfl (by (try simp only [List.map_toArray, List.map_cons, List.map_nil]); first | done | rfl | (simp only [List.length_drop, List.length_take]; rfl)) ?_
 with_reducible refine (fd_mul.calls a0 a1_0 a2_0 t119 _ A4.out).mono ?_
 rintro e w14 ⟨rfl, hb⟩
 refine ⟨_, rfl, ?_⟩
 replace BK116 := bkb BK116 hb
 replace BK117 := bkb BK117 hb
 replace BK118 := bkb BK118 hb
 replace HB := bls HB hb
 (try clear hb)
 (try clear hb2)
 (try clear hk)
 (try clear hi)
 refine hK.out _ _ ⟨(blk_cell BK116.out 0).trans rfl, (blk_cell BK116.out 1).trans rfl, (blk_cell BK117.out 0).trans rfl, (blk_cell BK117.out 1).trans rfl⟩ (fun hHeld => ?_)
 clear hK K
 refine norm_ (a' := ?_) ?_ ?_
 rotate_left
 ·show Act.put _ (some 13) _ = _
  simp only [Act.put, List.setIfInBounds_toArray, List.set_cons_zero, List.set_cons_succ, i64_w, i32_w]
  rfl
 refine one_ (i := 12) (N := some 19) #[true, true, true, true, true, true, true, true, true, true, true, true, true, false, true, true, true, true, true, true, false, true, true, true, true, true, false, false, false, false] rfl rfl (one_of HT_.out (by kernel_rfl)) (by decide) (fun K hK => ?_)
 refine goes_ Tryz.func99 (by kernel_rfl) rfl #[.int .i64 a0, .int .u64 a1_1, .int .u64 a2_1] (by rfl) rfl rfl (by (try simp only [List.map_toArray, List.map_cons, List.map_nil]); first | done | rfl | (simp only [List.length_drop, List.length_take]; rfl)) ?_
 with_reducible refine (fd_mul.calls a0 a1_1 a2_1 t120 _ A5.out).mono ?_
 rintro e w15 ⟨rfl, hb⟩
 refine ⟨_, rfl, ?_⟩
 replace BK116 := bkb BK116 hb
 replace BK117 := bkb BK117 hb
 replace BK118 := bkb BK118 hb
 replace HB := bls HB hb
 (try clear hb)
 (try clear hb2)
 (try clear hk)
 (try clear hi)
 refine hK.out _ _ ⟨(blk_cell BK116.out 0).trans rfl, (blk_cell BK116.out 1).trans rfl, (blk_cell BK117.out 0).trans rfl, (blk_cell BK117.out 1).trans rfl⟩ (fun hHeld => ?_)
 clear hK K
 refine norm_ (a' := ?_) ?_ ?_
 rotate_left
 ·show Act.put _ (some 19) _ = _
  simp only [Act.put, List.setIfInBounds_toArray, List.set_cons_zero, List.set_cons_succ, i64_w, i32_w]
  rfl
 refine one_ (i := 13) (N := some 20) #[true, true, true, true, true, true, true, true, true, true, true, true, true, true, true, true, true, true, true, true, false, true, true, true, true, true, false, false, false, false] rfl rfl (one_of HT_.out (by kernel_rfl)) (by decide) (fun K hK => ?_)
 refine goes_ Tryz.func98 (by kernel_rfl) rfl #[.int .i64 a0, .int .u64 t119, .int .u64 t120] (by rfl) rfl rfl (by (try simp only [List.map_toArray, List.map_cons, List.map_nil]); first | done | rfl | (simp only [List.length_drop, List.length_take]; rfl)) ?_
 with_reducible refine (fd_sub.calls a0 t119 t120 t121 _ A6.out).mono ?_
 rintro e w16 ⟨rfl, hb⟩
 refine ⟨_, rfl, ?_⟩
 replace BK116 := bkb BK116 hb
 replace BK117 := bkb BK117 hb
 replace BK118 := bkb BK118 hb
 replace HB := bls HB hb
 (try clear hb)
 (try clear hb2)
 (try clear hk)
 (try clear hi)
 refine hK.out _ _ ⟨(blk_cell BK116.out 0).trans rfl, (blk_cell BK116.out 1).trans rfl, (blk_cell BK117.out 0).trans rfl, (blk_cell BK117.out 1).trans rfl⟩ (fun hHeld => ?_)
 clear hK K
 refine norm_ (a' := ?_) ?_ ?_
 rotate_left
 ·show Act.put _ (some 20) _ = _
  simp only [Act.put, List.setIfInBounds_toArray, List.set_cons_zero, List.set_cons_succ, i64_w, i32_w]
  rfl
 refine one_ (i := 20) (N := some 27) #[true, true, true, true, true, true, true, true, true, true, true, true, true, true, true, true, true, true, true, true, true, true, true, true, true, true, false, false, false, false] rfl rfl (one_of HT_.out (by kernel_rfl)) (by decide) (fun K hK => ?_)
 refine goes_ Tryz.func99 (by kernel_rfl) rfl #[.int .i64 a0, .int .u64 a1_0, .int .u64 a2_1] (by rfl) rfl rfl (by (try simp only [List.map_toArray, List.map_cons, List.map_nil]); first | done | rfl | (simp only [List.length_drop, List.length_take]; rfl)) ?_
 with_reducible refine (fd_mul.calls a0 a1_0 a2_1 t122 _ A7.out).mono ?_
 rintro e w17 ⟨rfl, hb⟩
 refine ⟨_, rfl, ?_⟩
 replace BK116 := bkb BK116 hb
 replace BK117 := bkb BK117 hb
 replace BK118 := bkb BK118 hb
 replace HB := bls HB hb
 (try clear hb)
 (try clear hb2)
 (try clear hk)
 (try clear hi)
 refine hK.out _ _ ⟨(blk_cell BK116.out 0).trans rfl, (blk_cell BK116.out 1).trans rfl, (blk_cell BK117.out 0).trans rfl, (blk_cell BK117.out 1).trans rfl⟩ (fun hHeld => ?_)
 clear hK K
 refine norm_ (a' := ?_) ?_ ?_
 rotate_left
 ·show Act.put _ (some 27) _ = _
  simp only [Act.put, List.setIfInBounds_toArray, List.set_cons_zero, List.set_cons_succ, i64_w, i32_w]
  rfl
 refine one_ (i := 26) (N := some 33) #[true, true, true, true, true, true, true, true, true, true, true, true, true, true, true, true, true, true, true, true, true, true, true, true, true, true, true, false, false, false] rfl rfl (one_of HT_.out (by kernel_rfl)) (by decide) (fun K hK => ?_)
 refine goes_ Tryz.func99 (by kernel_rfl) rfl #[.int .i64 a0, .int .u64 a1_1, .int .u64 a2_0] (by rfl) rfl rfl (by (try simp only [List.map_toArray, List.map_cons, List.map_nil]); first | done | rfl | (simp only [List.length_drop, List.length_take]; rfl)) ?_
 with_reducible refine (fd_mul.calls a0 a1_1 a2_0 t123 _ A8.out).mono ?_
 rintro e w18 ⟨rfl, hb⟩
 refine ⟨_, rfl, ?_⟩
 replace BK116 := bkb BK116 hb
 replace BK117 := bkb BK117 hb
 replace BK118 := bkb BK118 hb
 replace HB := bls HB hb
 (try clear hb)
 (try clear hb2)
 (try clear hk)
 (try clear hi)
 refine hK.out _ _ ⟨(blk_cell BK116.out 0).trans rfl, (blk_cell BK116.out 1).trans rfl, (blk_cell BK117.out 0).trans rfl, (blk_cell BK117.out 1).trans rfl⟩ (fun hHeld => ?_)
 clear hK K
 refine norm_ (a' := ?_) ?_ ?_
 rotate_left
 ·show Act.put _ (some 33) _ = _
  simp only [Act.put, List.setIfInBounds_toArray, List.set_cons_zero, List.set_cons_succ, i64_w, i32_w]
  rfl
 refine one_ (i := 27) (N := some 34) #[true, true, true, true, true, true, true, true, true, true, true, true, true, true, true, true, true, true, true, true, true, true, true, true, true, true, true, true, false, false] rfl rfl (one_of HT_.out (by kernel_rfl)) (by decide) (fun K hK => ?_)
 refine goes_ Tryz.func97 (by kernel_rfl) rfl #[.int .i64 a0, .int .u64 t122, .int .u64 t123] (by rfl) rfl rfl (by (try simp only [List.map_toArray, List.map_cons, List.map_nil]); first | done | rfl | (simp only [List.length_drop, List.length_take]; rfl)) ?_
 with_reducible refine (fd_add.calls a0 t122 t123 t124 _ A9.out).mono ?_
 rintro e w19 ⟨rfl, hb⟩
 refine ⟨_, rfl, ?_⟩
 replace BK116 := bkb BK116 hb
 replace BK117 := bkb BK117 hb
 replace BK118 := bkb BK118 hb
 replace HB := bls HB hb
 (try clear hb)
 (try clear hb2)
 (try clear hk)
 (try clear hi)
 refine hK.out _ _ ⟨(blk_cell BK116.out 0).trans rfl, (blk_cell BK116.out 1).trans rfl, (blk_cell BK117.out 0).trans rfl, (blk_cell BK117.out 1).trans rfl⟩ (fun hHeld => ?_)
 clear hK K
 refine norm_ (a' := ?_) ?_ ?_
 rotate_left
 ·show Act.put _ (some 34) _ = _
  simp only [Act.put, List.setIfInBounds_toArray, List.set_cons_zero, List.set_cons_succ, i64_w, i32_w]
  rfl
 refine pu 28 35 HT_ ?_
 refine one_ (i := 29) (N := none) #[true, true, true, true, true, true, true, true, true, true, true, true, true, true, true, true, true, true, true, true, true, true, true, true, true, true, true, true, true, true] rfl rfl (one_of HT_.out (by kernel_rfl)) (by decide) (fun K hK => ?_)
 have hs20 : w19.cell? ⟨gb118, 0, none⟩ = some (.int .u64 0) := (blk_cell BK118.out 0).trans rfl
 have hfs20 := blk_frozen BK118.out 0
 have hns20_0 := NB116_118.out
 have hns20_1 := NB117_118.out
 have hms20_0 := NB118_116.out
 have hms20_1 := NB118_117.out
 have hs21 : w19.cell? ⟨gb118, 1, none⟩ = some (.int .u64 0) := (blk_cell BK118.out 1).trans rfl
 have hfs21 := blk_frozen BK118.out 1
 have hns21_0 := NB116_118.out
 have hns21_1 := NB117_118.out
 have hms21_0 := NB118_116.out
 have hms21_1 := NB118_117.out
 refine skip_ (w1 := ?_) (by rfl) rfl ?_ ?_
 rotate_left
 ·go_simp
  rfl
 refine hK.out _ _ ⟨((cell_far (p := ⟨gb118, _, none⟩) NB116_118.out _).trans (((cell_far (p := ⟨gb118, _, none⟩) NB116_118.out _).trans (hHeld.1)))), ((cell_far (p := ⟨gb118, _, none⟩) NB116_118.out _).trans (((cell_far (p := ⟨gb118, _, none⟩) NB116_118.out _).trans (hHeld.2.1)))), ((cell_far (p := ⟨gb118, _, none⟩) NB117_118.out _).trans (((cell_far (p := ⟨gb118, _, none⟩) NB117_118.out _).trans (hHeld.2.2.1)))), ((cell_far (p := ⟨gb118, _, none⟩) NB117_118.out _).trans (((cell_far (p := ⟨gb118, _, none⟩) NB117_118.out _).trans (hHeld.2.2.2))))⟩ (fun hHeld => ?_)
 clear hK K
 refine done_ (done_of HT_.out (by kernel_rfl)) ?_
 try go_wp2
 refine bodyPost_ret (results_cell_row rfl _ _ gb118 74 #[.int .u64 t121, .int .u64 t124] (0, 0) _ rfl (by (with_reducible repeat (first | refine blk_drewN ?_ _ | refine blk_drew ?_ | refine blk_alloc ?_ _)); refine blk_put (cs := #[.int .u64 t121, .int .u64 0]) ?_ 1 _ rfl; (with_reducible repeat (first | refine blk_drewN ?_ _ | refine blk_drew ?_ | refine blk_alloc ?_ _)); refine blk_put (cs := #[.int .u64 0, .int .u64 0]) ?_ 0 _ rfl; (with_reducible repeat (first | refine blk_drewN ?_ _ | refine blk_drew ?_ | refine blk_alloc ?_ _)); exact BK118.out) Tryz.underlying74 rfl (by kernel_rfl)) rfl ?_
 exact ⟨by first | rfl | (simp [errW_none, errW_some] <;> rfl) | (simp [*, errW_none, errW_some] <;> rfl), (blt HB).out⟩
def fd_order.f (a0 : Int) (a1 : Int) (a2 : Int) : Option (Int) := (rl_Compare.f a0 a1 a2).bind fun bt125 => (some bt125.1)
set_option maxHeartbeats 8000000 in
set_option maxRecDepth 100000 in
theorem fd_order.calls (a0 : Int) (a1 : Int) (a2 : Int) (r : Int) (w : World) (h : fd_order.f a0 a1 a2 = some r) :
  Calls Tryz.prog 92 #[.int .i64 a0, .int .u64 a1, .int .u64 a2] w fun e w' => e = .returned (.int .i64 r) ∧ Below w.heap.size w w' := by
 have HB := Aside0.mk (Below.refl w.heap.size w)
 have H : ((rl_Compare.f a0 a1 a2).bind fun bt125 => (some bt125.1)) = some r := h
 clear h
 replace H := Option.bind_eq_some_iff.mp H
 obtain ⟨⟨t125, t126⟩, A4, H⟩ := H
 try dsimp only at H
 replace A4 := Aside0.mk A4
 obtain rfl := Option.some.inj H
 go_enter Tryz.func92, Tryz.ntmps92
 go_wp2_with (first | ((with_reducible refine gate_callee (f := 127) rfl ?_); refine gL 13 Tryz.func127 #[.int .i64 a0, .int .u64 a1, .int .u64 a2] ?_; (with_reducible refine (rl_Compare.calls a0 a1 a2 t125 t126 _ A4.out).mono ?_); rintro e w5 ⟨rfl, hb⟩; refine ⟨_, rfl, ?_⟩; replace HB := bls HB hb; clear hb))
 go_ret
 exact ⟨by first | rfl | (simp [errW_none, errW_some] <;> rfl) | (simp [*, errW_none, errW_some] <;> rfl), (blt HB).out⟩
def fd_size.f (a0 : Int) (a1 : Int) : Option (Int) := (rl_SizeOf.f a0 a1).bind fun bt127 => (some bt127.1)
set_option maxHeartbeats 8000000 in
set_option maxRecDepth 100000 in
theorem fd_size.calls (a0 : Int) (a1 : Int) (r : Int) (w : World) (h : fd_size.f a0 a1 = some r) :
  Calls Tryz.prog 100 #[.int .i64 a0, .int .u64 a1] w fun e w' => e = .returned (.int .u64 r) ∧ Below w.heap.size w w' := by
 have HB := Aside0.mk (Below.refl w.heap.size w)
 have H : ((rl_SizeOf.f a0 a1).bind fun bt127 => (some bt127.1)) = some r := h
 clear h
 replace H := Option.bind_eq_some_iff.mp H
 obtain ⟨⟨t127, t128⟩, A3, H⟩ := H
 try dsimp only at H
 replace A3 := Aside0.mk A3
 obtain rfl := Option.some.inj H
 go_enter Tryz.func100, Tryz.ntmps100
 go_wp2_with (first | ((with_reducible refine gate_callee (f := 136) rfl ?_); refine gL 10 Tryz.func136 #[.int .i64 a0, .int .u64 a1] ?_; (with_reducible refine (rl_SizeOf.calls a0 a1 t127 t128 _ A3.out).mono ?_); rintro e w4 ⟨rfl, hb⟩; refine ⟨_, rfl, ?_⟩; replace HB := bls HB hb; clear hb))
 go_ret
 exact ⟨by first | rfl | (simp [errW_none, errW_some] <;> rfl) | (simp [*, errW_none, errW_some] <;> rfl), (blt HB).out⟩
def fd_div.f (a0 : Int) (a1 : Int) (a2 : Int) : Option (Int) := (fd_operation.f a0 3 a1 a2).bind fun t129 => (some t129)
set_option maxHeartbeats 8000000 in
set_option maxRecDepth 100000 in
theorem fd_div.calls (a0 : Int) (a1 : Int) (a2 : Int) (r : Int) (w : World) (h : fd_div.f a0 a1 a2 = some r) :
  Calls Tryz.prog 101 #[.int .i64 a0, .int .u64 a1, .int .u64 a2] w fun e w' => e = .returned (.int .u64 r) ∧ Below w.heap.size w w' := by
 have HB := Aside0.mk (Below.refl w.heap.size w)
 have H : ((fd_operation.f a0 3 a1 a2).bind fun t129 => (some t129)) = some r := h
 clear h
 replace H := Option.bind_eq_some_iff.mp H
 obtain ⟨t129, A4, H⟩ := H
 try dsimp only at H
 replace A4 := Aside0.mk A4
 obtain rfl := Option.some.inj H
 go_enter Tryz.func101, Tryz.ntmps101
 go_wp2_with (first | ((with_reducible refine gate_callee (f := 120) rfl ?_); refine gL 10 Tryz.func120 #[.int .i64 a0, .int .i64 3, .int .u64 a1, .int .u64 a2] ?_; (with_reducible refine (fd_operation.calls a0 3 a1 a2 t129 _ A4.out).mono ?_); rintro e w5 ⟨rfl, hb⟩; refine ⟨_, rfl, ?_⟩; replace HB := bls HB hb; clear hb))
 go_ret
 exact ⟨by first | rfl | (simp [errW_none, errW_some] <;> rfl) | (simp [*, errW_none, errW_some] <;> rfl), (blt HB).out⟩
def fd_over.f (a0 : Int) (a1_0 : Int) (a1_1 : Int) (a2_0 : Int) (a2_1 : Int) : Option (Int × Int) := (fd_size.f a0 a2_0).bind fun t133 => ((fd_size.f a0 a2_1).bind fun t134 => ((fd_order.f a0 t133 t134).bind fun t135 => (if t135 ≥ 0 then ((fd_div.f a0 a2_1 a2_0).bind fun t136 => ((fd_mul.f a0 t136 a2_1).bind fun t137 => ((fd_add.f a0 a2_0 t137).bind fun t138 => ((fd_mul.f a0 a1_1 t136).bind fun t139 => ((fd_add.f a0 a1_0 t139).bind fun t140 => ((fd_div.f a0 t140 t138).bind fun t141 => ((fd_mul.f a0 a1_0 t136).bind fun t142 => ((fd_sub.f a0 a1_1 t142).bind fun t143 => ((fd_div.f a0 t143 t138).bind fun t144 => (some (t141, t144))))))))))) else ((fd_div.f a0 a2_0 a2_1).bind fun t145 => ((fd_mul.f a0 t145 a2_0).bind fun t146 => ((fd_add.f a0 a2_1 t146).bind fun t147 => ((fd_mul.f a0 a1_0 t145).bind fun t148 => ((fd_add.f a0 t148 a1_1).bind fun t149 => ((fd_div.f a0 t149 t147).bind fun t150 => ((fd_mul.f a0 a1_1 t145).bind fun t151 => ((fd_sub.f a0 t151 a1_0).bind fun t152 => ((fd_div.f a0 t152 t147).bind fun t153 => (some (t150, t153))))))))))))))
set_option maxHeartbeats 8000000 in
set_option maxRecDepth 100000 in
theorem fd_over.calls (a0 : Int) (a1_0 : Int) (a1_1 : Int) (a2_0 : Int) (a2_1 : Int) (r1 : Int) (r2 : Int) (w : World) (h : fd_over.f a0 a1_0 a1_1 a2_0 a2_1 = some (r1, r2)) :
  Calls Tryz.prog 56 #[.int .i64 a0, .agg #[.int .u64 a1_0, .int .u64 a1_1], .agg #[.int .u64 a2_0, .int .u64 a2_1]] w fun e w' => e = .returned (.agg #[.int .u64 r1, .int .u64 r2]) ∧ Below w.heap.size w w' := by
 have hu74 := Tryz.underlying74
 have HB := Aside0.mk (Below.refl w.heap.size w)
 have H : ((fd_size.f a0 a2_0).bind fun t133 => ((fd_size.f a0 a2_1).bind fun t134 => ((fd_order.f a0 t133 t134).bind fun t135 => (if t135 ≥ 0 then ((fd_div.f a0 a2_1 a2_0).bind fun t136 => ((fd_mul.f a0 t136 a2_1).bind fun t137 => ((fd_add.f a0 a2_0 t137).bind fun t138 => ((fd_mul.f a0 a1_1 t136).bind fun t139 => ((fd_add.f a0 a1_0 t139).bind fun t140 => ((fd_div.f a0 t140 t138).bind fun t141 => ((fd_mul.f a0 a1_0 t136).bind fun t142 => ((fd_sub.f a0 a1_1 t142).bind fun t143 => ((fd_div.f a0 t143 t138).bind fun t144 => (some (t141, t144))))))))))) else ((fd_div.f a0 a2_0 a2_1).bind fun t145 => ((fd_mul.f a0 t145 a2_0).bind fun t146 => ((fd_add.f a0 a2_1 t146).bind fun t147 => ((fd_mul.f a0 a1_0 t145).bind fun t148 => ((fd_add.f a0 t148 a1_1).bind fun t149 => ((fd_div.f a0 t149 t147).bind fun t150 => ((fd_mul.f a0 a1_1 t145).bind fun t151 => ((fd_sub.f a0 t151 a1_0).bind fun t152 => ((fd_div.f a0 t152 t147).bind fun t153 => (some (t150, t153))))))))))))))) = some (r1, r2) := h
 clear h
 replace H := Option.bind_eq_some_iff.mp H
 obtain ⟨t133, A4, H⟩ := H
 try dsimp only at H
 replace A4 := Aside0.mk A4
 replace H := Option.bind_eq_some_iff.mp H
 obtain ⟨t134, A5, H⟩ := H
 try dsimp only at H
 replace A5 := Aside0.mk A5
 replace H := Option.bind_eq_some_iff.mp H
 obtain ⟨t135, A6, H⟩ := H
 try dsimp only at H
 replace A6 := Aside0.mk A6
 by_cases c7 : t135 ≥ 0
 ·rw [if_pos c7] at H
  have c7b0 : decide (0 ≤ t135) = true := decide_eq_true c7
  clear c7
  replace H := Option.bind_eq_some_iff.mp H
  obtain ⟨t136, A8, H⟩ := H
  try dsimp only at H
  replace A8 := Aside0.mk A8
  replace H := Option.bind_eq_some_iff.mp H
  obtain ⟨t137, A9, H⟩ := H
  try dsimp only at H
  replace A9 := Aside0.mk A9
  replace H := Option.bind_eq_some_iff.mp H
  obtain ⟨t138, A10, H⟩ := H
  try dsimp only at H
  replace A10 := Aside0.mk A10
  replace H := Option.bind_eq_some_iff.mp H
  obtain ⟨t139, A11, H⟩ := H
  try dsimp only at H
  replace A11 := Aside0.mk A11
  replace H := Option.bind_eq_some_iff.mp H
  obtain ⟨t140, A12, H⟩ := H
  try dsimp only at H
  replace A12 := Aside0.mk A12
  replace H := Option.bind_eq_some_iff.mp H
  obtain ⟨t141, A13, H⟩ := H
  try dsimp only at H
  replace A13 := Aside0.mk A13
  replace H := Option.bind_eq_some_iff.mp H
  obtain ⟨t142, A14, H⟩ := H
  try dsimp only at H
  replace A14 := Aside0.mk A14
  replace H := Option.bind_eq_some_iff.mp H
  obtain ⟨t143, A15, H⟩ := H
  try dsimp only at H
  replace A15 := Aside0.mk A15
  replace H := Option.bind_eq_some_iff.mp H
  obtain ⟨t144, A16, H⟩ := H
  try dsimp only at H
  replace A16 := Aside0.mk A16
  simp only [Option.some.injEq, Prod.mk.injEq] at H
  obtain ⟨rfl, rfl⟩ := H
  go_enter Tryz.func56, Tryz.ntmps56
  go_wp2_with (first | ((with_reducible refine gate_dst (N := 4) rfl ?_); refine bxe 4 (cs := #[.int .u64 a1_0, .int .u64 a1_1]) (t := 74) ?_; intro gb130 hg w17 hbox hb; have BK130 := Aside0.mk hbox; have GW130 := bsz HB hg; have GE130 := bsz HB hg; replace HB := bls HB hb; clear hb hbox hg) | ((with_reducible refine gate_dst (N := 5) rfl ?_); refine bxe 5 (cs := #[.int .u64 a2_0, .int .u64 a2_1]) (t := 74) ?_; intro gb131 hg w18 hbox hb; have BK131 := Aside0.mk hbox; have GW131 := bsz HB hg; have GE131 := bsz HB hg; have NB130_131 := bnl BK130 hg; have NB131_130 := bng BK130 hg; replace BK130 := bkb BK130 hb; replace HB := bls HB hb; clear hb hbox hg) | ((with_reducible refine gate_dst (N := 6) rfl ?_); refine bxe 6 (cs := #[.int .u64 0, .int .u64 0]) (t := 74) ?_; intro gb132 hg w19 hbox hb; have BK132 := Aside0.mk hbox; have GW132 := bsz HB hg; have GE132 := bsz HB hg; have NB130_132 := bnl BK130 hg; have NB132_130 := bng BK130 hg; have NB131_132 := bnl BK131 hg; have NB132_131 := bng BK131 hg; replace BK130 := bkb BK130 hb; replace BK131 := bkb BK131 hb; replace HB := bls HB hb; clear hb hbox hg; have hnb20 := NB130_131.out; have hnc20 := NB131_130.out; have hnb21 := NB130_132.out; have hnc21 := NB132_130.out; obtain ⟨hcz22_0, hcz22_1, hfz22_0, hfz22_1⟩ := cf2 BK130; have hnb23 := NB131_132.out; have hnc23 := NB132_131.out; have hcz24_0 : w19.cell? ⟨gb131, 0, none⟩ = some (.int .u64 a2_0) := (blk_cell BK131.out 0).trans rfl; have hcz24_1 : w19.cell? ⟨gb131, 1, none⟩ = some (.int .u64 a2_1) := (blk_cell BK131.out 1).trans rfl; have hfz24_0 := blk_frozen BK131.out 0; have hfz24_1 := blk_frozen BK131.out 1) | (go_at_call 100; (with_reducible refine (fd_size.calls a0 a2_0 t133 _ A4.out).mono ?_); rintro e w25 ⟨rfl, hb⟩; replace BK130 := bkb BK130 hb; replace BK131 := bkb BK131 hb; replace BK132 := bkb BK132 hb; replace HB := bls HB hb; clear hb) | (go_at_call 100; (with_reducible refine (fd_size.calls a0 a2_1 t134 _ A5.out).mono ?_); rintro e w26 ⟨rfl, hb⟩; replace BK130 := bkb BK130 hb; replace BK131 := bkb BK131 hb; replace BK132 := bkb BK132 hb; replace HB := bls HB hb; clear hb) | (go_at_call 92; (with_reducible refine (fd_order.calls a0 t133 t134 t135 _ A6.out).mono ?_); rintro e w27 ⟨rfl, hb⟩; replace BK130 := bkb BK130 hb; replace BK131 := bkb BK131 hb; replace BK132 := bkb BK132 hb; replace HB := bls HB hb; clear hb) | (go_at_call 101; (with_reducible refine (fd_div.calls a0 a2_1 a2_0 t136 _ A8.out).mono ?_); rintro e w28 ⟨rfl, hb⟩; replace BK130 := bkb BK130 hb; replace BK131 := bkb BK131 hb; replace BK132 := bkb BK132 hb; replace HB := bls HB hb; clear hb) | (go_at_call 99; (with_reducible refine (fd_mul.calls a0 t136 a2_1 t137 _ A9.out).mono ?_); rintro e w29 ⟨rfl, hb⟩; replace BK130 := bkb BK130 hb; replace BK131 := bkb BK131 hb; replace BK132 := bkb BK132 hb; replace HB := bls HB hb; clear hb) | (go_at_call 97; (with_reducible refine (fd_add.calls a0 a2_0 t137 t138 _ A10.out).mono ?_); rintro e w30 ⟨rfl, hb⟩; replace BK130 := bkb BK130 hb; replace BK131 := bkb BK131 hb; replace BK132 := bkb BK132 hb; replace HB := bls HB hb; clear hb) | (go_at_call 99; (with_reducible refine (fd_mul.calls a0 a1_1 t136 t139 _ A11.out).mono ?_); rintro e w31 ⟨rfl, hb⟩; replace BK130 := bkb BK130 hb; replace BK131 := bkb BK131 hb; replace BK132 := bkb BK132 hb; replace HB := bls HB hb; clear hb) | (go_at_call 97; (with_reducible refine (fd_add.calls a0 a1_0 t139 t140 _ A12.out).mono ?_); rintro e w32 ⟨rfl, hb⟩; replace BK130 := bkb BK130 hb; replace BK131 := bkb BK131 hb; replace BK132 := bkb BK132 hb; replace HB := bls HB hb; clear hb) | (go_at_call 101; (with_reducible refine (fd_div.calls a0 t140 t138 t141 _ A13.out).mono ?_); rintro e w33 ⟨rfl, hb⟩; replace BK130 := bkb BK130 hb; replace BK131 := bkb BK131 hb; replace BK132 := bkb BK132 hb; replace HB := bls HB hb; clear hb) | (go_at_call 99; (with_reducible refine (fd_mul.calls a0 a1_0 t136 t142 _ A14.out).mono ?_); rintro e w34 ⟨rfl, hb⟩; replace BK130 := bkb BK130 hb; replace BK131 := bkb BK131 hb; replace BK132 := bkb BK132 hb; replace HB := bls HB hb; clear hb) | (go_at_call 98; (with_reducible refine (fd_sub.calls a0 a1_1 t142 t143 _ A15.out).mono ?_); rintro e w35 ⟨rfl, hb⟩; replace BK130 := bkb BK130 hb; replace BK131 := bkb BK131 hb; replace BK132 := bkb BK132 hb; replace HB := bls HB hb; clear hb) | (go_at_call 101; (with_reducible refine (fd_div.calls a0 t143 t138 t144 _ A16.out).mono ?_); rintro e w36 ⟨rfl, hb⟩; replace BK130 := bkb BK130 hb; replace BK131 := bkb BK131 hb; replace BK132 := bkb BK132 hb; replace HB := bls HB hb; clear hb; have hcz37_0 : w36.cell? ⟨gb132, 0, none⟩ = some (.int .u64 0) := (blk_cell BK132.out 0).trans rfl; have hcz37_1 : w36.cell? ⟨gb132, 1, none⟩ = some (.int .u64 0) := (blk_cell BK132.out 1).trans rfl; have hfz37_0 := blk_frozen BK132.out 0; have hfz37_1 := blk_frozen BK132.out 1))
  repeat (go_quiet (first | ((with_reducible refine gate_dst (N := 4) rfl ?_); refine bxe 4 (cs := #[.int .u64 a1_0, .int .u64 a1_1]) (t := 74) ?_; intro gb130 hg w17 hbox hb; have BK130 := Aside0.mk hbox; have GW130 := bsz HB hg; have GE130 := bsz HB hg; replace HB := bls HB hb; clear hb hbox hg) | ((with_reducible refine gate_dst (N := 5) rfl ?_); refine bxe 5 (cs := #[.int .u64 a2_0, .int .u64 a2_1]) (t := 74) ?_; intro gb131 hg w18 hbox hb; have BK131 := Aside0.mk hbox; have GW131 := bsz HB hg; have GE131 := bsz HB hg; have NB130_131 := bnl BK130 hg; have NB131_130 := bng BK130 hg; replace BK130 := bkb BK130 hb; replace HB := bls HB hb; clear hb hbox hg) | ((with_reducible refine gate_dst (N := 6) rfl ?_); refine bxe 6 (cs := #[.int .u64 0, .int .u64 0]) (t := 74) ?_; intro gb132 hg w19 hbox hb; have BK132 := Aside0.mk hbox; have GW132 := bsz HB hg; have GE132 := bsz HB hg; have NB130_132 := bnl BK130 hg; have NB132_130 := bng BK130 hg; have NB131_132 := bnl BK131 hg; have NB132_131 := bng BK131 hg; replace BK130 := bkb BK130 hb; replace BK131 := bkb BK131 hb; replace HB := bls HB hb; clear hb hbox hg; have hnb20 := NB130_131.out; have hnc20 := NB131_130.out; have hnb21 := NB130_132.out; have hnc21 := NB132_130.out; obtain ⟨hcz22_0, hcz22_1, hfz22_0, hfz22_1⟩ := cf2 BK130; have hnb23 := NB131_132.out; have hnc23 := NB132_131.out; have hcz24_0 : w19.cell? ⟨gb131, 0, none⟩ = some (.int .u64 a2_0) := (blk_cell BK131.out 0).trans rfl; have hcz24_1 : w19.cell? ⟨gb131, 1, none⟩ = some (.int .u64 a2_1) := (blk_cell BK131.out 1).trans rfl; have hfz24_0 := blk_frozen BK131.out 0; have hfz24_1 := blk_frozen BK131.out 1) | (go_at_call 100; (with_reducible refine (fd_size.calls a0 a2_0 t133 _ A4.out).mono ?_); rintro e w25 ⟨rfl, hb⟩; replace BK130 := bkb BK130 hb; replace BK131 := bkb BK131 hb; replace BK132 := bkb BK132 hb; replace HB := bls HB hb; clear hb) | (go_at_call 100; (with_reducible refine (fd_size.calls a0 a2_1 t134 _ A5.out).mono ?_); rintro e w26 ⟨rfl, hb⟩; replace BK130 := bkb BK130 hb; replace BK131 := bkb BK131 hb; replace BK132 := bkb BK132 hb; replace HB := bls HB hb; clear hb) | (go_at_call 92; (with_reducible refine (fd_order.calls a0 t133 t134 t135 _ A6.out).mono ?_); rintro e w27 ⟨rfl, hb⟩; replace BK130 := bkb BK130 hb; replace BK131 := bkb BK131 hb; replace BK132 := bkb BK132 hb; replace HB := bls HB hb; clear hb) | (go_at_call 101; (with_reducible refine (fd_div.calls a0 a2_1 a2_0 t136 _ A8.out).mono ?_); rintro e w28 ⟨rfl, hb⟩; replace BK130 := bkb BK130 hb; replace BK131 := bkb BK131 hb; replace BK132 := bkb BK132 hb; replace HB := bls HB hb; clear hb) | (go_at_call 99; (with_reducible refine (fd_mul.calls a0 t136 a2_1 t137 _ A9.out).mono ?_); rintro e w29 ⟨rfl, hb⟩; replace BK130 := bkb BK130 hb; replace BK131 := bkb BK131 hb; replace BK132 := bkb BK132 hb; replace HB := bls HB hb; clear hb) | (go_at_call 97; (with_reducible refine (fd_add.calls a0 a2_0 t137 t138 _ A10.out).mono ?_); rintro e w30 ⟨rfl, hb⟩; replace BK130 := bkb BK130 hb; replace BK131 := bkb BK131 hb; replace BK132 := bkb BK132 hb; replace HB := bls HB hb; clear hb) | (go_at_call 99; (with_reducible refine (fd_mul.calls a0 a1_1 t136 t139 _ A11.out).mono ?_); rintro e w31 ⟨rfl, hb⟩; replace BK130 := bkb BK130 hb; replace BK131 := bkb BK131 hb; replace BK132 := bkb BK132 hb; replace HB := bls HB hb; clear hb) | (go_at_call 97; (with_reducible refine (fd_add.calls a0 a1_0 t139 t140 _ A12.out).mono ?_); rintro e w32 ⟨rfl, hb⟩; replace BK130 := bkb BK130 hb; replace BK131 := bkb BK131 hb; replace BK132 := bkb BK132 hb; replace HB := bls HB hb; clear hb) | (go_at_call 101; (with_reducible refine (fd_div.calls a0 t140 t138 t141 _ A13.out).mono ?_); rintro e w33 ⟨rfl, hb⟩; replace BK130 := bkb BK130 hb; replace BK131 := bkb BK131 hb; replace BK132 := bkb BK132 hb; replace HB := bls HB hb; clear hb) | (go_at_call 99; (with_reducible refine (fd_mul.calls a0 a1_0 t136 t142 _ A14.out).mono ?_); rintro e w34 ⟨rfl, hb⟩; replace BK130 := bkb BK130 hb; replace BK131 := bkb BK131 hb; replace BK132 := bkb BK132 hb; replace HB := bls HB hb; clear hb) | (go_at_call 98; (with_reducible refine (fd_sub.calls a0 a1_1 t142 t143 _ A15.out).mono ?_); rintro e w35 ⟨rfl, hb⟩; replace BK130 := bkb BK130 hb; replace BK131 := bkb BK131 hb; replace BK132 := bkb BK132 hb; replace HB := bls HB hb; clear hb) | (go_at_call 101; (with_reducible refine (fd_div.calls a0 t143 t138 t144 _ A16.out).mono ?_); rintro e w36 ⟨rfl, hb⟩; replace BK130 := bkb BK130 hb; replace BK131 := bkb BK131 hb; replace BK132 := bkb BK132 hb; replace HB := bls HB hb; clear hb; have hcz37_0 : w36.cell? ⟨gb132, 0, none⟩ = some (.int .u64 0) := (blk_cell BK132.out 0).trans rfl; have hcz37_1 : w36.cell? ⟨gb132, 1, none⟩ = some (.int .u64 0) := (blk_cell BK132.out 1).trans rfl; have hfz37_0 := blk_frozen BK132.out 0; have hfz37_1 := blk_frozen BK132.out 1)); try go_wp2_with (first | ((with_reducible refine gate_dst (N := 4) rfl ?_); refine bxe 4 (cs := #[.int .u64 a1_0, .int .u64 a1_1]) (t := 74) ?_; intro gb130 hg w17 hbox hb; have BK130 := Aside0.mk hbox; have GW130 := bsz HB hg; have GE130 := bsz HB hg; replace HB := bls HB hb; clear hb hbox hg) | ((with_reducible refine gate_dst (N := 5) rfl ?_); refine bxe 5 (cs := #[.int .u64 a2_0, .int .u64 a2_1]) (t := 74) ?_; intro gb131 hg w18 hbox hb; have BK131 := Aside0.mk hbox; have GW131 := bsz HB hg; have GE131 := bsz HB hg; have NB130_131 := bnl BK130 hg; have NB131_130 := bng BK130 hg; replace BK130 := bkb BK130 hb; replace HB := bls HB hb; clear hb hbox hg) | ((with_reducible refine gate_dst (N := 6) rfl ?_); refine bxe 6 (cs := #[.int .u64 0, .int .u64 0]) (t := 74) ?_; intro gb132 hg w19 hbox hb; have BK132 := Aside0.mk hbox; have GW132 := bsz HB hg; have GE132 := bsz HB hg; have NB130_132 := bnl BK130 hg; have NB132_130 := bng BK130 hg; have NB131_132 := bnl BK131 hg; have NB132_131 := bng BK131 hg; replace BK130 := bkb BK130 hb; replace BK131 := bkb BK131 hb; replace HB := bls HB hb; clear hb hbox hg; have hnb20 := NB130_131.out; have hnc20 := NB131_130.out; have hnb21 := NB130_132.out; have hnc21 := NB132_130.out; obtain ⟨hcz22_0, hcz22_1, hfz22_0, hfz22_1⟩ := cf2 BK130; have hnb23 := NB131_132.out; have hnc23 := NB132_131.out; have hcz24_0 : w19.cell? ⟨gb131, 0, none⟩ = some (.int .u64 a2_0) := (blk_cell BK131.out 0).trans rfl; have hcz24_1 : w19.cell? ⟨gb131, 1, none⟩ = some (.int .u64 a2_1) := (blk_cell BK131.out 1).trans rfl; have hfz24_0 := blk_frozen BK131.out 0; have hfz24_1 := blk_frozen BK131.out 1) | (go_at_call 100; (with_reducible refine (fd_size.calls a0 a2_0 t133 _ A4.out).mono ?_); rintro e w25 ⟨rfl, hb⟩; replace BK130 := bkb BK130 hb; replace BK131 := bkb BK131 hb; replace BK132 := bkb BK132 hb; replace HB := bls HB hb; clear hb) | (go_at_call 100; (with_reducible refine (fd_size.calls a0 a2_1 t134 _ A5.out).mono ?_); rintro e w26 ⟨rfl, hb⟩; replace BK130 := bkb BK130 hb; replace BK131 := bkb BK131 hb; replace BK132 := bkb BK132 hb; replace HB := bls HB hb; clear hb) | (go_at_call 92; (with_reducible refine (fd_order.calls a0 t133 t134 t135 _ A6.out).mono ?_); rintro e w27 ⟨rfl, hb⟩; replace BK130 := bkb BK130 hb; replace BK131 := bkb BK131 hb; replace BK132 := bkb BK132 hb; replace HB := bls HB hb; clear hb) | (go_at_call 101; (with_reducible refine (fd_div.calls a0 a2_1 a2_0 t136 _ A8.out).mono ?_); rintro e w28 ⟨rfl, hb⟩; replace BK130 := bkb BK130 hb; replace BK131 := bkb BK131 hb; replace BK132 := bkb BK132 hb; replace HB := bls HB hb; clear hb) | (go_at_call 99; (with_reducible refine (fd_mul.calls a0 t136 a2_1 t137 _ A9.out).mono ?_); rintro e w29 ⟨rfl, hb⟩; replace BK130 := bkb BK130 hb; replace BK131 := bkb BK131 hb; replace BK132 := bkb BK132 hb; replace HB := bls HB hb; clear hb) | (go_at_call 97; (with_reducible refine (fd_add.calls a0 a2_0 t137 t138 _ A10.out).mono ?_); rintro e w30 ⟨rfl, hb⟩; replace BK130 := bkb BK130 hb; replace BK131 := bkb BK131 hb; replace BK132 := bkb BK132 hb; replace HB := bls HB hb; clear hb) | (go_at_call 99; (with_reducible refine (fd_mul.calls a0 a1_1 t136 t139 _ A11.out).mono ?_); rintro e w31 ⟨rfl, hb⟩; replace BK130 := bkb BK130 hb; replace BK131 := bkb BK131 hb; replace BK132 := bkb BK132 hb; replace HB := bls HB hb; clear hb) | (go_at_call 97; (with_reducible refine (fd_add.calls a0 a1_0 t139 t140 _ A12.out).mono ?_); rintro e w32 ⟨rfl, hb⟩; replace BK130 := bkb BK130 hb; replace BK131 := bkb BK131 hb; replace BK132 := bkb BK132 hb; replace HB := bls HB hb; clear hb) | (go_at_call 101; (with_reducible refine (fd_div.calls a0 t140 t138 t141 _ A13.out).mono ?_); rintro e w33 ⟨rfl, hb⟩; replace BK130 := bkb BK130 hb; replace BK131 := bkb BK131 hb; replace BK132 := bkb BK132 hb; replace HB := bls HB hb; clear hb) | (go_at_call 99; (with_reducible refine (fd_mul.calls a0 a1_0 t136 t142 _ A14.out).mono ?_); rintro e w34 ⟨rfl, hb⟩; replace BK130 := bkb BK130 hb; replace BK131 := bkb BK131 hb; replace BK132 := bkb BK132 hb; replace HB := bls HB hb; clear hb) | (go_at_call 98; (with_reducible refine (fd_sub.calls a0 a1_1 t142 t143 _ A15.out).mono ?_); rintro e w35 ⟨rfl, hb⟩; replace BK130 := bkb BK130 hb; replace BK131 := bkb BK131 hb; replace BK132 := bkb BK132 hb; replace HB := bls HB hb; clear hb) | (go_at_call 101; (with_reducible refine (fd_div.calls a0 t143 t138 t144 _ A16.out).mono ?_); rintro e w36 ⟨rfl, hb⟩; replace BK130 := bkb BK130 hb; replace BK131 := bkb BK131 hb; replace BK132 := bkb BK132 hb; replace HB := bls HB hb; clear hb; have hcz37_0 : w36.cell? ⟨gb132, 0, none⟩ = some (.int .u64 0) := (blk_cell BK132.out 0).trans rfl; have hcz37_1 : w36.cell? ⟨gb132, 1, none⟩ = some (.int .u64 0) := (blk_cell BK132.out 1).trans rfl; have hfz37_0 := blk_frozen BK132.out 0; have hfz37_1 := blk_frozen BK132.out 1)))
  refine bodyPost_ret (results_cell_row rfl _ _ gb132 74 #[.int .u64 t141, .int .u64 t144] (0, 0) _ rfl (by (with_reducible repeat (first | refine blk_drewN ?_ _ | refine blk_drew ?_ | refine blk_alloc ?_ _)); refine blk_put (cs := #[.int .u64 t141, .int .u64 0]) ?_ 1 _ rfl; (with_reducible repeat (first | refine blk_drewN ?_ _ | refine blk_drew ?_ | refine blk_alloc ?_ _)); refine blk_put (cs := #[.int .u64 0, .int .u64 0]) ?_ 0 _ rfl; (with_reducible repeat (first | refine blk_drewN ?_ _ | refine blk_drew ?_ | refine blk_alloc ?_ _)); exact BK132.out) Tryz.underlying74 rfl (by kernel_rfl)) rfl ?_
  exact ⟨by first | rfl | (simp [errW_none, errW_some] <;> rfl) | (simp [*, errW_none, errW_some] <;> rfl), (blt HB).out⟩
 ·rw [if_neg c7] at H
  have c7b0 : decide (0 ≤ t135) = false := decide_eq_false c7
  clear c7
  replace H := Option.bind_eq_some_iff.mp H
  obtain ⟨t145, A38, H⟩ := H
  try dsimp only at H
  replace A38 := Aside0.mk A38
  replace H := Option.bind_eq_some_iff.mp H
  obtain ⟨t146, A39, H⟩ := H
  try dsimp only at H
  replace A39 := Aside0.mk A39
  replace H := Option.bind_eq_some_iff.mp H
  obtain ⟨t147, A40, H⟩ := H
  try dsimp only at H
  replace A40 := Aside0.mk A40
  replace H := Option.bind_eq_some_iff.mp H
  obtain ⟨t148, A41, H⟩ := H
  try dsimp only at H
  replace A41 := Aside0.mk A41
  replace H := Option.bind_eq_some_iff.mp H
  obtain ⟨t149, A42, H⟩ := H
  try dsimp only at H
  replace A42 := Aside0.mk A42
  replace H := Option.bind_eq_some_iff.mp H
  obtain ⟨t150, A43, H⟩ := H
  try dsimp only at H
  replace A43 := Aside0.mk A43
  replace H := Option.bind_eq_some_iff.mp H
  obtain ⟨t151, A44, H⟩ := H
  try dsimp only at H
  replace A44 := Aside0.mk A44
  replace H := Option.bind_eq_some_iff.mp H
  obtain ⟨t152, A45, H⟩ := H
  try dsimp only at H
  replace A45 := Aside0.mk A45
  replace H := Option.bind_eq_some_iff.mp H
  obtain ⟨t153, A46, H⟩ := H
  try dsimp only at H
  replace A46 := Aside0.mk A46
  simp only [Option.some.injEq, Prod.mk.injEq] at H
  obtain ⟨rfl, rfl⟩ := H
  go_enter Tryz.func56, Tryz.ntmps56
  go_wp2_with (first | ((with_reducible refine gate_dst (N := 4) rfl ?_); refine bxe 4 (cs := #[.int .u64 a1_0, .int .u64 a1_1]) (t := 74) ?_; intro gb130 hg w47 hbox hb; have BK130 := Aside0.mk hbox; have GW130 := bsz HB hg; have GE130 := bsz HB hg; replace HB := bls HB hb; clear hb hbox hg) | ((with_reducible refine gate_dst (N := 5) rfl ?_); refine bxe 5 (cs := #[.int .u64 a2_0, .int .u64 a2_1]) (t := 74) ?_; intro gb131 hg w48 hbox hb; have BK131 := Aside0.mk hbox; have GW131 := bsz HB hg; have GE131 := bsz HB hg; have NB130_131 := bnl BK130 hg; have NB131_130 := bng BK130 hg; replace BK130 := bkb BK130 hb; replace HB := bls HB hb; clear hb hbox hg) | ((with_reducible refine gate_dst (N := 6) rfl ?_); refine bxe 6 (cs := #[.int .u64 0, .int .u64 0]) (t := 74) ?_; intro gb132 hg w49 hbox hb; have BK132 := Aside0.mk hbox; have GW132 := bsz HB hg; have GE132 := bsz HB hg; have NB130_132 := bnl BK130 hg; have NB132_130 := bng BK130 hg; have NB131_132 := bnl BK131 hg; have NB132_131 := bng BK131 hg; replace BK130 := bkb BK130 hb; replace BK131 := bkb BK131 hb; replace HB := bls HB hb; clear hb hbox hg; have hnb50 := NB130_131.out; have hnc50 := NB131_130.out; have hnb51 := NB130_132.out; have hnc51 := NB132_130.out; obtain ⟨hcz52_0, hcz52_1, hfz52_0, hfz52_1⟩ := cf2 BK130; have hnb53 := NB131_132.out; have hnc53 := NB132_131.out; have hcz54_0 : w49.cell? ⟨gb131, 0, none⟩ = some (.int .u64 a2_0) := (blk_cell BK131.out 0).trans rfl; have hcz54_1 : w49.cell? ⟨gb131, 1, none⟩ = some (.int .u64 a2_1) := (blk_cell BK131.out 1).trans rfl; have hfz54_0 := blk_frozen BK131.out 0; have hfz54_1 := blk_frozen BK131.out 1) | (go_at_call 100; (with_reducible refine (fd_size.calls a0 a2_0 t133 _ A4.out).mono ?_); rintro e w55 ⟨rfl, hb⟩; replace BK130 := bkb BK130 hb; replace BK131 := bkb BK131 hb; replace BK132 := bkb BK132 hb; replace HB := bls HB hb; clear hb) | (go_at_call 100; (with_reducible refine (fd_size.calls a0 a2_1 t134 _ A5.out).mono ?_); rintro e w56 ⟨rfl, hb⟩; replace BK130 := bkb BK130 hb; replace BK131 := bkb BK131 hb; replace BK132 := bkb BK132 hb; replace HB := bls HB hb; clear hb) | (go_at_call 92; (with_reducible refine (fd_order.calls a0 t133 t134 t135 _ A6.out).mono ?_); rintro e w57 ⟨rfl, hb⟩; replace BK130 := bkb BK130 hb; replace BK131 := bkb BK131 hb; replace BK132 := bkb BK132 hb; replace HB := bls HB hb; clear hb) | (go_at_call 101; (with_reducible refine (fd_div.calls a0 a2_0 a2_1 t145 _ A38.out).mono ?_); rintro e w58 ⟨rfl, hb⟩; replace BK130 := bkb BK130 hb; replace BK131 := bkb BK131 hb; replace BK132 := bkb BK132 hb; replace HB := bls HB hb; clear hb) | (go_at_call 99; (with_reducible refine (fd_mul.calls a0 t145 a2_0 t146 _ A39.out).mono ?_); rintro e w59 ⟨rfl, hb⟩; replace BK130 := bkb BK130 hb; replace BK131 := bkb BK131 hb; replace BK132 := bkb BK132 hb; replace HB := bls HB hb; clear hb) | (go_at_call 97; (with_reducible refine (fd_add.calls a0 a2_1 t146 t147 _ A40.out).mono ?_); rintro e w60 ⟨rfl, hb⟩; replace BK130 := bkb BK130 hb; replace BK131 := bkb BK131 hb; replace BK132 := bkb BK132 hb; replace HB := bls HB hb; clear hb) | (go_at_call 99; (with_reducible refine (fd_mul.calls a0 a1_0 t145 t148 _ A41.out).mono ?_); rintro e w61 ⟨rfl, hb⟩; replace BK130 := bkb BK130 hb; replace BK131 := bkb BK131 hb; replace BK132 := bkb BK132 hb; replace HB := bls HB hb; clear hb) | (go_at_call 97; (with_reducible refine (fd_add.calls a0 t148 a1_1 t149 _ A42.out).mono ?_); rintro e w62 ⟨rfl, hb⟩; replace BK130 := bkb BK130 hb; replace BK131 := bkb BK131 hb; replace BK132 := bkb BK132 hb; replace HB := bls HB hb; clear hb) | (go_at_call 101; (with_reducible refine (fd_div.calls a0 t149 t147 t150 _ A43.out).mono ?_); rintro e w63 ⟨rfl, hb⟩; replace BK130 := bkb BK130 hb; replace BK131 := bkb BK131 hb; replace BK132 := bkb BK132 hb; replace HB := bls HB hb; clear hb) | (go_at_call 99; (with_reducible refine (fd_mul.calls a0 a1_1 t145 t151 _ A44.out).mono ?_); rintro e w64 ⟨rfl, hb⟩; replace BK130 := bkb BK130 hb; replace BK131 := bkb BK131 hb; replace BK132 := bkb BK132 hb; replace HB := bls HB hb; clear hb) | (go_at_call 98; (with_reducible refine (fd_sub.calls a0 t151 a1_0 t152 _ A45.out).mono ?_); rintro e w65 ⟨rfl, hb⟩; replace BK130 := bkb BK130 hb; replace BK131 := bkb BK131 hb; replace BK132 := bkb BK132 hb; replace HB := bls HB hb; clear hb) | (go_at_call 101; (with_reducible refine (fd_div.calls a0 t152 t147 t153 _ A46.out).mono ?_); rintro e w66 ⟨rfl, hb⟩; replace BK130 := bkb BK130 hb; replace BK131 := bkb BK131 hb; replace BK132 := bkb BK132 hb; replace HB := bls HB hb; clear hb; have hcz67_0 : w66.cell? ⟨gb132, 0, none⟩ = some (.int .u64 0) := (blk_cell BK132.out 0).trans rfl; have hcz67_1 : w66.cell? ⟨gb132, 1, none⟩ = some (.int .u64 0) := (blk_cell BK132.out 1).trans rfl; have hfz67_0 := blk_frozen BK132.out 0; have hfz67_1 := blk_frozen BK132.out 1))
  repeat (go_quiet (first | ((with_reducible refine gate_dst (N := 4) rfl ?_); refine bxe 4 (cs := #[.int .u64 a1_0, .int .u64 a1_1]) (t := 74) ?_; intro gb130 hg w47 hbox hb; have BK130 := Aside0.mk hbox; have GW130 := bsz HB hg; have GE130 := bsz HB hg; replace HB := bls HB hb; clear hb hbox hg) | ((with_reducible refine gate_dst (N := 5) rfl ?_); refine bxe 5 (cs := #[.int .u64 a2_0, .int .u64 a2_1]) (t := 74) ?_; intro gb131 hg w48 hbox hb; have BK131 := Aside0.mk hbox; have GW131 := bsz HB hg; have GE131 := bsz HB hg; have NB130_131 := bnl BK130 hg; have NB131_130 := bng BK130 hg; replace BK130 := bkb BK130 hb; replace HB := bls HB hb; clear hb hbox hg) | ((with_reducible refine gate_dst (N := 6) rfl ?_); refine bxe 6 (cs := #[.int .u64 0, .int .u64 0]) (t := 74) ?_; intro gb132 hg w49 hbox hb; have BK132 := Aside0.mk hbox; have GW132 := bsz HB hg; have GE132 := bsz HB hg; have NB130_132 := bnl BK130 hg; have NB132_130 := bng BK130 hg; have NB131_132 := bnl BK131 hg; have NB132_131 := bng BK131 hg; replace BK130 := bkb BK130 hb; replace BK131 := bkb BK131 hb; replace HB := bls HB hb; clear hb hbox hg; have hnb50 := NB130_131.out; have hnc50 := NB131_130.out; have hnb51 := NB130_132.out; have hnc51 := NB132_130.out; obtain ⟨hcz52_0, hcz52_1, hfz52_0, hfz52_1⟩ := cf2 BK130; have hnb53 := NB131_132.out; have hnc53 := NB132_131.out; have hcz54_0 : w49.cell? ⟨gb131, 0, none⟩ = some (.int .u64 a2_0) := (blk_cell BK131.out 0).trans rfl; have hcz54_1 : w49.cell? ⟨gb131, 1, none⟩ = some (.int .u64 a2_1) := (blk_cell BK131.out 1).trans rfl; have hfz54_0 := blk_frozen BK131.out 0; have hfz54_1 := blk_frozen BK131.out 1) | (go_at_call 100; (with_reducible refine (fd_size.calls a0 a2_0 t133 _ A4.out).mono ?_); rintro e w55 ⟨rfl, hb⟩; replace BK130 := bkb BK130 hb; replace BK131 := bkb BK131 hb; replace BK132 := bkb BK132 hb; replace HB := bls HB hb; clear hb) | (go_at_call 100; (with_reducible refine (fd_size.calls a0 a2_1 t134 _ A5.out).mono ?_); rintro e w56 ⟨rfl, hb⟩; replace BK130 := bkb BK130 hb; replace BK131 := bkb BK131 hb; replace BK132 := bkb BK132 hb; replace HB := bls HB hb; clear hb) | (go_at_call 92; (with_reducible refine (fd_order.calls a0 t133 t134 t135 _ A6.out).mono ?_); rintro e w57 ⟨rfl, hb⟩; replace BK130 := bkb BK130 hb; replace BK131 := bkb BK131 hb; replace BK132 := bkb BK132 hb; replace HB := bls HB hb; clear hb) | (go_at_call 101; (with_reducible refine (fd_div.calls a0 a2_0 a2_1 t145 _ A38.out).mono ?_); rintro e w58 ⟨rfl, hb⟩; replace BK130 := bkb BK130 hb; replace BK131 := bkb BK131 hb; replace BK132 := bkb BK132 hb; replace HB := bls HB hb; clear hb) | (go_at_call 99; (with_reducible refine (fd_mul.calls a0 t145 a2_0 t146 _ A39.out).mono ?_); rintro e w59 ⟨rfl, hb⟩; replace BK130 := bkb BK130 hb; replace BK131 := bkb BK131 hb; replace BK132 := bkb BK132 hb; replace HB := bls HB hb; clear hb) | (go_at_call 97; (with_reducible refine (fd_add.calls a0 a2_1 t146 t147 _ A40.out).mono ?_); rintro e w60 ⟨rfl, hb⟩; replace BK130 := bkb BK130 hb; replace BK131 := bkb BK131 hb; replace BK132 := bkb BK132 hb; replace HB := bls HB hb; clear hb) | (go_at_call 99; (with_reducible refine (fd_mul.calls a0 a1_0 t145 t148 _ A41.out).mono ?_); rintro e w61 ⟨rfl, hb⟩; replace BK130 := bkb BK130 hb; replace BK131 := bkb BK131 hb; replace BK132 := bkb BK132 hb; replace HB := bls HB hb; clear hb) | (go_at_call 97; (with_reducible refine (fd_add.calls a0 t148 a1_1 t149 _ A42.out).mono ?_); rintro e w62 ⟨rfl, hb⟩; replace BK130 := bkb BK130 hb; replace BK131 := bkb BK131 hb; replace BK132 := bkb BK132 hb; replace HB := bls HB hb; clear hb) | (go_at_call 101; (with_reducible refine (fd_div.calls a0 t149 t147 t150 _ A43.out).mono ?_); rintro e w63 ⟨rfl, hb⟩; replace BK130 := bkb BK130 hb; replace BK131 := bkb BK131 hb; replace BK132 := bkb BK132 hb; replace HB := bls HB hb; clear hb) | (go_at_call 99; (with_reducible refine (fd_mul.calls a0 a1_1 t145 t151 _ A44.out).mono ?_); rintro e w64 ⟨rfl, hb⟩; replace BK130 := bkb BK130 hb; replace BK131 := bkb BK131 hb; replace BK132 := bkb BK132 hb; replace HB := bls HB hb; clear hb) | (go_at_call 98; (with_reducible refine (fd_sub.calls a0 t151 a1_0 t152 _ A45.out).mono ?_); rintro e w65 ⟨rfl, hb⟩; replace BK130 := bkb BK130 hb; replace BK131 := bkb BK131 hb; replace BK132 := bkb BK132 hb; replace HB := bls HB hb; clear hb) | (go_at_call 101; (with_reducible refine (fd_div.calls a0 t152 t147 t153 _ A46.out).mono ?_); rintro e w66 ⟨rfl, hb⟩; replace BK130 := bkb BK130 hb; replace BK131 := bkb BK131 hb; replace BK132 := bkb BK132 hb; replace HB := bls HB hb; clear hb; have hcz67_0 : w66.cell? ⟨gb132, 0, none⟩ = some (.int .u64 0) := (blk_cell BK132.out 0).trans rfl; have hcz67_1 : w66.cell? ⟨gb132, 1, none⟩ = some (.int .u64 0) := (blk_cell BK132.out 1).trans rfl; have hfz67_0 := blk_frozen BK132.out 0; have hfz67_1 := blk_frozen BK132.out 1)); try go_wp2_with (first | ((with_reducible refine gate_dst (N := 4) rfl ?_); refine bxe 4 (cs := #[.int .u64 a1_0, .int .u64 a1_1]) (t := 74) ?_; intro gb130 hg w47 hbox hb; have BK130 := Aside0.mk hbox; have GW130 := bsz HB hg; have GE130 := bsz HB hg; replace HB := bls HB hb; clear hb hbox hg) | ((with_reducible refine gate_dst (N := 5) rfl ?_); refine bxe 5 (cs := #[.int .u64 a2_0, .int .u64 a2_1]) (t := 74) ?_; intro gb131 hg w48 hbox hb; have BK131 := Aside0.mk hbox; have GW131 := bsz HB hg; have GE131 := bsz HB hg; have NB130_131 := bnl BK130 hg; have NB131_130 := bng BK130 hg; replace BK130 := bkb BK130 hb; replace HB := bls HB hb; clear hb hbox hg) | ((with_reducible refine gate_dst (N := 6) rfl ?_); refine bxe 6 (cs := #[.int .u64 0, .int .u64 0]) (t := 74) ?_; intro gb132 hg w49 hbox hb; have BK132 := Aside0.mk hbox; have GW132 := bsz HB hg; have GE132 := bsz HB hg; have NB130_132 := bnl BK130 hg; have NB132_130 := bng BK130 hg; have NB131_132 := bnl BK131 hg; have NB132_131 := bng BK131 hg; replace BK130 := bkb BK130 hb; replace BK131 := bkb BK131 hb; replace HB := bls HB hb; clear hb hbox hg; have hnb50 := NB130_131.out; have hnc50 := NB131_130.out; have hnb51 := NB130_132.out; have hnc51 := NB132_130.out; obtain ⟨hcz52_0, hcz52_1, hfz52_0, hfz52_1⟩ := cf2 BK130; have hnb53 := NB131_132.out; have hnc53 := NB132_131.out; have hcz54_0 : w49.cell? ⟨gb131, 0, none⟩ = some (.int .u64 a2_0) := (blk_cell BK131.out 0).trans rfl; have hcz54_1 : w49.cell? ⟨gb131, 1, none⟩ = some (.int .u64 a2_1) := (blk_cell BK131.out 1).trans rfl; have hfz54_0 := blk_frozen BK131.out 0; have hfz54_1 := blk_frozen BK131.out 1) | (go_at_call 100; (with_reducible refine (fd_size.calls a0 a2_0 t133 _ A4.out).mono ?_); rintro e w55 ⟨rfl, hb⟩; replace BK130 := bkb BK130 hb; replace BK131 := bkb BK131 hb; replace BK132 := bkb BK132 hb; replace HB := bls HB hb; clear hb) | (go_at_call 100; (with_reducible refine (fd_size.calls a0 a2_1 t134 _ A5.out).mono ?_); rintro e w56 ⟨rfl, hb⟩; replace BK130 := bkb BK130 hb; replace BK131 := bkb BK131 hb; replace BK132 := bkb BK132 hb; replace HB := bls HB hb; clear hb) | (go_at_call 92; (with_reducible refine (fd_order.calls a0 t133 t134 t135 _ A6.out).mono ?_); rintro e w57 ⟨rfl, hb⟩; replace BK130 := bkb BK130 hb; replace BK131 := bkb BK131 hb; replace BK132 := bkb BK132 hb; replace HB := bls HB hb; clear hb) | (go_at_call 101; (with_reducible refine (fd_div.calls a0 a2_0 a2_1 t145 _ A38.out).mono ?_); rintro e w58 ⟨rfl, hb⟩; replace BK130 := bkb BK130 hb; replace BK131 := bkb BK131 hb; replace BK132 := bkb BK132 hb; replace HB := bls HB hb; clear hb) | (go_at_call 99; (with_reducible refine (fd_mul.calls a0 t145 a2_0 t146 _ A39.out).mono ?_); rintro e w59 ⟨rfl, hb⟩; replace BK130 := bkb BK130 hb; replace BK131 := bkb BK131 hb; replace BK132 := bkb BK132 hb; replace HB := bls HB hb; clear hb) | (go_at_call 97; (with_reducible refine (fd_add.calls a0 a2_1 t146 t147 _ A40.out).mono ?_); rintro e w60 ⟨rfl, hb⟩; replace BK130 := bkb BK130 hb; replace BK131 := bkb BK131 hb; replace BK132 := bkb BK132 hb; replace HB := bls HB hb; clear hb) | (go_at_call 99; (with_reducible refine (fd_mul.calls a0 a1_0 t145 t148 _ A41.out).mono ?_); rintro e w61 ⟨rfl, hb⟩; replace BK130 := bkb BK130 hb; replace BK131 := bkb BK131 hb; replace BK132 := bkb BK132 hb; replace HB := bls HB hb; clear hb) | (go_at_call 97; (with_reducible refine (fd_add.calls a0 t148 a1_1 t149 _ A42.out).mono ?_); rintro e w62 ⟨rfl, hb⟩; replace BK130 := bkb BK130 hb; replace BK131 := bkb BK131 hb; replace BK132 := bkb BK132 hb; replace HB := bls HB hb; clear hb) | (go_at_call 101; (with_reducible refine (fd_div.calls a0 t149 t147 t150 _ A43.out).mono ?_); rintro e w63 ⟨rfl, hb⟩; replace BK130 := bkb BK130 hb; replace BK131 := bkb BK131 hb; replace BK132 := bkb BK132 hb; replace HB := bls HB hb; clear hb) | (go_at_call 99; (with_reducible refine (fd_mul.calls a0 a1_1 t145 t151 _ A44.out).mono ?_); rintro e w64 ⟨rfl, hb⟩; replace BK130 := bkb BK130 hb; replace BK131 := bkb BK131 hb; replace BK132 := bkb BK132 hb; replace HB := bls HB hb; clear hb) | (go_at_call 98; (with_reducible refine (fd_sub.calls a0 t151 a1_0 t152 _ A45.out).mono ?_); rintro e w65 ⟨rfl, hb⟩; replace BK130 := bkb BK130 hb; replace BK131 := bkb BK131 hb; replace BK132 := bkb BK132 hb; replace HB := bls HB hb; clear hb) | (go_at_call 101; (with_reducible refine (fd_div.calls a0 t152 t147 t153 _ A46.out).mono ?_); rintro e w66 ⟨rfl, hb⟩; replace BK130 := bkb BK130 hb; replace BK131 := bkb BK131 hb; replace BK132 := bkb BK132 hb; replace HB := bls HB hb; clear hb; have hcz67_0 : w66.cell? ⟨gb132, 0, none⟩ = some (.int .u64 0) := (blk_cell BK132.out 0).trans rfl; have hcz67_1 : w66.cell? ⟨gb132, 1, none⟩ = some (.int .u64 0) := (blk_cell BK132.out 1).trans rfl; have hfz67_0 := blk_frozen BK132.out 0; have hfz67_1 := blk_frozen BK132.out 1)))
  refine bodyPost_ret (results_cell_row rfl _ _ gb132 74 #[.int .u64 t150, .int .u64 t153] (0, 0) _ rfl (by (with_reducible repeat (first | refine blk_drewN ?_ _ | refine blk_drew ?_ | refine blk_alloc ?_ _)); refine blk_put (cs := #[.int .u64 t150, .int .u64 0]) ?_ 1 _ rfl; (with_reducible repeat (first | refine blk_drewN ?_ _ | refine blk_drew ?_ | refine blk_alloc ?_ _)); refine blk_put (cs := #[.int .u64 0, .int .u64 0]) ?_ 0 _ rfl; (with_reducible repeat (first | refine blk_drewN ?_ _ | refine blk_drew ?_ | refine blk_alloc ?_ _)); exact BK132.out) Tryz.underlying74 rfl (by kernel_rfl)) rfl ?_
  exact ⟨by first | rfl | (simp [errW_none, errW_some] <;> rfl) | (simp [*, errW_none, errW_some] <;> rfl), (blt HB).out⟩
def fd_one.f (a0 : Int) : Option (Int) := (rl_FromInteger.f a0 1).bind fun bt154 => (some bt154.1)
set_option maxHeartbeats 8000000 in
set_option maxRecDepth 100000 in
theorem fd_one.calls (a0 : Int) (r : Int) (w : World) (h : fd_one.f a0 = some r) :
  Calls Tryz.prog 111 #[.int .i64 a0] w fun e w' => e = .returned (.int .u64 r) ∧ Below w.heap.size w w' := by
 have HB := Aside0.mk (Below.refl w.heap.size w)
 have H : ((rl_FromInteger.f a0 1).bind fun bt154 => (some bt154.1)) = some r := h
 clear h
 replace H := Option.bind_eq_some_iff.mp H
 obtain ⟨⟨t154, t155⟩, A2, H⟩ := H
 try dsimp only at H
 replace A2 := Aside0.mk A2
 obtain rfl := Option.some.inj H
 go_enter Tryz.func111, Tryz.ntmps111
 go_wp2_with (first | ((with_reducible refine gate_callee (f := 93) rfl ?_); refine gL 7 Tryz.func93 #[.int .i64 a0, .int .i64 1] ?_; (with_reducible refine (rl_FromInteger.calls a0 1 t154 t155 _ A2.out).mono ?_); rintro e w3 ⟨rfl, hb⟩; refine ⟨_, rfl, ?_⟩; replace HB := bls HB hb; clear hb))
 go_ret
 exact ⟨by first | rfl | (simp [errW_none, errW_some] <;> rfl) | (simp [*, errW_none, errW_some] <;> rfl), (blt HB).out⟩
def fd_kind.f (a0 : Int) (a1 : Int) : Option (Int) := (rl_PartsOf.f a0 a1).bind fun bt156 => (some bt156.1)
set_option maxHeartbeats 8000000 in
set_option maxRecDepth 100000 in
theorem fd_kind.calls (a0 : Int) (a1 : Int) (r : Int) (w : World) (h : fd_kind.f a0 a1 = some r) :
  Calls Tryz.prog 119 #[.int .i64 a0, .int .u64 a1] w fun e w' => e = .returned (.int .i64 r) ∧ Below w.heap.size w w' := by
 have hu41 := Tryz.underlying41
 have HB := Aside0.mk (Below.refl w.heap.size w)
 have H : ((rl_PartsOf.f a0 a1).bind fun bt156 => (some bt156.1)) = some r := h
 clear h
 replace H := Option.bind_eq_some_iff.mp H
 obtain ⟨⟨t156, t157, t158, t159, t160⟩, A3, H⟩ := H
 try dsimp only at H
 replace A3 := Aside0.mk A3
 obtain rfl := Option.some.inj H
 go_enter Tryz.func119, Tryz.ntmps119
 go_wp2_with (first | ((with_reducible refine gate_callee (f := 138) rfl ?_); refine gL 10 Tryz.func138 #[.int .i64 a0, .int .u64 a1] ?_; (with_reducible refine (rl_PartsOf.calls a0 a1 t156 t157 t158 t159 t160 _ A3.out).mono ?_); rintro e w4 ⟨rfl, hb⟩; refine ⟨_, rfl, ?_⟩; replace HB := bls HB hb; clear hb) | ((with_reducible refine gate_dst (N := 5) rfl ?_); refine bxe 5 (cs := #[.int .i64 0, .bool false, .int .i64 0, .int .i64 0]) (t := 41) ?_; intro gb161 hg w5 hbox hb; have BK161 := Aside0.mk hbox; have GW161 := bsz HB hg; have GE161 := bsz HB hg; replace HB := bls HB hb; clear hb hbox hg; have hcz6_0 : w5.cell? ⟨gb161, 0, none⟩ = some (.int .i64 0) := (blk_cell BK161.out 0).trans rfl; have hcz6_1 : w5.cell? ⟨gb161, 1, none⟩ = some (.bool false) := (blk_cell BK161.out 1).trans rfl; have hcz6_2 : w5.cell? ⟨gb161, 2, none⟩ = some (.int .i64 0) := (blk_cell BK161.out 2).trans rfl; have hcz6_3 : w5.cell? ⟨gb161, 3, none⟩ = some (.int .i64 0) := (blk_cell BK161.out 3).trans rfl; have hfz6_0 := blk_frozen BK161.out 0; have hfz6_1 := blk_frozen BK161.out 1; have hfz6_2 := blk_frozen BK161.out 2; have hfz6_3 := blk_frozen BK161.out 3))
 go_ret
 exact ⟨by first | rfl | (simp [errW_none, errW_some] <;> rfl) | (simp [*, errW_none, errW_some] <;> rfl), (blt HB).out⟩
def fd_root.f (a0 : Int) (a1 : Int) : Option (Int) := (rl_SqrtOf.f a0 a1).bind fun bt162 => (some bt162.1)
set_option maxHeartbeats 8000000 in
set_option maxRecDepth 100000 in
theorem fd_root.calls (a0 : Int) (a1 : Int) (r : Int) (w : World) (h : fd_root.f a0 a1 = some r) :
  Calls Tryz.prog 121 #[.int .i64 a0, .int .u64 a1] w fun e w' => e = .returned (.int .u64 r) ∧ Below w.heap.size w w' := by
 have HB := Aside0.mk (Below.refl w.heap.size w)
 have H : ((rl_SqrtOf.f a0 a1).bind fun bt162 => (some bt162.1)) = some r := h
 clear h
 replace H := Option.bind_eq_some_iff.mp H
 obtain ⟨⟨t162, t163⟩, A3, H⟩ := H
 try dsimp only at H
 replace A3 := Aside0.mk A3
 obtain rfl := Option.some.inj H
 go_enter Tryz.func121, Tryz.ntmps121
 go_wp2_with (first | ((with_reducible refine gate_callee (f := 140) rfl ?_); refine gL 10 Tryz.func140 #[.int .i64 a0, .int .u64 a1] ?_; (with_reducible refine (rl_SqrtOf.calls a0 a1 t162 t163 _ A3.out).mono ?_); rintro e w4 ⟨rfl, hb⟩; refine ⟨_, rfl, ?_⟩; replace HB := bls HB hb; clear hb))
 go_ret
 exact ⟨by first | rfl | (simp [errW_none, errW_some] <;> rfl) | (simp [*, errW_none, errW_some] <;> rfl), (blt HB).out⟩
end Go.Proofs.YtmoimcblmmcffaaGreat.PPC

namespace Go.Proofs.YtmoimcblmmcffaaGreat.PPC
open Go.RowKit Go.Proofs.YtmoimcblmmcffaaGreatW.PrintWords Go.Proofs.YtmoimcblmmcffaaGreatW.PrintLast Go.Proofs.YtmoimcblmmcffaaGreatW.PrintMore Go.Proofs.YtmoimcblmmcffaaGreatW.PrintZ
attribute [local go_sem] max2_int min2_int max_two min_two max_three min_three max_four min_four   -- for this text's walks alone
set_option linter.unusedVariables false
set_option linter.unusedSimpArgs false


mutual
def fd_distance.j0 : Nat → Int → Int → Int → Bool → Option (Int)
 | 0, _, _, _, _ => none
 | k + 1, x0, x5, x6, x7 => (fd_operation.f x0 6 x5 x6).bind fun t169 => ((fd_operation.f x0 5 x5 x6).bind fun t170 => (if x7 = true then (fd_distance.j1 k x0 x5 x6 t169 t170 x7) else ((fd_kind.f x0 t169).bind fun t171 => (if t171 = 0 then ((fd_kind.f x0 x5).bind fun t172 => ((fd_kind.f x0 x6).bind fun t173 => (fd_distance.j1 k x0 x5 x6 t169 t170 (t172 == t173)))) else (fd_distance.j1 k x0 x5 x6 t169 t170 false)))))
def fd_distance.j1 : Nat → Int → Int → Int → Int → Int → Bool → Option (Int)
 | 0, _, _, _, _, _, _ => none
 | k + 1, x0, x5, x6, x8, x9, x37 => if x37 = true then (some x8) else ((fd_kind.f x0 x5).bind fun t174 => (if t174 = 3 then (some x5) else ((fd_kind.f x0 x6).bind fun t175 => (if t175 = 3 then (some x6) else ((fd_div.f x0 x9 x8).bind fun t176 => ((fd_one.f x0).bind fun t177 => ((fd_mul.f x0 t176 t176).bind fun t178 => ((fd_add.f x0 t177 t178).bind fun t179 => ((fd_root.f x0 t179).bind fun t180 => ((fd_mul.f x0 x8 t180).bind fun t181 => (some t181)))))))))))
end
def fd_distance.f (k : Nat) (a0 : Int) (a1_0 : Int) (a1_1 : Int) : Option (Int) := (fd_size.f a0 a1_0).bind fun t165 => ((fd_size.f a0 a1_1).bind fun t166 => ((fd_kind.f a0 t165).bind fun t167 => (if t167 = 2 then (fd_distance.j0 k a0 t165 t166 true) else ((fd_kind.f a0 t166).bind fun t168 => (fd_distance.j0 k a0 t165 t166 (t168 == 2))))))
def fd_distance.T1 : Bool × List (List Nat × List Nat) := (true, [([], []), ([], []), ([1], [1]), ([0, 2], [0, 2]), ([], []), ([], []), ([5], [5]), ([4, 6, 3], [4, 6]), ([3, 7, 0, 1, 2, 3], [3]), ([7, 8, 0, 1, 2, 3, 4, 5, 6, 7, 8], [7])])
def fd_distance.B1 : List Nat := [0, 0, 2, 7, 0, 0, 32, 127, 255, 511]
theorem fd_distance.tab1 : rtab .any (opsOf Tryz.f79 1) = fd_distance.T1 := by kernel_rfl
theorem fd_distance.bits1 : waitsOk fd_distance.T1.2 fd_distance.B1 = true := by kernel_rfl
set_option maxHeartbeats 8000000 in
set_option maxRecDepth 100000 in
theorem fd_distance.calls (k : Nat) (a0 : Int) (a1_0 : Int) (a1_1 : Int) (r : Int) (w : World) (h : fd_distance.f k a0 a1_0 a1_1 = some r) :
  Calls Tryz.prog 79 #[.int .i64 a0, .agg #[.int .u64 a1_0, .int .u64 a1_1]] w fun e w' => e = .returned (.int .u64 r) ∧ Below w.heap.size w w' := by
 have hu74 := Tryz.underlying74
 have HB := Aside0.mk (Below.refl w.heap.size w)
 have H : ((fd_size.f a0 a1_0).bind fun t165 => ((fd_size.f a0 a1_1).bind fun t166 => ((fd_kind.f a0 t165).bind fun t167 => (if t167 = 2 then (fd_distance.j0 k a0 t165 t166 true) else ((fd_kind.f a0 t166).bind fun t168 => (fd_distance.j0 k a0 t165 t166 (t168 == 2))))))) = some r := h
 clear h
 replace H := Option.bind_eq_some_iff.mp H
 obtain ⟨t165, A3, H⟩ := H
 try dsimp only at H
 replace A3 := Aside0.mk A3
 replace H := Option.bind_eq_some_iff.mp H
 obtain ⟨t166, A4, H⟩ := H
 try dsimp only at H
 replace A4 := Aside0.mk A4
 have HC5 := Aside0.mk H
 clear H
 go_enter Tryz.func79, Tryz.ntmps79
 try go_wp2_with (first | ((with_reducible refine gate_dst (N := 3) rfl ?_); refine bxe 3 (cs := #[.int .u64 a1_0, .int .u64 a1_1]) (t := 74) ?_; intro gb164 hg w6 hbox hb; have BK164 := Aside0.mk hbox; have GW164 := bsz HB hg; have GE164 := bsz HB hg; replace HB := bls HB hb; clear hb hbox hg))
 replace BK164 := Aside0.mk (blk_drew BK164.out)
 replace HB := Aside0.mk (below_drew1 HB.out)
 refine start_ (n := 10) (S := fun w' => w'.cell? ⟨gb164, 0, none⟩ = some (.int .u64 a1_0) ∧ w'.cell? ⟨gb164, 1, none⟩ = some (.int .u64 a1_1)) (ds := []) #[false, false, false, false, false, false, false, false, false, false] (by kernel_rfl) rfl rfl ⟨(blk_cell BK164.out 0).trans rfl, (blk_cell BK164.out 1).trans rfl⟩ (fun hHeld => ?_); refine with_tabW fd_distance.tab1 fd_distance.bits1 (fun HT_ HW_ => ?_)
 generalize w6.drew = w7 at BK164 HB hHeld ⊢
 refine pu 0 11 HT_ ?_
 refine pu 1 12 HT_ ?_
 refine pu 4 15 HT_ ?_
 refine pu 5 16 HT_ ?_
 refine tk 2 13 HT_ HW_ hHeld ?_
 refine tk 6 17 HT_ HW_ hHeld ?_
 refine one_ (i := 3) (N := some 14) #[true, true, true, true, true, true, true, false, false, false] rfl rfl (one_of HT_.out (by kernel_rfl)) (by decide) (fun K hK => ?_)
 refine goes_ Tryz.func100 (by kernel_rfl) rfl #[.int .i64 a0, .int .u64 a1_0] (by rfl) rfl rfl (by (try simp only [List.map_toArray, List.map_cons, List.map_nil]); first | done | rfl | (simp only [List.length_drop, List.length_take]; rfl)) ?_
 with_reducible refine (fd_size.calls a0 a1_0 t165 _ A3.out).mono ?_
 rintro e w8 ⟨rfl, hb⟩
 refine ⟨_, rfl, ?_⟩
 replace BK164 := bkb BK164 hb
 replace HB := bls HB hb
 (try clear hb)
 (try clear hb2)
 (try clear hk)
 (try clear hi)
 refine hK.out _ _ ⟨(blk_cell BK164.out 0).trans rfl, (blk_cell BK164.out 1).trans rfl⟩ (fun hHeld => ?_)
 clear hK K
 refine norm_ (a' := ?_) ?_ ?_
 rotate_left
 ·show Act.put _ (some 14) _ = _
  simp only [Act.put, List.setIfInBounds_toArray, List.set_cons_zero, List.set_cons_succ, i64_w, i32_w]
  rfl
 refine one_ (i := 7) (N := some 18) #[true, true, true, true, true, true, true, true, false, false] rfl rfl (one_of HT_.out (by kernel_rfl)) (by decide) (fun K hK => ?_)
 refine goes_ Tryz.func100 (by kernel_rfl) rfl #[.int .i64 a0, .int .u64 a1_1] (by rfl) rfl rfl (by (try simp only [List.map_toArray, List.map_cons, List.map_nil]); first | done | rfl | (simp only [List.length_drop, List.length_take]; rfl)) ?_
 with_reducible refine (fd_size.calls a0 a1_1 t166 _ A4.out).mono ?_
 rintro e w9 ⟨rfl, hb⟩
 refine ⟨_, rfl, ?_⟩
 replace BK164 := bkb BK164 hb
 replace HB := bls HB hb
 (try clear hb)
 (try clear hb2)
 (try clear hk)
 (try clear hi)
 refine hK.out _ _ ⟨(blk_cell BK164.out 0).trans rfl, (blk_cell BK164.out 1).trans rfl⟩ (fun hHeld => ?_)
 clear hK K
 refine norm_ (a' := ?_) ?_ ?_
 rotate_left
 ·show Act.put _ (some 18) _ = _
  simp only [Act.put, List.setIfInBounds_toArray, List.set_cons_zero, List.set_cons_succ, i64_w, i32_w]
  rfl
 refine pu 8 5 HT_ ?_
 refine pu 9 6 HT_ ?_
 refine done_ (done_of HT_.out (by kernel_rfl)) ?_
 go_upto_region 2 with (fail)
 go_cut [7] (fun v7 wc => ∃ (kq : Nat) (x7_4 : Bool), v7 = .bool x7_4 ∧ Aside0 (fd_distance.j0 kq a0 t165 t166 x7_4 = some r) ∧ Aside0 (kq ≤ k) ∧ Aside0 (wc.heap[gb164]? = some (.cells #[.int .u64 a1_0, .int .u64 a1_1] 74 (0, 0))) ∧ Aside0 (Below w.heap.size w wc))
 case first =>
  have H := HC5.out
  clear HC5
  replace H := Option.bind_eq_some_iff.mp H
  obtain ⟨t167, A10, H⟩ := H
  try dsimp only at H
  replace A10 := Aside0.mk A10
  by_cases c11 : t167 = 2
  ·rw [if_pos c11] at H
   have c11b0 : (t167 == 2) = true := beq_iff_eq.mpr c11
   have c11b1 : (t167 != 2) = false := bne_eq_false_iff_eq.mpr c11
   clear c11
   (first | rw [c11b0] | (simp only [i64_w, i32_w]; rw [c11b0]) | skip)
   have H' := Aside0.mk H
   clear H
   go_wp2_with (first | ((with_reducible refine gate_callee (f := 119) rfl ?_); refine gL 21 Tryz.func119 #[.int .i64 a0, .int .u64 t165] ?_; (with_reducible refine (fd_kind.calls a0 t165 t167 _ A10.out).mono ?_); rintro e w12 ⟨rfl, hb⟩; refine ⟨_, rfl, ?_⟩; replace BK164 := bkb BK164 hb; replace HB := bls HB hb; clear hb))
   go_meet
   case rel => exact ⟨_, (true), (by first | rfl | (simp; done) | (simp [*]; done)), H', ⟨by first | omega | exact Nat.le_refl _⟩, bks BK164, blt HB⟩
  ·rw [if_neg c11] at H
   have c11b0 : (t167 == 2) = false := beq_eq_false_iff_ne.mpr c11
   have c11b1 : (t167 != 2) = true := bne_iff_ne.mpr c11
   (first | rw [c11b0] | (simp only [i64_w, i32_w]; rw [c11b0]) | skip)
   replace H := Option.bind_eq_some_iff.mp H
   obtain ⟨t168, A13, H⟩ := H
   try dsimp only at H
   replace A13 := Aside0.mk A13
   have H' := Aside0.mk H
   clear H
   go_wp2_with (first | ((with_reducible refine gate_callee (f := 119) rfl ?_); refine gL 21 Tryz.func119 #[.int .i64 a0, .int .u64 t165] ?_; (with_reducible refine (fd_kind.calls a0 t165 t167 _ A10.out).mono ?_); rintro e w14 ⟨rfl, hb⟩; refine ⟨_, rfl, ?_⟩; replace BK164 := bkb BK164 hb; replace HB := bls HB hb; clear hb) | (go_at_call 119; (with_reducible refine (fd_kind.calls a0 t166 t168 _ A13.out).mono ?_); rintro e w15 ⟨rfl, hb⟩; replace BK164 := bkb BK164 hb; replace HB := bls HB hb; clear hb))
   go_meet
   case rel => exact ⟨_, ((t168 == 2)), (by first | rfl | (simp; done) | (simp [*]; done)), H', ⟨by first | omega | exact Nat.le_refl _⟩, bks BK164, blt HB⟩
 case rest =>
  clear HC5
  try clear c1
  try clear p2
  try clear c7
  try clear c10
  try clear c11
  try clear c11b0
  try clear c11b1
  obtain ⟨kq, x7_4, rfl, HA, HJ4, BK164, HB⟩ := hcut
  cases kq with
  | zero => exact absurd HA.out (by simp [fd_distance.j0])
  | succ kj4 =>
   have H := HA.out
   clear HA
   simp only [fd_distance.j0] at H
   replace H := Option.bind_eq_some_iff.mp H
   obtain ⟨t169, A16, H⟩ := H
   try dsimp only at H
   replace A16 := Aside0.mk A16
   replace H := Option.bind_eq_some_iff.mp H
   obtain ⟨t170, A17, H⟩ := H
   try dsimp only at H
   replace A17 := Aside0.mk A17
   have HC18 := Aside0.mk H
   clear H
   go_upto_if 37 with (first | ((with_reducible refine gate_callee (f := 120) rfl ?_); refine gL 32 Tryz.func120 #[.int .i64 a0, .int .i64 6, .int .u64 t165, .int .u64 t166] ?_; (with_reducible refine (fd_operation.calls a0 6 t165 t166 t169 _ A16.out).mono ?_); rintro e w19 ⟨rfl, hb⟩; refine ⟨_, rfl, ?_⟩; replace BK164 := bkb BK164 hb; replace HB := bls HB hb; clear hb) | ((with_reducible refine gate_callee (f := 120) rfl ?_); refine gL 36 Tryz.func120 #[.int .i64 a0, .int .i64 5, .int .u64 t165, .int .u64 t166] ?_; (with_reducible refine (fd_operation.calls a0 5 t165 t166 t170 _ A17.out).mono ?_); rintro e w20 ⟨rfl, hb⟩; refine ⟨_, rfl, ?_⟩; replace BK164 := bkb BK164 hb; replace HB := bls HB hb; clear hb))
   (try simp only [Act.put, List.setIfInBounds_toArray, List.set_cons_zero, List.set_cons_succ])
   go_cut [37] (fun v37 wc => ∃ (kq : Nat) (x37_17 : Bool), v37 = .bool x37_17 ∧ Aside0 (fd_distance.j1 kq a0 t165 t166 t169 t170 x37_17 = some r) ∧ Aside0 (kq ≤ kj4) ∧ Aside0 (wc.heap[gb164]? = some (.cells #[.int .u64 a1_0, .int .u64 a1_1] 74 (0, 0))) ∧ Aside0 (Below w.heap.size w wc))
   case first =>
    have H := HC18.out
    clear HC18
    by_cases c21 : x7_4 = true
    ·subst c21
     have H1 : (fd_distance.j1 kj4 a0 t165 t166 t169 t170 true) = some r := by rw [if_pos rfl] at H; exact H
     clear H
     have H := H1
     clear H1
     have H' := Aside0.mk H
     clear H
     go_wp2
     go_meet
     case rel => exact ⟨_, (true), (by first | rfl | (simp; done) | (simp [*]; done)), H', ⟨by have := HJ4.out; first | omega | exact Nat.le_refl _⟩, bks BK164, blt HB⟩
    ·replace c21 := Bool.eq_false_iff.mpr c21
     subst c21
     have H1 : ((fd_kind.f a0 t169).bind fun t171 => (if t171 = 0 then ((fd_kind.f a0 t165).bind fun t172 => ((fd_kind.f a0 t166).bind fun t173 => (fd_distance.j1 kj4 a0 t165 t166 t169 t170 (t172 == t173)))) else (fd_distance.j1 kj4 a0 t165 t166 t169 t170 false))) = some r := by rw [if_neg (show ¬ (false = true) by decide)] at H; exact H
     clear H
     have H := H1
     clear H1
     replace H := Option.bind_eq_some_iff.mp H
     obtain ⟨t171, A22, H⟩ := H
     try dsimp only at H
     replace A22 := Aside0.mk A22
     by_cases c23 : t171 = 0
     ·rw [if_pos c23] at H
      have c23b0 : (t171 == 0) = true := beq_iff_eq.mpr c23
      have c23b1 : (t171 != 0) = false := bne_eq_false_iff_eq.mpr c23
      clear c23
      (first | rw [c23b0] | (simp only [i64_w, i32_w]; rw [c23b0]) | skip)
      replace H := Option.bind_eq_some_iff.mp H
      obtain ⟨t172, A24, H⟩ := H
      try dsimp only at H
      replace A24 := Aside0.mk A24
      replace H := Option.bind_eq_some_iff.mp H
      obtain ⟨t173, A25, H⟩ := H
      try dsimp only at H
      replace A25 := Aside0.mk A25
      have H' := Aside0.mk H
      clear H
      go_wp2_with (first | ((with_reducible refine gate_callee (f := 119) rfl ?_); refine gL 41 Tryz.func119 #[.int .i64 a0, .int .u64 t169] ?_; (with_reducible refine (fd_kind.calls a0 t169 t171 _ A22.out).mono ?_); rintro e w26 ⟨rfl, hb⟩; refine ⟨_, rfl, ?_⟩; replace BK164 := bkb BK164 hb; replace HB := bls HB hb; clear hb) | (go_at_call 119; (with_reducible refine (fd_kind.calls a0 t165 t172 _ A24.out).mono ?_); rintro e w27 ⟨rfl, hb⟩; replace BK164 := bkb BK164 hb; replace HB := bls HB hb; clear hb) | (go_at_call 119; (with_reducible refine (fd_kind.calls a0 t166 t173 _ A25.out).mono ?_); rintro e w28 ⟨rfl, hb⟩; replace BK164 := bkb BK164 hb; replace HB := bls HB hb; clear hb))
      go_meet
      case rel => exact ⟨_, ((t172 == t173)), (by first | rfl | (simp; done) | (simp [*]; done)), H', ⟨by have := HJ4.out; first | omega | exact Nat.le_refl _⟩, bks BK164, blt HB⟩
     ·rw [if_neg c23] at H
      have c23b0 : (t171 == 0) = false := beq_eq_false_iff_ne.mpr c23
      have c23b1 : (t171 != 0) = true := bne_iff_ne.mpr c23
      (first | rw [c23b0] | (simp only [i64_w, i32_w]; rw [c23b0]) | skip)
      have H' := Aside0.mk H
      clear H
      go_wp2_with (first | ((with_reducible refine gate_callee (f := 119) rfl ?_); refine gL 41 Tryz.func119 #[.int .i64 a0, .int .u64 t169] ?_; (with_reducible refine (fd_kind.calls a0 t169 t171 _ A22.out).mono ?_); rintro e w29 ⟨rfl, hb⟩; refine ⟨_, rfl, ?_⟩; replace BK164 := bkb BK164 hb; replace HB := bls HB hb; clear hb))
      go_meet
      case rel => exact ⟨_, (false), (by first | rfl | (simp; done) | (simp [*]; done)), H', ⟨by have := HJ4.out; first | omega | exact Nat.le_refl _⟩, bks BK164, blt HB⟩
   case rest =>
    clear HC18
    try clear c1
    try clear c2
    try clear p2
    try clear c7
    try clear c10
    try clear c11
    try clear c11b0
    try clear c11b1
    try clear c12
    try clear c21
    try clear c23
    try clear c23b0
    try clear c23b1
    try clear p2
    obtain ⟨kq, x37_17, rfl, HA, HJ17, BK164, HB⟩ := hcut
    cases kq with
    | zero => exact absurd HA.out (by simp [fd_distance.j1])
    | succ kj17 =>
     have H := HA.out
     clear HA
     simp only [fd_distance.j1] at H
     by_cases c30 : x37_17 = true
     ·subst c30
      have H1 : (some t169) = some r := by rw [if_pos rfl] at H; exact H
      clear H
      have H := H1
      clear H1
      obtain rfl := Option.some.inj H
      go_wp2
      go_ret
      exact ⟨by first | rfl | (simp [errW_none, errW_some] <;> rfl) | (simp [*, errW_none, errW_some] <;> rfl), (blt HB).out⟩
     ·replace c30 := Bool.eq_false_iff.mpr c30
      subst c30
      have H1 : ((fd_kind.f a0 t165).bind fun t174 => (if t174 = 3 then (some t165) else ((fd_kind.f a0 t166).bind fun t175 => (if t175 = 3 then (some t166) else ((fd_div.f a0 t170 t169).bind fun t176 => ((fd_one.f a0).bind fun t177 => ((fd_mul.f a0 t176 t176).bind fun t178 => ((fd_add.f a0 t177 t178).bind fun t179 => ((fd_root.f a0 t179).bind fun t180 => ((fd_mul.f a0 t169 t180).bind fun t181 => (some t181))))))))))) = some r := by rw [if_neg (show ¬ (false = true) by decide)] at H; exact H
      clear H
      have H := H1
      clear H1
      replace H := Option.bind_eq_some_iff.mp H
      obtain ⟨t174, A31, H⟩ := H
      try dsimp only at H
      replace A31 := Aside0.mk A31
      by_cases c32 : t174 = 3
      ·rw [if_pos c32] at H
       have c32b0 : (t174 == 3) = true := beq_iff_eq.mpr c32
       have c32b1 : (t174 != 3) = false := bne_eq_false_iff_eq.mpr c32
       clear c32
       obtain rfl := Option.some.inj H
       go_wp2_with (first | ((with_reducible refine gate_callee (f := 119) rfl ?_); refine gL 56 Tryz.func119 #[.int .i64 a0, .int .u64 t165] ?_; (with_reducible refine (fd_kind.calls a0 t165 t174 _ A31.out).mono ?_); rintro e w33 ⟨rfl, hb⟩; refine ⟨_, rfl, ?_⟩; replace BK164 := bkb BK164 hb; replace HB := bls HB hb; clear hb))
       go_ret
       exact ⟨by first | rfl | (simp [errW_none, errW_some] <;> rfl) | (simp [*, errW_none, errW_some] <;> rfl), (blt HB).out⟩
      ·rw [if_neg c32] at H
       have c32b0 : (t174 == 3) = false := beq_eq_false_iff_ne.mpr c32
       have c32b1 : (t174 != 3) = true := bne_iff_ne.mpr c32
       replace H := Option.bind_eq_some_iff.mp H
       obtain ⟨t175, A34, H⟩ := H
       try dsimp only at H
       replace A34 := Aside0.mk A34
       by_cases c35 : t175 = 3
       ·rw [if_pos c35] at H
        have c35b0 : (t175 == 3) = true := beq_iff_eq.mpr c35
        have c35b1 : (t175 != 3) = false := bne_eq_false_iff_eq.mpr c35
        clear c35
        obtain rfl := Option.some.inj H
        go_wp2_with (first | ((with_reducible refine gate_callee (f := 119) rfl ?_); refine gL 56 Tryz.func119 #[.int .i64 a0, .int .u64 t165] ?_; (with_reducible refine (fd_kind.calls a0 t165 t174 _ A31.out).mono ?_); rintro e w36 ⟨rfl, hb⟩; refine ⟨_, rfl, ?_⟩; replace BK164 := bkb BK164 hb; replace HB := bls HB hb; clear hb) | ((with_reducible refine gate_callee (f := 119) rfl ?_); refine gL 62 Tryz.func119 #[.int .i64 a0, .int .u64 t166] ?_; (with_reducible refine (fd_kind.calls a0 t166 t175 _ A34.out).mono ?_); rintro e w37 ⟨rfl, hb⟩; refine ⟨_, rfl, ?_⟩; replace BK164 := bkb BK164 hb; replace HB := bls HB hb; clear hb))
        go_ret
        exact ⟨by first | rfl | (simp [errW_none, errW_some] <;> rfl) | (simp [*, errW_none, errW_some] <;> rfl), (blt HB).out⟩
       ·rw [if_neg c35] at H
        have c35b0 : (t175 == 3) = false := beq_eq_false_iff_ne.mpr c35
        have c35b1 : (t175 != 3) = true := bne_iff_ne.mpr c35
        replace H := Option.bind_eq_some_iff.mp H
        obtain ⟨t176, A38, H⟩ := H
        try dsimp only at H
        replace A38 := Aside0.mk A38
        replace H := Option.bind_eq_some_iff.mp H
        obtain ⟨t177, A39, H⟩ := H
        try dsimp only at H
        replace A39 := Aside0.mk A39
        replace H := Option.bind_eq_some_iff.mp H
        obtain ⟨t178, A40, H⟩ := H
        try dsimp only at H
        replace A40 := Aside0.mk A40
        replace H := Option.bind_eq_some_iff.mp H
        obtain ⟨t179, A41, H⟩ := H
        try dsimp only at H
        replace A41 := Aside0.mk A41
        replace H := Option.bind_eq_some_iff.mp H
        obtain ⟨t180, A42, H⟩ := H
        try dsimp only at H
        replace A42 := Aside0.mk A42
        replace H := Option.bind_eq_some_iff.mp H
        obtain ⟨t181, A43, H⟩ := H
        try dsimp only at H
        replace A43 := Aside0.mk A43
        obtain rfl := Option.some.inj H
        go_wp2_with (first | ((with_reducible refine gate_callee (f := 119) rfl ?_); refine gL 56 Tryz.func119 #[.int .i64 a0, .int .u64 t165] ?_; (with_reducible refine (fd_kind.calls a0 t165 t174 _ A31.out).mono ?_); rintro e w44 ⟨rfl, hb⟩; refine ⟨_, rfl, ?_⟩; replace BK164 := bkb BK164 hb; replace HB := bls HB hb; clear hb) | ((with_reducible refine gate_callee (f := 119) rfl ?_); refine gL 62 Tryz.func119 #[.int .i64 a0, .int .u64 t166] ?_; (with_reducible refine (fd_kind.calls a0 t166 t175 _ A34.out).mono ?_); rintro e w45 ⟨rfl, hb⟩; refine ⟨_, rfl, ?_⟩; replace BK164 := bkb BK164 hb; replace HB := bls HB hb; clear hb) | ((with_reducible refine gate_callee (f := 101) rfl ?_); refine gL 68 Tryz.func101 #[.int .i64 a0, .int .u64 t170, .int .u64 t169] ?_; (with_reducible refine (fd_div.calls a0 t170 t169 t176 _ A38.out).mono ?_); rintro e w46 ⟨rfl, hb⟩; refine ⟨_, rfl, ?_⟩; replace BK164 := bkb BK164 hb; replace HB := bls HB hb; clear hb) | ((with_reducible refine gate_callee (f := 111) rfl ?_); refine gL 74 Tryz.func111 #[.int .i64 a0] ?_; (with_reducible refine (fd_one.calls a0 t177 _ A39.out).mono ?_); rintro e w47 ⟨rfl, hb⟩; refine ⟨_, rfl, ?_⟩; replace BK164 := bkb BK164 hb; replace HB := bls HB hb; clear hb) | ((with_reducible refine gate_callee (f := 99) rfl ?_); refine gL 78 Tryz.func99 #[.int .i64 a0, .int .u64 t176, .int .u64 t176] ?_; (with_reducible refine (fd_mul.calls a0 t176 t176 t178 _ A40.out).mono ?_); rintro e w48 ⟨rfl, hb⟩; refine ⟨_, rfl, ?_⟩; replace BK164 := bkb BK164 hb; replace HB := bls HB hb; clear hb) | ((with_reducible refine gate_callee (f := 97) rfl ?_); refine gL 79 Tryz.func97 #[.int .i64 a0, .int .u64 t177, .int .u64 t178] ?_; (with_reducible refine (fd_add.calls a0 t177 t178 t179 _ A41.out).mono ?_); rintro e w49 ⟨rfl, hb⟩; refine ⟨_, rfl, ?_⟩; replace BK164 := bkb BK164 hb; replace HB := bls HB hb; clear hb) | ((with_reducible refine gate_callee (f := 121) rfl ?_); refine gL 80 Tryz.func121 #[.int .i64 a0, .int .u64 t179] ?_; (with_reducible refine (fd_root.calls a0 t179 t180 _ A42.out).mono ?_); rintro e w50 ⟨rfl, hb⟩; refine ⟨_, rfl, ?_⟩; replace BK164 := bkb BK164 hb; replace HB := bls HB hb; clear hb) | ((with_reducible refine gate_callee (f := 99) rfl ?_); refine gL 81 Tryz.func99 #[.int .i64 a0, .int .u64 t169, .int .u64 t180] ?_; (with_reducible refine (fd_mul.calls a0 t169 t180 t181 _ A43.out).mono ?_); rintro e w51 ⟨rfl, hb⟩; refine ⟨_, rfl, ?_⟩; replace BK164 := bkb BK164 hb; replace HB := bls HB hb; clear hb))
        go_ret
        exact ⟨by first | rfl | (simp [errW_none, errW_some] <;> rfl) | (simp [*, errW_none, errW_some] <;> rfl), (blt HB).out⟩
def fd_half.f (a0 : Int) : Option (Int) := (fd_one.f a0).bind fun t182 => ((rl_ScaledBy.f a0 t182 (-1)).bind fun bt183 => (some bt183.1))
set_option maxHeartbeats 8000000 in
set_option maxRecDepth 100000 in
theorem fd_half.calls (a0 : Int) (r : Int) (w : World) (h : fd_half.f a0 = some r) :
  Calls Tryz.prog 123 #[.int .i64 a0] w fun e w' => e = .returned (.int .u64 r) ∧ Below w.heap.size w w' := by
 have HB := Aside0.mk (Below.refl w.heap.size w)
 have H : ((fd_one.f a0).bind fun t182 => ((rl_ScaledBy.f a0 t182 (-1)).bind fun bt183 => (some bt183.1))) = some r := h
 clear h
 replace H := Option.bind_eq_some_iff.mp H
 obtain ⟨t182, A2, H⟩ := H
 try dsimp only at H
 replace A2 := Aside0.mk A2
 replace H := Option.bind_eq_some_iff.mp H
 obtain ⟨⟨t183, t184⟩, A3, H⟩ := H
 try dsimp only at H
 replace A3 := Aside0.mk A3
 obtain rfl := Option.some.inj H
 go_enter Tryz.func123, Tryz.ntmps123
 go_wp2_with (first | ((with_reducible refine gate_callee (f := 111) rfl ?_); refine gL 8 Tryz.func111 #[.int .i64 a0] ?_; (with_reducible refine (fd_one.calls a0 t182 _ A2.out).mono ?_); rintro e w4 ⟨rfl, hb⟩; refine ⟨_, rfl, ?_⟩; replace HB := bls HB hb; clear hb) | ((with_reducible refine gate_callee (f := 145) rfl ?_); refine gL 9 Tryz.func145 #[.int .i64 a0, .int .u64 t182, .int .i64 (-1)] ?_; (with_reducible refine (rl_ScaledBy.calls a0 t182 (-1) t183 t184 _ A3.out).mono ?_); rintro e w5 ⟨rfl, hb⟩; refine ⟨_, rfl, ?_⟩; replace HB := bls HB hb; clear hb))
 go_ret
 exact ⟨by first | rfl | (simp [errW_none, errW_some] <;> rfl) | (simp [*, errW_none, errW_some] <;> rfl), (blt HB).out⟩
end Go.Proofs.YtmoimcblmmcffaaGreat.PPC
