/- Contracts and plain laws that the law ComplexesRoots leans on (texts joined by program; what it does not come to is left out). -/
import Derived.Test.YtmoimcblmmcffaaGreatQComplexesRootsA
import Derived.Test.YtmoimcblmmcffaaGreatQComplexesRootsJ
import Derived.Test.YtmoimcblmmcffaaGreatQComplexesRootsD

namespace Go.Proofs.YtmoimcblmmcffaaGreat.PLO
open Go.RowKit Go.Proofs.YtmoimcblmmcffaaGreat.PPC Go.Proofs.YtmoimcblmmcffaaGreat.PRA Go.Proofs.YtmoimcblmmcffaaGreat.PN Go.Proofs.YtmoimcblmmcffaaGreatW.PrintWords Go.Proofs.YtmoimcblmmcffaaGreatW.PrintLast Go.Proofs.YtmoimcblmmcffaaGreatW.PrintMore Go.Proofs.YtmoimcblmmcffaaGreatW.PrintZ
attribute [local go_sem] max2_int min2_int max_two min_two max_three min_three max_four min_four   -- for this text's walks alone
attribute [local go_sem high] Go.Proofs.YtmoimcblmmcffaaGreat.NC.fld0
set_option linter.unusedVariables false
set_option linter.unusedSimpArgs false
def r10_Negated.f (a0_0 : Int) (a0_1 : Int) (a0_2 : Int) (a0_3 : ByteArray) : Option (Int × Int × Int × ByteArray) := (r10_PartType.f a0_0).bind fun t103 => ((r8_Negated.f t103 a0_1).bind fun t104 => ((r8_Negated.f t103 a0_2).bind fun t105 => ((r10_Made.f a0_0 t104 t105).bind fun bt106 => (some (bt106.1, bt106.2.1, bt106.2.2.1, bt106.2.2.2)))))
def r10_Negated.T2 : Bool × List (List Nat × List Nat) := (true, [([], []), ([0], [0]), ([], []), ([], []), ([3], [3]), ([2, 4], [2, 4]), ([], []), ([], []), ([7], [7]), ([6, 8, 5], [6, 8]), ([1, 5, 9, 9], [1, 5, 9]), ([10, 10, 0, 1, 2, 3, 4, 5, 6, 7, 8, 9, 10], [10])])
def r10_Negated.B2 : List Nat := [0, 1, 0, 0, 8, 28, 0, 0, 128, 508, 1023, 2047]
theorem r10_Negated.tab2 : rtab .any (opsOf Tryz.f30 2) = r10_Negated.T2 := by kernel_rfl
theorem r10_Negated.bits2 : waitsOk r10_Negated.T2.2 r10_Negated.B2 = true := by kernel_rfl
set_option maxHeartbeats 8000000 in
set_option maxRecDepth 100000 in
theorem r10_Negated.calls (a0_0 : Int) (a0_1 : Int) (a0_2 : Int) (a0_3 : ByteArray) (r1 : Int) (r2 : Int) (r3 : Int) (r4 : ByteArray) (w : World) (h : r10_Negated.f a0_0 a0_1 a0_2 a0_3 = some (r1, r2, r3, r4)) :
  Calls Tryz.prog 30 #[.agg #[.int .i64 a0_0, .int .u64 a0_1, .int .u64 a0_2, .string a0_3]] w fun e w' => e = .returned (.agg #[.int .i64 r1, .int .u64 r2, .int .u64 r3, .string r4]) ∧ Below w.heap.size w w' := by
 have hu24 := Tryz.underlying24
 have HB := Zs.mk (Below.refl w.heap.size w)
 have H : ((r10_PartType.f a0_0).bind fun t103 => ((r8_Negated.f t103 a0_1).bind fun t104 => ((r8_Negated.f t103 a0_2).bind fun t105 => ((r10_Made.f a0_0 t104 t105).bind fun bt106 => (some (bt106.1, bt106.2.1, bt106.2.2.1, bt106.2.2.2)))))) = some (r1, r2, r3, r4) := h
 clear h
 replace H := Option.bind_eq_some_iff.mp H
 obtain ⟨t103, A2, H⟩ := H
 try dsimp only at H
 replace A2 := Zs.mk A2
 replace H := Option.bind_eq_some_iff.mp H
 obtain ⟨t104, A3, H⟩ := H
 try dsimp only at H
 replace A3 := Zs.mk A3
 replace H := Option.bind_eq_some_iff.mp H
 obtain ⟨t105, A4, H⟩ := H
 try dsimp only at H
 replace A4 := Zs.mk A4
 replace H := Option.bind_eq_some_iff.mp H
 obtain ⟨⟨t106, t107, t108, t109⟩, A5, H⟩ := H
 try dsimp only at H
 replace A5 := Zs.mk A5
 simp only [Option.some.injEq, Prod.mk.injEq] at H
 obtain ⟨rfl, rfl, rfl, rfl⟩ := H
 go_enter Tryz.func30, Tryz.ntmps30
 try go_wp2_with (first | ((with_reducible refine gd_ (N := 1) rfl ?_); refine bxe 1 (cs := #[.int .i64 a0_0, .int .u64 a0_1, .int .u64 a0_2, .string a0_3]) (t := 24) ?_; intro gb101 hg w6 hbox hb; have BK101 := Zs.mk hbox; have GW101 := bsz HB hg; have GE101 := bsz HB hg; replace HB := bls HB hb; clear hb hbox hg) | ((with_reducible refine gd_ (N := 2) rfl ?_); refine bxe 2 (cs := #[.int .i64 0, .int .u64 0, .int .u64 0, .string (⟨#[]⟩ : ByteArray)]) (t := 24) ?_; intro gb102 hg w7 hbox hb; have BK102 := Zs.mk hbox; have GW102 := bsz HB hg; have GE102 := bsz HB hg; have NB101_102 := bnl BK101 hg; have NB102_101 := bng BK101 hg; replace BK101 := bkb BK101 hb; replace HB := bls HB hb; clear hb hbox hg; have hnb8 := NB101_102.out; have hnc8 := NB102_101.out; obtain ⟨hcz9_0, hcz9_1, hcz9_2, hcz9_3, hfz9_0, hfz9_1, hfz9_2, hfz9_3⟩ := cf4 BK101) | ((with_reducible refine gc_ (f := 16) rfl ?_); refine gLc 6 Tryz.func16 (r10_PartType.calls a0_0 t103 _ A2.out) (fun _ h_ => ?_); obtain ⟨nd, rfl⟩ := h_; (try (rw [drewN_self w7]; generalize hq_ : World.drewN w7 _ = w7; have n0_ : Zs (w7.heap[gb101]? = some (.cells #[.int .i64 a0_0, .int .u64 a0_1, .int .u64 a0_2, .string a0_3] 24 (0, 0))) := ⟨by rw [← hq_]; exact (bks BK101).out⟩; have n1_ : Zs (w7.heap[gb102]? = some (.cells #[.int .i64 0, .int .u64 0, .int .u64 0, .string (⟨#[]⟩ : ByteArray)] 24 (0, 0))) := ⟨by rw [← hq_]; exact (bks BK102).out⟩; have n2_ : Zs (Below w.heap.size w w7) := ⟨by rw [← hq_]; exact (blt HB).out⟩; clear BK101 BK102 HB hq_; have BK101 := n0_; have BK102 := n1_; have HB := n2_; clear n0_ n1_ n2_))))
 replace BK101 := Zs.mk (zd BK101.out)
 replace BK102 := Zs.mk (zd BK102.out)
 replace HB := Zs.mk (below_drew1 HB.out)
 refine start_ (n := 12) (S := fun w' => w'.cell? ⟨gb101, 0, none⟩ = some (.int .i64 a0_0) ∧ w'.cell? ⟨gb101, 1, none⟩ = some (.int .u64 a0_1) ∧ w'.cell? ⟨gb101, 2, none⟩ = some (.int .u64 a0_2) ∧ w'.cell? ⟨gb101, 3, none⟩ = some (.string a0_3)) (ds := []) #[false, false, false, false, false, false, false, false, false, false, false, false] (by kernel_rfl) rfl rfl (cf4c BK101) (fun hHeld => ?_); refine with_tabW r10_Negated.tab2 r10_Negated.bits2 (fun HT_ HW_ => ?_)
 generalize w7.drew = w10 at BK101 BK102 HB hHeld ⊢
 refine pu 0 7 HT_ ?_
 refine pu 2 9 HT_ ?_
 refine pu 3 10 HT_ ?_
 refine pu 6 13 HT_ ?_
 refine pu 7 14 HT_ ?_
 refine tk 1 8 HT_ HW_ hHeld ?_
 refine tk 4 11 HT_ HW_ hHeld ?_
 refine tk 8 15 HT_ HW_ hHeld ?_
 refine on 5 12 HT_ (fun K hK => ?_)
 refine gsc Tryz.func83 (r8_Negated.calls t103 a0_1 t104 _ A3.out) (fun w11 hb => ?_)
 replace BK101 := bkb BK101 hb
 replace BK102 := bkb BK102 hb
 replace HB := bls HB hb
 (try clear hb)
 (try clear hb2)
 (try clear hk)
 (try clear hi)
 refine hK.out _ _ (cf4c BK101) (fun hHeld => ?_)
 clear hK K
 refine nm 12 ?_
 refine on 9 16 HT_ (fun K hK => ?_)
 refine gsc Tryz.func83 (r8_Negated.calls t103 a0_2 t105 _ A4.out) (fun w12 hb => ?_)
 replace BK101 := bkb BK101 hb
 replace BK102 := bkb BK102 hb
 replace HB := bls HB hb
 (try clear hb)
 (try clear hb2)
 (try clear hk)
 (try clear hi)
 refine hK.out _ _ (cf4c BK101) (fun hHeld => ?_)
 clear hK K
 refine nm 16 ?_
 refine on 10 17 HT_ (fun K hK => ?_)
 refine gsc Tryz.func18 (r10_Made.calls a0_0 t104 t105 t106 t107 t108 t109 _ A5.out) (fun w13 hb => ?_)
 replace BK101 := bkb BK101 hb
 replace BK102 := bkb BK102 hb
 replace HB := bls HB hb
 (try clear hb)
 (try clear hb2)
 (try clear hk)
 (try clear hi)
 refine hK.out _ _ (cf4c BK101) (fun hHeld => ?_)
 clear hK K
 refine nm 17 ?_
 refine one_ (i := 11) (N := none) #[true, true, true, true, true, true, true, true, true, true, true, true] rfl rfl (one_of HT_.out (by kernel_rfl)) (by decide) (fun K hK => ?_)
 have hs14 : w13.cell? ⟨gb102, 0, none⟩ = some (.int .i64 0) := (zc BK102.out 0).trans rfl
 have hfs14 := zf BK102.out 0
 have hns14_0 := NB101_102.out
 have hms14_0 := NB102_101.out
 have hs15 : w13.cell? ⟨gb102, 1, none⟩ = some (.int .u64 0) := (zc BK102.out 1).trans rfl
 have hfs15 := zf BK102.out 1
 have hns15_0 := NB101_102.out
 have hms15_0 := NB102_101.out
 have hs16 : w13.cell? ⟨gb102, 2, none⟩ = some (.int .u64 0) := (zc BK102.out 2).trans rfl
 have hfs16 := zf BK102.out 2
 have hns16_0 := NB101_102.out
 have hms16_0 := NB102_101.out
 have hs17 : w13.cell? ⟨gb102, 3, none⟩ = some (.string (⟨#[]⟩ : ByteArray)) := (zc BK102.out 3).trans rfl
 have hfs17 := zf BK102.out 3
 have hns17_0 := NB101_102.out
 have hms17_0 := NB102_101.out
 refine skip_ (w1 := ?_) (by rfl) rfl ?_ ?_
 rotate_left
 ·go_simp
  rfl
 refine hK.out _ _ ⟨((cell_far (p := ⟨gb102, _, none⟩) NB101_102.out _).trans (((cell_far (p := ⟨gb102, _, none⟩) NB101_102.out _).trans (((cell_far (p := ⟨gb102, _, none⟩) NB101_102.out _).trans (((cell_far (p := ⟨gb102, _, none⟩) NB101_102.out _).trans (hHeld.1)))))))), ((cell_far (p := ⟨gb102, _, none⟩) NB101_102.out _).trans (((cell_far (p := ⟨gb102, _, none⟩) NB101_102.out _).trans (((cell_far (p := ⟨gb102, _, none⟩) NB101_102.out _).trans (((cell_far (p := ⟨gb102, _, none⟩) NB101_102.out _).trans (hHeld.2.1)))))))), ((cell_far (p := ⟨gb102, _, none⟩) NB101_102.out _).trans (((cell_far (p := ⟨gb102, _, none⟩) NB101_102.out _).trans (((cell_far (p := ⟨gb102, _, none⟩) NB101_102.out _).trans (((cell_far (p := ⟨gb102, _, none⟩) NB101_102.out _).trans (hHeld.2.2.1)))))))), ((cell_far (p := ⟨gb102, _, none⟩) NB101_102.out _).trans (((cell_far (p := ⟨gb102, _, none⟩) NB101_102.out _).trans (((cell_far (p := ⟨gb102, _, none⟩) NB101_102.out _).trans (((cell_far (p := ⟨gb102, _, none⟩) NB101_102.out _).trans (hHeld.2.2.2))))))))⟩ (fun hHeld => ?_)
 clear hK K
 refine done_ (done_of HT_.out (by kernel_rfl)) ?_
 try go_wp2
 refine bodyPost_ret (results_cell_row rfl _ _ gb102 24 #[.int .i64 t106, .int .u64 t107, .int .u64 t108, .string t109] (0, 0) _ rfl (by (with_reducible repeat (first | refine zn ?_ _ | refine zd ?_ | refine za ?_ _)); apply bp4; (with_reducible repeat (first | refine zn ?_ _ | refine zd ?_ | refine za ?_ _)); exact BK102.out) Tryz.underlying24 rfl (by kernel_rfl)) rfl ?_
 exact fin_ (blt HB)
def r10_Conjugate.f (a0_0 : Int) (a0_1 : Int) (a0_2 : Int) (a0_3 : ByteArray) : Option (Int × Int × Int × ByteArray) := (r10_PartType.f a0_0).bind fun t112 => ((r8_Negated.f t112 a0_2).bind fun t113 => ((r10_Made.f a0_0 a0_1 t113).bind fun bt114 => (some (bt114.1, bt114.2.1, bt114.2.2.1, bt114.2.2.2))))
def r10_Conjugate.T1 : Bool × List (List Nat × List Nat) := (true, [([], []), ([0], [0]), ([], []), ([2], [2]), ([], []), ([4], [4]), ([5], [5]), ([], []), ([7], [7]), ([6, 8, 6], [6, 8]), ([1, 3, 9, 9], [1, 3, 9]), ([10, 10, 0, 1, 2, 3, 4, 5, 6, 7, 8, 9, 10], [10])])
def r10_Conjugate.B1 : List Nat := [0, 1, 0, 4, 0, 16, 48, 0, 128, 496, 1023, 2047]
theorem r10_Conjugate.tab1 : rtab .any (opsOf Tryz.f31 1) = r10_Conjugate.T1 := by kernel_rfl
theorem r10_Conjugate.bits1 : waitsOk r10_Conjugate.T1.2 r10_Conjugate.B1 = true := by kernel_rfl
set_option maxHeartbeats 8000000 in
set_option maxRecDepth 100000 in
theorem r10_Conjugate.calls (a0_0 : Int) (a0_1 : Int) (a0_2 : Int) (a0_3 : ByteArray) (r1 : Int) (r2 : Int) (r3 : Int) (r4 : ByteArray) (w : World) (h : r10_Conjugate.f a0_0 a0_1 a0_2 a0_3 = some (r1, r2, r3, r4)) :
  Calls Tryz.prog 31 #[.agg #[.int .i64 a0_0, .int .u64 a0_1, .int .u64 a0_2, .string a0_3]] w fun e w' => e = .returned (.agg #[.int .i64 r1, .int .u64 r2, .int .u64 r3, .string r4]) ∧ Below w.heap.size w w' := by
 have hu24 := Tryz.underlying24
 have HB := Zs.mk (Below.refl w.heap.size w)
 have H : ((r10_PartType.f a0_0).bind fun t112 => ((r8_Negated.f t112 a0_2).bind fun t113 => ((r10_Made.f a0_0 a0_1 t113).bind fun bt114 => (some (bt114.1, bt114.2.1, bt114.2.2.1, bt114.2.2.2))))) = some (r1, r2, r3, r4) := h
 clear h
 replace H := Option.bind_eq_some_iff.mp H
 obtain ⟨t112, A2, H⟩ := H
 try dsimp only at H
 replace A2 := Zs.mk A2
 replace H := Option.bind_eq_some_iff.mp H
 obtain ⟨t113, A3, H⟩ := H
 try dsimp only at H
 replace A3 := Zs.mk A3
 replace H := Option.bind_eq_some_iff.mp H
 obtain ⟨⟨t114, t115, t116, t117⟩, A4, H⟩ := H
 try dsimp only at H
 replace A4 := Zs.mk A4
 simp only [Option.some.injEq, Prod.mk.injEq] at H
 obtain ⟨rfl, rfl, rfl, rfl⟩ := H
 go_enter Tryz.func31, Tryz.ntmps31
 try go_wp2_with (first | ((with_reducible refine gd_ (N := 1) rfl ?_); refine bxe 1 (cs := #[.int .i64 a0_0, .int .u64 a0_1, .int .u64 a0_2, .string a0_3]) (t := 24) ?_; intro gb110 hg w5 hbox hb; have BK110 := Zs.mk hbox; have GW110 := bsz HB hg; have GE110 := bsz HB hg; replace HB := bls HB hb; clear hb hbox hg) | ((with_reducible refine gd_ (N := 2) rfl ?_); refine bxe 2 (cs := #[.int .i64 0, .int .u64 0, .int .u64 0, .string (⟨#[]⟩ : ByteArray)]) (t := 24) ?_; intro gb111 hg w6 hbox hb; have BK111 := Zs.mk hbox; have GW111 := bsz HB hg; have GE111 := bsz HB hg; have NB110_111 := bnl BK110 hg; have NB111_110 := bng BK110 hg; replace BK110 := bkb BK110 hb; replace HB := bls HB hb; clear hb hbox hg))
 replace BK110 := Zs.mk (zd BK110.out)
 replace BK111 := Zs.mk (zd BK111.out)
 replace HB := Zs.mk (below_drew1 HB.out)
 refine start_ (n := 12) (S := fun w' => w'.cell? ⟨gb110, 0, none⟩ = some (.int .i64 a0_0) ∧ w'.cell? ⟨gb110, 1, none⟩ = some (.int .u64 a0_1) ∧ w'.cell? ⟨gb110, 2, none⟩ = some (.int .u64 a0_2) ∧ w'.cell? ⟨gb110, 3, none⟩ = some (.string a0_3)) (ds := []) #[false, false, false, false, false, false, false, false, false, false, false, false] (by kernel_rfl) rfl rfl (cf4c BK110) (fun hHeld => ?_); refine with_tabW r10_Conjugate.tab1 r10_Conjugate.bits1 (fun HT_ HW_ => ?_)
 generalize w6.drew = w7 at BK110 BK111 HB hHeld ⊢
 refine pu 0 3 HT_ ?_
 refine pu 2 5 HT_ ?_
 refine pu 4 7 HT_ ?_
 refine pu 7 10 HT_ ?_
 refine tk 1 4 HT_ HW_ hHeld ?_
 refine tk 3 6 HT_ HW_ hHeld ?_
 refine tk 5 8 HT_ HW_ hHeld ?_
 refine tk 8 11 HT_ HW_ hHeld ?_
 refine on 6 9 HT_ (fun K hK => ?_)
 refine gsc Tryz.func16 (r10_PartType.calls a0_0 t112 _ A2.out) (fun _ h_ => ?_)
 obtain ⟨nd, rfl⟩ := h_
 refine hK.out _ _ (cf4c BK110) (fun hHeld => ?_)
 clear hK K
 refine nm 9 ?_
 refine on 9 12 HT_ (fun K hK => ?_)
 refine gsc Tryz.func83 (r8_Negated.calls t112 a0_2 t113 _ A3.out) (fun w8 hb => ?_)
 replace BK110 := bkb BK110 hb
 replace BK111 := bkb BK111 hb
 replace HB := bls HB hb
 (try clear hb)
 (try clear hb2)
 (try clear hk)
 (try clear hi)
 refine hK.out _ _ (cf4c BK110) (fun hHeld => ?_)
 clear hK K
 refine nm 12 ?_
 refine on 10 13 HT_ (fun K hK => ?_)
 refine gsc Tryz.func18 (r10_Made.calls a0_0 a0_1 t113 t114 t115 t116 t117 _ A4.out) (fun w9 hb => ?_)
 replace BK110 := bkb BK110 hb
 replace BK111 := bkb BK111 hb
 replace HB := bls HB hb
 (try clear hb)
 (try clear hb2)
 (try clear hk)
 (try clear hi)
 refine hK.out _ _ (cf4c BK110) (fun hHeld => ?_)
 clear hK K
 refine nm 13 ?_
 refine one_ (i := 11) (N := none) #[true, true, true, true, true, true, true, true, true, true, true, true] rfl rfl (one_of HT_.out (by kernel_rfl)) (by decide) (fun K hK => ?_)
 have hs10 : w9.cell? ⟨gb111, 0, none⟩ = some (.int .i64 0) := (zc BK111.out 0).trans rfl
 have hfs10 := zf BK111.out 0
 have hns10_0 := NB110_111.out
 have hms10_0 := NB111_110.out
 have hs11 : w9.cell? ⟨gb111, 1, none⟩ = some (.int .u64 0) := (zc BK111.out 1).trans rfl
 have hfs11 := zf BK111.out 1
 have hns11_0 := NB110_111.out
 have hms11_0 := NB111_110.out
 have hs12 : w9.cell? ⟨gb111, 2, none⟩ = some (.int .u64 0) := (zc BK111.out 2).trans rfl
 have hfs12 := zf BK111.out 2
 have hns12_0 := NB110_111.out
 have hms12_0 := NB111_110.out
 have hs13 : w9.cell? ⟨gb111, 3, none⟩ = some (.string (⟨#[]⟩ : ByteArray)) := (zc BK111.out 3).trans rfl
 have hfs13 := zf BK111.out 3
 have hns13_0 := NB110_111.out
 have hms13_0 := NB111_110.out
 refine skip_ (w1 := ?_) (by rfl) rfl ?_ ?_
 rotate_left
 ·go_simp
  rfl
 refine hK.out _ _ ⟨((cell_far (p := ⟨gb111, _, none⟩) NB110_111.out _).trans (((cell_far (p := ⟨gb111, _, none⟩) NB110_111.out _).trans (((cell_far (p := ⟨gb111, _, none⟩) NB110_111.out _).trans (((cell_far (p := ⟨gb111, _, none⟩) NB110_111.out _).trans (hHeld.1)))))))), ((cell_far (p := ⟨gb111, _, none⟩) NB110_111.out _).trans (((cell_far (p := ⟨gb111, _, none⟩) NB110_111.out _).trans (((cell_far (p := ⟨gb111, _, none⟩) NB110_111.out _).trans (((cell_far (p := ⟨gb111, _, none⟩) NB110_111.out _).trans (hHeld.2.1)))))))), ((cell_far (p := ⟨gb111, _, none⟩) NB110_111.out _).trans (((cell_far (p := ⟨gb111, _, none⟩) NB110_111.out _).trans (((cell_far (p := ⟨gb111, _, none⟩) NB110_111.out _).trans (((cell_far (p := ⟨gb111, _, none⟩) NB110_111.out _).trans (hHeld.2.2.1)))))))), ((cell_far (p := ⟨gb111, _, none⟩) NB110_111.out _).trans (((cell_far (p := ⟨gb111, _, none⟩) NB110_111.out _).trans (((cell_far (p := ⟨gb111, _, none⟩) NB110_111.out _).trans (((cell_far (p := ⟨gb111, _, none⟩) NB110_111.out _).trans (hHeld.2.2.2))))))))⟩ (fun hHeld => ?_)
 clear hK K
 refine done_ (done_of HT_.out (by kernel_rfl)) ?_
 try go_wp2
 refine bodyPost_ret (results_cell_row rfl _ _ gb111 24 #[.int .i64 t114, .int .u64 t115, .int .u64 t116, .string t117] (0, 0) _ rfl (by (with_reducible repeat (first | refine zn ?_ _ | refine zd ?_ | refine za ?_ _)); apply bp4; (with_reducible repeat (first | refine zn ?_ _ | refine zd ?_ | refine za ?_ _)); exact BK111.out) Tryz.underlying24 rfl (by kernel_rfl)) rfl ?_
 exact fin_ (blt HB)


mutual
def r10_Size.j0 : Nat → Int → Int → Int → Int → Int → Bool → Option (Int)
 | 0, _, _, _, _, _, _ => none
 | k + 1, x3, x4, x5, x6, x7, x35 => if x35 = true then ((r8_Bits.f x3 2 false 0 0).bind fun t130 => (some t130)) else (if x6 = 3 then (r10_Size.j1 k x3 x4 x5 true) else (r10_Size.j1 k x3 x4 x5 (x7 == 3)))
def r10_Size.j1 : Nat → Int → Int → Int → Bool → Option (Int)
 | 0, _, _, _, _ => none
 | k + 1, x3, x4, x5, x44 => if x44 = true then ((r8_NaN.f x3).bind fun t131 => (some t131)) else ((r8_Apply.f 6 x3 x4 x5).bind fun t132 => ((r8_Apply.f 5 x3 x4 x5).bind fun t133 => ((r8_Parts.f x3 t132).bind fun bt134 => (if bt134.1 = 0 then (some t132) else ((r8_Div.f x3 t133 t132).bind fun t138 => ((r8_FromInteger.f x3 1).bind fun t139 => ((r8_Mul.f x3 t138 t138).bind fun t140 => ((r8_Add.f x3 t139 t140).bind fun t141 => ((r8_Sqrt.f x3 t141).bind fun t142 => ((r8_Mul.f x3 t132 t142).bind fun t143 => (some t143)))))))))))
end
def r10_Size.f (k : Nat) (a0_0 : Int) (a0_1 : Int) (a0_2 : Int) (a0_3 : ByteArray) : Option (Int) := (r10_PartType.f a0_0).bind fun t119 => ((r8_Sized.f t119 a0_1).bind fun t120 => ((r8_Sized.f t119 a0_2).bind fun t121 => ((r8_Parts.f t119 t120).bind fun bt122 => ((r8_Parts.f t119 t121).bind fun bt126 => (if bt122.1 = 2 then (r10_Size.j0 k t119 t120 t121 bt122.1 bt126.1 true) else (r10_Size.j0 k t119 t120 t121 bt122.1 bt126.1 (bt126.1 == 2)))))))
theorem r10_Size.mono_l : ∀ k, (∀ y0 y1 y2 y3 y4 y5, LeO (r10_Size.j0 k y0 y1 y2 y3 y4 y5) (r10_Size.j0 (k + 1) y0 y1 y2 y3 y4 y5)) ∧ (∀ y0 y1 y2 y3, LeO (r10_Size.j1 k y0 y1 y2 y3) (r10_Size.j1 (k + 1) y0 y1 y2 y3))
 | 0 => ⟨fun _ _ _ _ _ _ r h => by simp [r10_Size.j0] at h, fun _ _ _ _ r h => by simp [r10_Size.j1] at h⟩
 | k + 1 => by
  obtain ⟨ih0, ih1⟩ := r10_Size.mono_l k
  refine ⟨?_, ?_⟩
  ·intro y0 y1 y2 y3 y4 y5
   unfold r10_Size.j0
   repeat' first
   | (with_reducible exact ih0 _ _ _ _ _ _)
   | (with_reducible exact ih1 _ _ _ _)
   | (with_reducible exact LeO.refl _)
   | (with_reducible exact LeO.none _)
   | (with_reducible refine LeO.ite ?_ ?_)
   | (with_reducible refine LeO.bind ?_ (fun _ => ?_))
   | exact ih0 _ _ _ _ _ _
   | exact ih1 _ _ _ _
   | exact LeO.none _
   | refine LeO.ite ?_ ?_
   | refine LeO.bind ?_ (fun _ => ?_)
  ·intro y0 y1 y2 y3
   unfold r10_Size.j1
   repeat' first
   | (with_reducible exact ih0 _ _ _ _ _ _)
   | (with_reducible exact ih1 _ _ _ _)
   | (with_reducible exact LeO.refl _)
   | (with_reducible exact LeO.none _)
   | (with_reducible refine LeO.ite ?_ ?_)
   | (with_reducible refine LeO.bind ?_ (fun _ => ?_))
   | exact ih0 _ _ _ _ _ _
   | exact ih1 _ _ _ _
   | exact LeO.none _
   | refine LeO.ite ?_ ?_
   | refine LeO.bind ?_ (fun _ => ?_)
theorem r10_Size.mono : ∀ a0 a1 a2 a3 k, LeO (r10_Size.f k a0 a1 a2 a3) (r10_Size.f (k + 1) a0 a1 a2 a3) := by
 intro a0 a1 a2 a3 k
 obtain ⟨ih0, ih1⟩ := r10_Size.mono_l k
 unfold r10_Size.f
 repeat' first
   | (with_reducible exact ih0 _ _ _ _ _ _)
   | (with_reducible exact ih1 _ _ _ _)
   | (with_reducible exact LeO.refl _)
   | (with_reducible exact LeO.none _)
   | (with_reducible refine LeO.ite ?_ ?_)
   | (with_reducible refine LeO.bind ?_ (fun _ => ?_))
   | exact ih0 _ _ _ _ _ _
   | exact ih1 _ _ _ _
   | exact LeO.none _
   | refine LeO.ite ?_ ?_
   | refine LeO.bind ?_ (fun _ => ?_)
def r10_Size.T2 : Bool × List (List Nat × List Nat) := (true, [([], []), ([], []), ([1], [1]), ([0, 2], [0, 2]), ([], []), ([], []), ([5], [5]), ([4, 6, 3], [4, 6]), ([3, 7, 0, 1, 2, 3], [3]), ([7, 8, 0, 1, 2, 3, 4, 5, 6, 7, 8], [7])])
def r10_Size.B2 : List Nat := [0, 0, 2, 7, 0, 0, 32, 127, 255, 511]
theorem r10_Size.tab2 : rtab .any (opsOf Tryz.f32 2) = r10_Size.T2 := by kernel_rfl
theorem r10_Size.bits2 : waitsOk r10_Size.T2.2 r10_Size.B2 = true := by kernel_rfl
set_option maxHeartbeats 8000000 in
set_option maxRecDepth 100000 in
theorem r10_Size.calls (k : Nat) (a0_0 : Int) (a0_1 : Int) (a0_2 : Int) (a0_3 : ByteArray) (r : Int) (w : World) (h : r10_Size.f k a0_0 a0_1 a0_2 a0_3 = some r) :
  Calls Tryz.prog 32 #[.agg #[.int .i64 a0_0, .int .u64 a0_1, .int .u64 a0_2, .string a0_3]] w fun e w' => e = .returned (.int .u64 r) ∧ Below w.heap.size w w' := by
 have hu24 := Tryz.underlying24
 have hu41 := Tryz.underlying41
 have HB := Zs.mk (Below.refl w.heap.size w)
 have H : ((r10_PartType.f a0_0).bind fun t119 => ((r8_Sized.f t119 a0_1).bind fun t120 => ((r8_Sized.f t119 a0_2).bind fun t121 => ((r8_Parts.f t119 t120).bind fun bt122 => ((r8_Parts.f t119 t121).bind fun bt126 => (if bt122.1 = 2 then (r10_Size.j0 k t119 t120 t121 bt122.1 bt126.1 true) else (r10_Size.j0 k t119 t120 t121 bt122.1 bt126.1 (bt126.1 == 2)))))))) = some r := h
 clear h
 replace H := Option.bind_eq_some_iff.mp H
 obtain ⟨t119, A2, H⟩ := H
 try dsimp only at H
 replace A2 := Zs.mk A2
 replace H := Option.bind_eq_some_iff.mp H
 obtain ⟨t120, A3, H⟩ := H
 try dsimp only at H
 replace A3 := Zs.mk A3
 replace H := Option.bind_eq_some_iff.mp H
 obtain ⟨t121, A4, H⟩ := H
 try dsimp only at H
 replace A4 := Zs.mk A4
 replace H := Option.bind_eq_some_iff.mp H
 obtain ⟨⟨t122, t123, t124, t125⟩, A5, H⟩ := H
 try dsimp only at H
 replace A5 := Zs.mk A5
 replace H := Option.bind_eq_some_iff.mp H
 obtain ⟨⟨t126, t127, t128, t129⟩, A6, H⟩ := H
 try dsimp only at H
 replace A6 := Zs.mk A6
 have HC7 := Zs.mk H
 clear H
 go_enter Tryz.func32, Tryz.ntmps32
 try go_wp2_with (first | ((with_reducible refine gd_ (N := 1) rfl ?_); refine bxe 1 (cs := #[.int .i64 a0_0, .int .u64 a0_1, .int .u64 a0_2, .string a0_3]) (t := 24) ?_; intro gb118 hg w8 hbox hb; have BK118 := Zs.mk hbox; have GW118 := bsz HB hg; have GE118 := bsz HB hg; replace HB := bls HB hb; clear hb hbox hg; obtain ⟨hcz9_0, hcz9_1, hcz9_2, hcz9_3, hfz9_0, hfz9_1, hfz9_2, hfz9_3⟩ := cf4 BK118) | ((with_reducible refine gc_ (f := 16) rfl ?_); refine gLc 13 Tryz.func16 (r10_PartType.calls a0_0 t119 _ A2.out) (fun _ h_ => ?_); obtain ⟨nd, rfl⟩ := h_))
 (try (rw [drewN_self w8]; generalize hq_ : World.drewN w8 _ = w8; have n0_ : Zs (w8.heap[gb118]? = some (.cells #[.int .i64 a0_0, .int .u64 a0_1, .int .u64 a0_2, .string a0_3] 24 (0, 0))) := ⟨by rw [← hq_]; exact (bks BK118).out⟩; have n1_ : Zs (Below w.heap.size w w8) := ⟨by rw [← hq_]; exact (blt HB).out⟩; clear BK118 HB hq_; have BK118 := n0_; have HB := n1_; clear n0_ n1_))
 replace BK118 := Zs.mk (zd BK118.out)
 replace HB := Zs.mk (below_drew1 HB.out)
 refine start_ (n := 10) (S := fun w' => w'.cell? ⟨gb118, 0, none⟩ = some (.int .i64 a0_0) ∧ w'.cell? ⟨gb118, 1, none⟩ = some (.int .u64 a0_1) ∧ w'.cell? ⟨gb118, 2, none⟩ = some (.int .u64 a0_2) ∧ w'.cell? ⟨gb118, 3, none⟩ = some (.string a0_3)) (ds := []) #[false, false, false, false, false, false, false, false, false, false] (by kernel_rfl) rfl rfl (cf4c BK118) (fun hHeld => ?_); refine with_tabW r10_Size.tab2 r10_Size.bits2 (fun HT_ HW_ => ?_)
 generalize w8.drew = w10 at BK118 HB hHeld ⊢
 refine pu 0 14 HT_ ?_
 refine pu 1 15 HT_ ?_
 refine pu 4 18 HT_ ?_
 refine pu 5 19 HT_ ?_
 refine tk 2 16 HT_ HW_ hHeld ?_
 refine tk 6 20 HT_ HW_ hHeld ?_
 refine on 3 17 HT_ (fun K hK => ?_)
 refine gsc Tryz.func84 (r8_Sized.calls t119 a0_1 t120 _ A3.out) (fun w11 hb => ?_)
 replace BK118 := bkb BK118 hb
 replace HB := bls HB hb
 (try clear hb)
 (try clear hb2)
 (try clear hk)
 (try clear hi)
 refine hK.out _ _ (cf4c BK118) (fun hHeld => ?_)
 clear hK K
 refine nm 17 ?_
 refine on 7 21 HT_ (fun K hK => ?_)
 refine gsc Tryz.func84 (r8_Sized.calls t119 a0_2 t121 _ A4.out) (fun w12 hb => ?_)
 replace BK118 := bkb BK118 hb
 replace HB := bls HB hb
 (try clear hb)
 (try clear hb2)
 (try clear hk)
 (try clear hi)
 refine hK.out _ _ (cf4c BK118) (fun hHeld => ?_)
 clear hK K
 refine nm 21 ?_
 refine pu 8 4 HT_ ?_
 refine pu 9 5 HT_ ?_
 refine done_ (done_of HT_.out (by kernel_rfl)) ?_
 go_upto_region 4 with (first | ((with_reducible refine gc_ (f := 21) rfl ?_); refine gLc 24 Tryz.func21 (r8_Parts.calls t119 t120 t122 t123 t124 t125 _ A5.out) (fun w13 hb => ?_); replace BK118 := bkb BK118 hb; replace HB := bls HB hb; clear hb) | ((with_reducible refine gc_ (f := 21) rfl ?_); refine gLc 28 Tryz.func21 (r8_Parts.calls t119 t121 t126 t127 t128 t129 _ A6.out) (fun w14 hb => ?_); replace BK118 := bkb BK118 hb; replace HB := bls HB hb; clear hb))
 (try simp only [Act.put, List.setIfInBounds_toArray, List.set_cons_zero, List.set_cons_succ])
 go_cut [35] (fun v35 wc => ∃ (kq : Nat) (x35_6 : Bool), v35 = .bool x35_6 ∧ Zs (r10_Size.j0 kq t119 t120 t121 t122 t126 x35_6 = some r) ∧ Zs (kq ≤ k) ∧ Zs (wc.heap[gb118]? = some (.cells #[.int .i64 a0_0, .int .u64 a0_1, .int .u64 a0_2, .string a0_3] 24 (0, 0))) ∧ Zs (Below w.heap.size w wc))
 case first =>
  have H := HC7.out
  clear HC7
  by_cases c15 : t122 = 2
  ·rw [if_pos c15] at H
   have c15b0 : (t122 == 2) = true := beq_iff_eq.mpr c15
   have c15b1 : (t122 != 2) = false := bne_eq_false_iff_eq.mpr c15
   clear c15
   (first | rw [c15b0] | (simp only [i64_w, i32_w]; rw [c15b0]) | skip)
   have H' := Zs.mk H
   clear H
   go_wp2
   go_meet
   case rel => exact ⟨_, (true), (by first | rfl | (simp; done) | (simp [*]; done)), H', ⟨by first | omega | exact Nat.le_refl _⟩, bks BK118, blt HB⟩
  ·rw [if_neg c15] at H
   have c15b0 : (t122 == 2) = false := beq_eq_false_iff_ne.mpr c15
   have c15b1 : (t122 != 2) = true := bne_iff_ne.mpr c15
   (first | rw [c15b0] | (simp only [i64_w, i32_w]; rw [c15b0]) | skip)
   have H' := Zs.mk H
   clear H
   go_wp2
   go_meet
   case rel => exact ⟨_, ((t126 == 2)), (by first | rfl | (simp; done) | (simp [*]; done)), H', ⟨by first | omega | exact Nat.le_refl _⟩, bks BK118, blt HB⟩
 case rest =>
  clear HC7
  try clear c1
  try clear c2
  try clear p2
  try clear c3
  try clear c8
  try clear c15
  try clear c15b0
  try clear c15b1
  try clear hcz9_0
  try clear hcz9_1
  try clear hcz9_2
  try clear hcz9_3
  try clear hfz9_0
  try clear hfz9_1
  try clear hfz9_2
  try clear hfz9_3
  obtain ⟨kq, x35_6, rfl, HA, HJ6, BK118, HB⟩ := hcut
  cases kq with
  | zero => exact absurd HA.out (by simp [r10_Size.j0])
  | succ kj6 =>
   have H := HA.out
   clear HA
   simp only [r10_Size.j0] at H
   by_cases c16 : x35_6 = true
   ·subst c16
    rw [if_pos rfl] at H
    replace H := Option.bind_eq_some_iff.mp H
    obtain ⟨t130, A17, H⟩ := H
    try dsimp only at H
    replace A17 := Zs.mk A17
    obtain rfl := Option.some.inj H
    go_wp2_with (first | ((with_reducible refine gc_ (f := 69) rfl ?_); refine gLc 38 Tryz.func69 (r8_Bits.calls t119 2 false 0 0 t130 _ A17.out) (fun w18 hb => ?_); replace BK118 := bkb BK118 hb; replace HB := bls HB hb; clear hb))
    go_ret
    exact fin_ (blt HB)
   ·replace c16 := Bool.eq_false_iff.mpr c16
    subst c16
    rw [if_neg (show ¬ (false = true) by decide)] at H
    have HC19 := Zs.mk H
    clear H
    go_upto_region 6 with (fail)
    go_cut [44] (fun v44 wc => ∃ (kq : Nat) (x44_18 : Bool), v44 = .bool x44_18 ∧ Zs (r10_Size.j1 kq t119 t120 t121 x44_18 = some r) ∧ Zs (kq ≤ kj6) ∧ Zs (wc.heap[gb118]? = some (.cells #[.int .i64 a0_0, .int .u64 a0_1, .int .u64 a0_2, .string a0_3] 24 (0, 0))) ∧ Zs (Below w.heap.size w wc))
    case first =>
     have H := HC19.out
     clear HC19
     by_cases c20 : t122 = 3
     ·rw [if_pos c20] at H
      have c20b0 : (t122 == 3) = true := beq_iff_eq.mpr c20
      have c20b1 : (t122 != 3) = false := bne_eq_false_iff_eq.mpr c20
      clear c20
      (first | rw [c20b0] | (simp only [i64_w, i32_w]; rw [c20b0]) | skip)
      have H' := Zs.mk H
      clear H
      go_wp2
      go_meet
      case rel => exact ⟨_, (true), (by first | rfl | (simp; done) | (simp [*]; done)), H', ⟨by have := HJ6.out; first | omega | exact Nat.le_refl _⟩, bks BK118, blt HB⟩
     ·rw [if_neg c20] at H
      have c20b0 : (t122 == 3) = false := beq_eq_false_iff_ne.mpr c20
      have c20b1 : (t122 != 3) = true := bne_iff_ne.mpr c20
      (first | rw [c20b0] | (simp only [i64_w, i32_w]; rw [c20b0]) | skip)
      have H' := Zs.mk H
      clear H
      go_wp2
      go_meet
      case rel => exact ⟨_, ((t126 == 3)), (by first | rfl | (simp; done) | (simp [*]; done)), H', ⟨by have := HJ6.out; first | omega | exact Nat.le_refl _⟩, bks BK118, blt HB⟩
    case rest =>
     clear HC19
     try clear c1
     try clear c2
     try clear p2
     try clear c3
     try clear c6
     try clear c8
     try clear c15
     try clear c15b0
     try clear c15b1
     try clear c16
     try clear c20
     try clear c20b0
     try clear c20b1
     try clear hcz9_0
     try clear hcz9_1
     try clear hcz9_2
     try clear hcz9_3
     try clear hfz9_0
     try clear hfz9_1
     try clear hfz9_2
     try clear hfz9_3
     try clear p2
     obtain ⟨kq, x44_18, rfl, HA, HJ18, BK118, HB⟩ := hcut
     cases kq with
     | zero => exact absurd HA.out (by simp [r10_Size.j1])
     | succ kj18 =>
      have H := HA.out
      clear HA
      simp only [r10_Size.j1] at H
      by_cases c21 : x44_18 = true
      ·subst c21
       rw [if_pos rfl] at H
       replace H := Option.bind_eq_some_iff.mp H
       obtain ⟨t131, A22, H⟩ := H
       try dsimp only at H
       replace A22 := Zs.mk A22
       obtain rfl := Option.some.inj H
       go_wp2_with (first | ((with_reducible refine gc_ (f := 67) rfl ?_); refine gLc 46 Tryz.func67 (r8_NaN.calls t119 t131 _ A22.out) (fun w23 hb => ?_); replace BK118 := bkb BK118 hb; replace HB := bls HB hb; clear hb))
       go_ret
       exact fin_ (blt HB)
      ·replace c21 := Bool.eq_false_iff.mpr c21
       subst c21
       rw [if_neg (show ¬ (false = true) by decide)] at H
       replace H := Option.bind_eq_some_iff.mp H
       obtain ⟨t132, A24, H⟩ := H
       try dsimp only at H
       replace A24 := Zs.mk A24
       replace H := Option.bind_eq_some_iff.mp H
       obtain ⟨t133, A25, H⟩ := H
       try dsimp only at H
       replace A25 := Zs.mk A25
       replace H := Option.bind_eq_some_iff.mp H
       obtain ⟨⟨t134, t135, t136, t137⟩, A26, H⟩ := H
       try dsimp only at H
       replace A26 := Zs.mk A26
       by_cases c27 : t134 = 0
       ·rw [if_pos c27] at H
        have c27b0 : (t134 == 0) = true := beq_iff_eq.mpr c27
        have c27b1 : (t134 != 0) = false := bne_eq_false_iff_eq.mpr c27
        clear c27
        obtain rfl := Option.some.inj H
        go_wp2_with (first | ((with_reducible refine gc_ (f := 20) rfl ?_); refine gLc 50 Tryz.func20 (r8_Apply.calls 6 t119 t120 t121 t132 _ A24.out) (fun w28 hb => ?_); replace BK118 := bkb BK118 hb; replace HB := bls HB hb; clear hb) | ((with_reducible refine gc_ (f := 20) rfl ?_); refine gLc 54 Tryz.func20 (r8_Apply.calls 5 t119 t120 t121 t133 _ A25.out) (fun w29 hb => ?_); replace BK118 := bkb BK118 hb; replace HB := bls HB hb; clear hb) | ((with_reducible refine gc_ (f := 21) rfl ?_); refine gLc 57 Tryz.func21 (r8_Parts.calls t119 t132 t134 t135 t136 t137 _ A26.out) (fun w30 hb => ?_); replace BK118 := bkb BK118 hb; replace HB := bls HB hb; clear hb))
        go_ret
        exact fin_ (blt HB)
       ·rw [if_neg c27] at H
        have c27b0 : (t134 == 0) = false := beq_eq_false_iff_ne.mpr c27
        have c27b1 : (t134 != 0) = true := bne_iff_ne.mpr c27
        replace H := Option.bind_eq_some_iff.mp H
        obtain ⟨t138, A31, H⟩ := H
        try dsimp only at H
        replace A31 := Zs.mk A31
        replace H := Option.bind_eq_some_iff.mp H
        obtain ⟨t139, A32, H⟩ := H
        try dsimp only at H
        replace A32 := Zs.mk A32
        replace H := Option.bind_eq_some_iff.mp H
        obtain ⟨t140, A33, H⟩ := H
        try dsimp only at H
        replace A33 := Zs.mk A33
        replace H := Option.bind_eq_some_iff.mp H
        obtain ⟨t141, A34, H⟩ := H
        try dsimp only at H
        replace A34 := Zs.mk A34
        replace H := Option.bind_eq_some_iff.mp H
        obtain ⟨t142, A35, H⟩ := H
        try dsimp only at H
        replace A35 := Zs.mk A35
        replace H := Option.bind_eq_some_iff.mp H
        obtain ⟨t143, A36, H⟩ := H
        try dsimp only at H
        replace A36 := Zs.mk A36
        obtain rfl := Option.some.inj H
        go_wp2_with (first | ((with_reducible refine gc_ (f := 20) rfl ?_); refine gLc 50 Tryz.func20 (r8_Apply.calls 6 t119 t120 t121 t132 _ A24.out) (fun w37 hb => ?_); replace BK118 := bkb BK118 hb; replace HB := bls HB hb; clear hb) | ((with_reducible refine gc_ (f := 20) rfl ?_); refine gLc 54 Tryz.func20 (r8_Apply.calls 5 t119 t120 t121 t133 _ A25.out) (fun w38 hb => ?_); replace BK118 := bkb BK118 hb; replace HB := bls HB hb; clear hb) | ((with_reducible refine gc_ (f := 21) rfl ?_); refine gLc 57 Tryz.func21 (r8_Parts.calls t119 t132 t134 t135 t136 t137 _ A26.out) (fun w39 hb => ?_); replace BK118 := bkb BK118 hb; replace HB := bls HB hb; clear hb) | ((with_reducible refine gc_ (f := 66) rfl ?_); refine gLc 64 Tryz.func66 (r8_Div.calls t119 t133 t132 t138 _ A31.out) (fun w40 hb => ?_); replace BK118 := bkb BK118 hb; replace HB := bls HB hb; clear hb) | ((with_reducible refine gc_ (f := 23) rfl ?_); refine gLc 70 Tryz.func23 (r8_FromInteger.calls t119 1 t139 _ A32.out) (fun w41 hb => ?_); replace BK118 := bkb BK118 hb; replace HB := bls HB hb; clear hb) | ((with_reducible refine gc_ (f := 65) rfl ?_); refine gLc 74 Tryz.func65 (r8_Mul.calls t119 t138 t138 t140 _ A33.out) (fun w42 hb => ?_); replace BK118 := bkb BK118 hb; replace HB := bls HB hb; clear hb) | ((with_reducible refine gc_ (f := 63) rfl ?_); refine gLc 75 Tryz.func63 (r8_Add.calls t119 t139 t140 t141 _ A34.out) (fun w43 hb => ?_); replace BK118 := bkb BK118 hb; replace HB := bls HB hb; clear hb) | ((with_reducible refine gc_ (f := 85) rfl ?_); refine gLc 76 Tryz.func85 (r8_Sqrt.calls t119 t141 t142 _ A35.out) (fun w44 hb => ?_); replace BK118 := bkb BK118 hb; replace HB := bls HB hb; clear hb) | ((with_reducible refine gc_ (f := 65) rfl ?_); refine gLc 77 Tryz.func65 (r8_Mul.calls t119 t132 t142 t143 _ A36.out) (fun w45 hb => ?_); replace BK118 := bkb BK118 hb; replace HB := bls HB hb; clear hb))
        go_ret
        exact fin_ (blt HB)
end Go.Proofs.YtmoimcblmmcffaaGreat.PLO

namespace Go.Proofs.YtmoimcblmmcffaaGreat.PLO
open Go.RowKit Go.Proofs.YtmoimcblmmcffaaGreat.PPC Go.Proofs.YtmoimcblmmcffaaGreat.PRA Go.Proofs.YtmoimcblmmcffaaGreat.PN Go.Proofs.YtmoimcblmmcffaaGreatW.PrintWords Go.Proofs.YtmoimcblmmcffaaGreatW.PrintLast Go.Proofs.YtmoimcblmmcffaaGreatW.PrintMore Go.Proofs.YtmoimcblmmcffaaGreatW.PrintZ
attribute [local go_sem] max2_int min2_int max_two min_two max_three min_three max_four min_four   -- for this text's walks alone
attribute [local go_sem high] Go.Proofs.YtmoimcblmmcffaaGreat.NC.fld0
set_option linter.unusedVariables false
set_option linter.unusedSimpArgs false
def r10_Sqrt.j0 : Nat → Int → Int → Int → Bool → Int → Int → Int → ByteArray → Option (Int × Int × Int × ByteArray)
 | 0, _, _, _, _, _, _, _, _ => none
 | k + 1, x3, x4, x5, x26, x145000, x145001, x145002, x145003 => if x26 = true then ((r10_Made.f x145000 0 x5).bind fun bt155 => (some (bt155.1, bt155.2.1, bt155.2.2.1, bt155.2.2.2))) else ((r8_FromInteger.f x3 1).bind fun t159 => ((r8_FromInteger.f x3 2).bind fun t160 => ((r8_Div.f x3 t159 t160).bind fun t161 => ((r8_Sized.f x3 x4).bind fun t162 => ((r10_Size.f k x145000 x145001 x145002 x145003).bind fun t163 => ((r8_Add.f x3 t162 t163).bind fun t164 => ((r8_Mul.f x3 t164 t161).bind fun t165 => ((r8_Sqrt.f x3 t165).bind fun t166 => ((r8_Compare.f x3 x4 0).bind fun t167 => (if t167 = (-1) then ((r8_Sized.f x3 x5).bind fun t174 => ((r8_Div.f x3 t174 t166).bind fun t175 => ((r8_Mul.f x3 t175 t161).bind fun t176 => ((r8_Apply.f 4 x3 t166 x5).bind fun t177 => ((r10_Made.f x145000 t176 t177).bind fun bt178 => (some (bt178.1, bt178.2.1, bt178.2.2.1, bt178.2.2.2))))))) else ((r8_Div.f x3 x5 t166).bind fun t168 => ((r8_Mul.f x3 t168 t161).bind fun t169 => ((r10_Made.f x145000 t166 t169).bind fun bt170 => (some (bt170.1, bt170.2.1, bt170.2.2.1, bt170.2.2.2)))))))))))))))
def r10_Sqrt.f (k : Nat) (a0_0 : Int) (a0_1 : Int) (a0_2 : Int) (a0_3 : ByteArray) : Option (Int × Int × Int × ByteArray) := (r10_PartType.f a0_0).bind fun t146 => ((r8_Parts.f t146 a0_1).bind fun bt147 => (if bt147.1 = 0 then ((r8_Parts.f t146 a0_2).bind fun bt151 => (r10_Sqrt.j0 k t146 a0_1 a0_2 (bt151.1 == 0) a0_0 a0_1 a0_2 a0_3)) else (r10_Sqrt.j0 k t146 a0_1 a0_2 false a0_0 a0_1 a0_2 a0_3)))
theorem r10_Sqrt.mono_l : ∀ k, (∀ y0 y1 y2 y3 y4 y5 y6 y7, LeO (r10_Sqrt.j0 k y0 y1 y2 y3 y4 y5 y6 y7) (r10_Sqrt.j0 (k + 1) y0 y1 y2 y3 y4 y5 y6 y7))
 | 0 => fun _ _ _ _ _ _ _ _ r h => by simp [r10_Sqrt.j0] at h
 | k + 1 => by
  have ih0 := r10_Sqrt.mono_l k
  ·intro y0 y1 y2 y3 y4 y5 y6 y7
   unfold r10_Sqrt.j0
   repeat' first
   | (with_reducible exact ih0 _ _ _ _ _ _ _ _)
   | (with_reducible exact r10_Size.mono _ _ _ _ _)
   | (with_reducible exact LeO.refl _)
   | (with_reducible exact LeO.none _)
   | (with_reducible refine LeO.ite ?_ ?_)
   | (with_reducible refine LeO.bind ?_ (fun _ => ?_))
   | exact ih0 _ _ _ _ _ _ _ _
   | exact r10_Size.mono _ _ _ _ _
   | exact LeO.none _
   | refine LeO.ite ?_ ?_
   | refine LeO.bind ?_ (fun _ => ?_)
theorem r10_Sqrt.mono : ∀ a0 a1 a2 a3 k, LeO (r10_Sqrt.f k a0 a1 a2 a3) (r10_Sqrt.f (k + 1) a0 a1 a2 a3) := by
 intro a0 a1 a2 a3 k
 have ih0 := r10_Sqrt.mono_l k
 unfold r10_Sqrt.f
 repeat' first
   | (with_reducible exact ih0 _ _ _ _ _ _ _ _)
   | (with_reducible exact r10_Size.mono _ _ _ _ _)
   | (with_reducible exact LeO.refl _)
   | (with_reducible exact LeO.none _)
   | (with_reducible refine LeO.ite ?_ ?_)
   | (with_reducible refine LeO.bind ?_ (fun _ => ?_))
   | exact ih0 _ _ _ _ _ _ _ _
   | exact r10_Size.mono _ _ _ _ _
   | exact LeO.none _
   | refine LeO.ite ?_ ?_
   | refine LeO.bind ?_ (fun _ => ?_)
def r10_Sqrt.T6 : Bool × List (List Nat × List Nat) := (true, [([], []), ([], []), ([], []), ([], []), ([], []), ([3, 4], [3, 4]), ([], []), ([6, 5], [6]), ([2, 5, 7, 7], [2, 5, 7]), ([], []), ([1, 8, 9, 8], [1, 8, 9]), ([0, 10, 10], [0, 10]), ([11, 11, 0, 1, 2, 3, 4, 5, 6, 7, 8, 9, 10, 11], [11])])
def r10_Sqrt.B6 : List Nat := [0, 0, 0, 0, 0, 24, 0, 120, 252, 0, 1022, 2047, 4095]
theorem r10_Sqrt.tab6 : rtab .any (opsOf Tryz.f33 6) = r10_Sqrt.T6 := by kernel_rfl
theorem r10_Sqrt.bits6 : waitsOk r10_Sqrt.T6.2 r10_Sqrt.B6 = true := by kernel_rfl
def r10_Sqrt.T8 : Bool × List (List Nat × List Nat) := (true, [([], []), ([0], [0]), ([], []), ([], []), ([], []), ([], []), ([], []), ([4, 5, 6], [4, 5, 6]), ([], []), ([3, 7, 8, 7], [3, 7, 8]), ([1, 2, 9, 9], [1, 2, 9]), ([10, 10, 0, 1, 2, 3, 4, 5, 6, 7, 8, 9, 10], [10])])
def r10_Sqrt.B8 : List Nat := [0, 1, 0, 0, 0, 0, 0, 112, 0, 504, 1023, 2047]
theorem r10_Sqrt.tab8 : rtab .any (opsOf Tryz.f33 8) = r10_Sqrt.T8 := by kernel_rfl
theorem r10_Sqrt.bits8 : waitsOk r10_Sqrt.T8.2 r10_Sqrt.B8 = true := by kernel_rfl
def r10_Sqrt.T9 : Bool × List (List Nat × List Nat) := (true, [([], []), ([0], [0]), ([], []), ([], []), ([], []), ([], []), ([4, 5], [4, 5]), ([], []), ([3, 6, 7, 6], [3, 6, 7]), ([], []), ([2, 8, 9, 8], [2, 8, 9]), ([], []), ([], []), ([], []), ([11, 12, 13, 10], [11, 12, 13]), ([1, 10, 14, 14], [1, 10, 14]), ([15, 15, 0, 1, 2, 3, 4, 5, 6, 7, 8, 9, 10, 11, 12, 13, 14, 15], [15])])
def r10_Sqrt.B9 : List Nat := [0, 1, 0, 0, 0, 0, 48, 0, 248, 0, 1020, 0, 0, 0, 16380, 32767, 65535]
theorem r10_Sqrt.tab9 : rtab .any (opsOf Tryz.f33 9) = r10_Sqrt.T9 := by kernel_rfl
theorem r10_Sqrt.bits9 : waitsOk r10_Sqrt.T9.2 r10_Sqrt.B9 = true := by kernel_rfl
set_option maxHeartbeats 8000000 in
set_option maxRecDepth 100000 in
theorem r10_Sqrt.calls (k : Nat) (a0_0 : Int) (a0_1 : Int) (a0_2 : Int) (a0_3 : ByteArray) (r1 : Int) (r2 : Int) (r3 : Int) (r4 : ByteArray) (w : World) (h : r10_Sqrt.f k a0_0 a0_1 a0_2 a0_3 = some (r1, r2, r3, r4)) :
  Calls Tryz.prog 33 #[.agg #[.int .i64 a0_0, .int .u64 a0_1, .int .u64 a0_2, .string a0_3]] w fun e w' => e = .returned (.agg #[.int .i64 r1, .int .u64 r2, .int .u64 r3, .string r4]) ∧ Below w.heap.size w w' := by
 have hu24 := Tryz.underlying24
 have HB := Zs.mk (Below.refl w.heap.size w)
 have H : ((r10_PartType.f a0_0).bind fun t146 => ((r8_Parts.f t146 a0_1).bind fun bt147 => (if bt147.1 = 0 then ((r8_Parts.f t146 a0_2).bind fun bt151 => (r10_Sqrt.j0 k t146 a0_1 a0_2 (bt151.1 == 0) a0_0 a0_1 a0_2 a0_3)) else (r10_Sqrt.j0 k t146 a0_1 a0_2 false a0_0 a0_1 a0_2 a0_3)))) = some (r1, r2, r3, r4) := h
 clear h
 replace H := Option.bind_eq_some_iff.mp H
 obtain ⟨t146, A2, H⟩ := H
 try dsimp only at H
 replace A2 := Zs.mk A2
 have HC3 := Zs.mk H
 clear H
 go_enter Tryz.func33, Tryz.ntmps33
 try go_wp2_with (first | ((with_reducible refine gd_ (N := 1) rfl ?_); refine bxe 1 (cs := #[.int .i64 a0_0, .int .u64 a0_1, .int .u64 a0_2, .string a0_3]) (t := 24) ?_; intro gb144 hg w4 hbox hb; have BK144 := Zs.mk hbox; have GW144 := bsz HB hg; have GE144 := bsz HB hg; replace HB := bls HB hb; clear hb hbox hg) | ((with_reducible refine gd_ (N := 2) rfl ?_); refine bxe 2 (cs := #[.int .i64 0, .int .u64 0, .int .u64 0, .string (⟨#[]⟩ : ByteArray)]) (t := 24) ?_; intro gb145 hg w5 hbox hb; have BK145 := Zs.mk hbox; have GW145 := bsz HB hg; have GE145 := bsz HB hg; have NB144_145 := bnl BK144 hg; have NB145_144 := bng BK144 hg; replace BK144 := bkb BK144 hb; replace HB := bls HB hb; clear hb hbox hg; have hnb6 := NB144_145.out; have hnc6 := NB145_144.out; obtain ⟨hcz7_0, hcz7_1, hcz7_2, hcz7_3, hfz7_0, hfz7_1, hfz7_2, hfz7_3⟩ := cf4 BK144) | ((with_reducible refine gc_ (f := 16) rfl ?_); refine gLc 10 Tryz.func16 (r10_PartType.calls a0_0 t146 _ A2.out) (fun _ h_ => ?_); obtain ⟨nd, rfl⟩ := h_))
 (try (rw [drewN_self w5]; generalize hq_ : World.drewN w5 _ = w5; have n0_ : Zs (w5.heap[gb144]? = some (.cells #[.int .i64 a0_0, .int .u64 a0_1, .int .u64 a0_2, .string a0_3] 24 (0, 0))) := ⟨by rw [← hq_]; exact (bks BK144).out⟩; have n1_ : Zs (w5.heap[gb145]? = some (.cells #[.int .i64 0, .int .u64 0, .int .u64 0, .string (⟨#[]⟩ : ByteArray)] 24 (0, 0))) := ⟨by rw [← hq_]; exact (bks BK145).out⟩; have n2_ : Zs (Below w.heap.size w w5) := ⟨by rw [← hq_]; exact (blt HB).out⟩; clear BK144 BK145 HB hq_; have BK144 := n0_; have BK145 := n1_; have HB := n2_; clear n0_ n1_ n2_))
 replace BK144 := Zs.mk (zd BK144.out)
 replace BK145 := Zs.mk (zd BK145.out)
 replace HB := Zs.mk (below_drew1 HB.out)
 refine start_ (n := 6) (S := fun w' => w'.cell? ⟨gb144, 0, none⟩ = some (.int .i64 a0_0) ∧ w'.cell? ⟨gb144, 1, none⟩ = some (.int .u64 a0_1) ∧ w'.cell? ⟨gb144, 2, none⟩ = some (.int .u64 a0_2) ∧ w'.cell? ⟨gb144, 3, none⟩ = some (.string a0_3)) (ds := []) #[false, false, false, false, false, false] (by kernel_rfl) rfl rfl (cf4c BK144) (fun hHeld => ?_)
 generalize w5.drew = w8 at BK144 BK145 HB hHeld ⊢
 refine pure_ (i := 0) (N := some 11) (v := ?_) (a' := ?_) #[true, false, false, false, false, false] rfl rfl (by kernel_rfl) (fun _ _ _ h => h) (Or.inl ⟨by rfl, ?_⟩) ?_ ?_
 rotate_left
 ·intro w'
  go_simp
  with_reducible rfl
 rotate_left
 ·simp only [Act.put, List.setIfInBounds_toArray, List.set_cons_zero, List.set_cons_succ, i64_w, i32_w]
  rfl
 refine pure_ (i := 2) (N := some 13) (v := ?_) (a' := ?_) #[true, false, true, false, false, false] rfl rfl (by kernel_rfl) (fun _ _ _ h => h) (Or.inl ⟨by rfl, ?_⟩) ?_ ?_
 rotate_left
 ·intro w'
  go_simp
  with_reducible rfl
 rotate_left
 ·simp only [Act.put, List.setIfInBounds_toArray, List.set_cons_zero, List.set_cons_succ, i64_w, i32_w]
  rfl
 refine take_ (i := 1) (N := some 12) (v := ?_) (a' := ?_) #[true, true, true, false, false, false] rfl rfl (by kernel_rfl) (fun _ _ _ h => h) (Or.inl ⟨by rfl, ?_⟩) hHeld ?_ ?_
 rotate_left
 ·rintro w' ⟨s0, s1, s2, s3⟩
  go_simp
  with_reducible rfl
 rotate_left
 ·simp only [Act.put, List.setIfInBounds_toArray, List.set_cons_zero, List.set_cons_succ, i64_w, i32_w]
  rfl
 refine pure_ (i := 4) (N := some 4) (v := ?_) (a' := ?_) #[true, true, true, false, true, false] rfl rfl (by kernel_rfl) (fun _ _ _ h => h) (Or.inl ⟨by rfl, ?_⟩) ?_ ?_
 rotate_left
 ·intro w'
  go_simp
  with_reducible rfl
 rotate_left
 ·simp only [Act.put, List.setIfInBounds_toArray, List.set_cons_zero, List.set_cons_succ, i64_w, i32_w]
  rfl
 refine take_ (i := 3) (N := some 14) (v := ?_) (a' := ?_) #[true, true, true, true, true, false] rfl rfl (by kernel_rfl) (fun _ _ _ h => h) (Or.inl ⟨by rfl, ?_⟩) hHeld ?_ ?_
 rotate_left
 ·rintro w' ⟨s0, s1, s2, s3⟩
  go_simp
  with_reducible rfl
 rotate_left
 ·simp only [Act.put, List.setIfInBounds_toArray, List.set_cons_zero, List.set_cons_succ, i64_w, i32_w]
  rfl
 refine pure_ (i := 5) (N := some 5) (v := ?_) (a' := ?_) #[true, true, true, true, true, true] rfl rfl (by kernel_rfl) (fun _ _ _ h => h) (Or.inl ⟨by rfl, ?_⟩) ?_ ?_
 rotate_left
 ·intro w'
  go_simp
  with_reducible rfl
 rotate_left
 ·simp only [Act.put, List.setIfInBounds_toArray, List.set_cons_zero, List.set_cons_succ, i64_w, i32_w]
  rfl
 refine done_ (by kernel_rfl) ?_
 go_upto_region 3 with (fail)
 go_cut [26] (fun v26 wc => ∃ (kq : Nat) (x26_2 : Bool), v26 = .bool x26_2 ∧ Zs (r10_Sqrt.j0 kq t146 a0_1 a0_2 x26_2 a0_0 a0_1 a0_2 a0_3 = some (r1, r2, r3, r4)) ∧ Zs (kq ≤ k) ∧ Zs (wc.heap[gb144]? = some (.cells #[.int .i64 a0_0, .int .u64 a0_1, .int .u64 a0_2, .string a0_3] 24 (0, 0))) ∧ Zs (wc.heap[gb145]? = some (.cells #[.int .i64 0, .int .u64 0, .int .u64 0, .string (⟨#[]⟩ : ByteArray)] 24 (0, 0))) ∧ Zs (Below w.heap.size w wc))
 case first =>
  have H := HC3.out
  clear HC3
  replace H := Option.bind_eq_some_iff.mp H
  obtain ⟨⟨t147, t148, t149, t150⟩, A9, H⟩ := H
  try dsimp only at H
  replace A9 := Zs.mk A9
  by_cases c10 : t147 = 0
  ·rw [if_pos c10] at H
   have c10b0 : (t147 == 0) = true := beq_iff_eq.mpr c10
   have c10b1 : (t147 != 0) = false := bne_eq_false_iff_eq.mpr c10
   clear c10
   (first | rw [c10b0] | (simp only [i64_w, i32_w]; rw [c10b0]) | skip)
   replace H := Option.bind_eq_some_iff.mp H
   obtain ⟨⟨t151, t152, t153, t154⟩, A11, H⟩ := H
   try dsimp only at H
   replace A11 := Zs.mk A11
   have H' := Zs.mk H
   clear H
   go_wp2_with (first | ((with_reducible refine gc_ (f := 21) rfl ?_); refine gLc 17 Tryz.func21 (r8_Parts.calls t146 a0_1 t147 t148 t149 t150 _ A9.out) (fun w12 hb => ?_); replace BK144 := bkb BK144 hb; replace BK145 := bkb BK145 hb; replace HB := bls HB hb; clear hb) | (go_at_call 21; (with_reducible refine (r8_Parts.calls t146 a0_2 t151 t152 t153 t154 _ A11.out).mono ?_); rintro e w13 ⟨rfl, hb⟩; replace BK144 := bkb BK144 hb; replace BK145 := bkb BK145 hb; replace HB := bls HB hb; clear hb))
   go_meet
   case rel => exact ⟨_, ((t151 == 0)), (by first | rfl | (simp; done) | (simp [*]; done)), H', ⟨by first | omega | exact Nat.le_refl _⟩, bks BK144, bks BK145, blt HB⟩
  ·rw [if_neg c10] at H
   have c10b0 : (t147 == 0) = false := beq_eq_false_iff_ne.mpr c10
   have c10b1 : (t147 != 0) = true := bne_iff_ne.mpr c10
   (first | rw [c10b0] | (simp only [i64_w, i32_w]; rw [c10b0]) | skip)
   have H' := Zs.mk H
   clear H
   go_wp2_with (first | ((with_reducible refine gc_ (f := 21) rfl ?_); refine gLc 17 Tryz.func21 (r8_Parts.calls t146 a0_1 t147 t148 t149 t150 _ A9.out) (fun w14 hb => ?_); replace BK144 := bkb BK144 hb; replace BK145 := bkb BK145 hb; replace HB := bls HB hb; clear hb))
   go_meet
   case rel => exact ⟨_, (false), (by first | rfl | (simp; done) | (simp [*]; done)), H', ⟨by first | omega | exact Nat.le_refl _⟩, bks BK144, bks BK145, blt HB⟩
 case rest =>
  clear HC3
  try clear c1
  try clear c2
  try clear p2
  try clear c3
  try clear c6
  try clear c10
  try clear c10b0
  try clear c10b1
  try clear hcz7_0
  try clear hcz7_1
  try clear hcz7_2
  try clear hcz7_3
  try clear hfz7_0
  try clear hfz7_1
  try clear hfz7_2
  try clear hfz7_3
  obtain ⟨kq, x26_2, rfl, HA, HJ2, BK144, BK145, HB⟩ := hcut
  cases kq with
  | zero => exact absurd HA.out (by simp [r10_Sqrt.j0])
  | succ kj2 =>
   have H := HA.out
   clear HA
   simp only [r10_Sqrt.j0] at H
   by_cases c15 : x26_2 = true
   ·subst c15
    have H1 : ((r10_Made.f a0_0 0 a0_2).bind fun bt155 => (some (bt155.1, bt155.2.1, bt155.2.2.1, bt155.2.2.2))) = some (r1, r2, r3, r4) := by first | (rw [if_pos rfl] at H; exact H) | rfl
    clear H
    have H := H1
    clear H1
    replace H := Option.bind_eq_some_iff.mp H
    obtain ⟨⟨t155, t156, t157, t158⟩, A16, H⟩ := H
    try dsimp only at H
    replace A16 := Zs.mk A16
    simp only [Option.some.injEq, Prod.mk.injEq] at H
    obtain ⟨rfl, rfl, rfl, rfl⟩ := H
    have hnb17 := NB144_145.out
    have hnc17 := NB145_144.out
    obtain ⟨hcz18_0, hcz18_1, hcz18_2, hcz18_3, hfz18_0, hfz18_1, hfz18_2, hfz18_3⟩ := cf4 BK144
    go_wp2_with (first | ((with_reducible refine gc_ (f := 18) rfl ?_); refine gLc 30 Tryz.func18 (r10_Made.calls a0_0 0 a0_2 t155 t156 t157 t158 _ A16.out) (fun w19 hb => ?_); replace BK144 := bkb BK144 hb; replace BK145 := bkb BK145 hb; replace HB := bls HB hb; clear hb; obtain ⟨hcz20_0, hcz20_1, hcz20_2, hcz20_3, hfz20_0, hfz20_1, hfz20_2, hfz20_3⟩ := cf4 BK145))
    refine bodyPost_ret (results_cell_row rfl _ _ gb145 24 #[.int .i64 t155, .int .u64 t156, .int .u64 t157, .string t158] (0, 0) _ rfl (by (with_reducible repeat (first | refine zn ?_ _ | refine zd ?_ | refine za ?_ _)); apply bp4; (with_reducible repeat (first | refine zn ?_ _ | refine zd ?_ | refine za ?_ _)); exact BK145.out) Tryz.underlying24 rfl (by kernel_rfl)) rfl ?_
    exact fin_ (blt HB)
   ·replace c15 := Bool.eq_false_iff.mpr c15
    subst c15
    have H1 : ((r8_FromInteger.f t146 1).bind fun t159 => ((r8_FromInteger.f t146 2).bind fun t160 => ((r8_Div.f t146 t159 t160).bind fun t161 => ((r8_Sized.f t146 a0_1).bind fun t162 => ((r10_Size.f kj2 a0_0 a0_1 a0_2 a0_3).bind fun t163 => ((r8_Add.f t146 t162 t163).bind fun t164 => ((r8_Mul.f t146 t164 t161).bind fun t165 => ((r8_Sqrt.f t146 t165).bind fun t166 => ((r8_Compare.f t146 a0_1 0).bind fun t167 => (if t167 = (-1) then ((r8_Sized.f t146 a0_2).bind fun t174 => ((r8_Div.f t146 t174 t166).bind fun t175 => ((r8_Mul.f t146 t175 t161).bind fun t176 => ((r8_Apply.f 4 t146 t166 a0_2).bind fun t177 => ((r10_Made.f a0_0 t176 t177).bind fun bt178 => (some (bt178.1, bt178.2.1, bt178.2.2.1, bt178.2.2.2))))))) else ((r8_Div.f t146 a0_2 t166).bind fun t168 => ((r8_Mul.f t146 t168 t161).bind fun t169 => ((r10_Made.f a0_0 t166 t169).bind fun bt170 => (some (bt170.1, bt170.2.1, bt170.2.2.1, bt170.2.2.2))))))))))))))) = some (r1, r2, r3, r4) := by first | (rw [if_neg (show ¬ (false = true) by decide)] at H; exact H) | rfl
    clear H
    have H := H1
    clear H1
    replace H := Option.bind_eq_some_iff.mp H
    obtain ⟨t159, A21, H⟩ := H
    try dsimp only at H
    replace A21 := Zs.mk A21
    replace H := Option.bind_eq_some_iff.mp H
    obtain ⟨t160, A22, H⟩ := H
    try dsimp only at H
    replace A22 := Zs.mk A22
    replace H := Option.bind_eq_some_iff.mp H
    obtain ⟨t161, A23, H⟩ := H
    try dsimp only at H
    replace A23 := Zs.mk A23
    replace H := Option.bind_eq_some_iff.mp H
    obtain ⟨t162, A24, H⟩ := H
    try dsimp only at H
    replace A24 := Zs.mk A24
    replace H := Option.bind_eq_some_iff.mp H
    obtain ⟨t163, A25, H⟩ := H
    try dsimp only at H
    replace A25 := Zs.mk A25
    replace H := Option.bind_eq_some_iff.mp H
    obtain ⟨t164, A26, H⟩ := H
    try dsimp only at H
    replace A26 := Zs.mk A26
    replace H := Option.bind_eq_some_iff.mp H
    obtain ⟨t165, A27, H⟩ := H
    try dsimp only at H
    replace A27 := Zs.mk A27
    replace H := Option.bind_eq_some_iff.mp H
    obtain ⟨t166, A28, H⟩ := H
    try dsimp only at H
    replace A28 := Zs.mk A28
    replace H := Option.bind_eq_some_iff.mp H
    obtain ⟨t167, A29, H⟩ := H
    try dsimp only at H
    replace A29 := Zs.mk A29
    by_cases c30 : t167 = (-1)
    ·rw [if_pos c30] at H
     have c30b0 : (t167 == (-1)) = true := beq_iff_eq.mpr c30
     have c30b1 : (t167 != (-1)) = false := bne_eq_false_iff_eq.mpr c30
     clear c30
     replace H := Option.bind_eq_some_iff.mp H
     obtain ⟨t174, A31, H⟩ := H
     try dsimp only at H
     replace A31 := Zs.mk A31
     replace H := Option.bind_eq_some_iff.mp H
     obtain ⟨t175, A32, H⟩ := H
     try dsimp only at H
     replace A32 := Zs.mk A32
     replace H := Option.bind_eq_some_iff.mp H
     obtain ⟨t176, A33, H⟩ := H
     try dsimp only at H
     replace A33 := Zs.mk A33
     replace H := Option.bind_eq_some_iff.mp H
     obtain ⟨t177, A34, H⟩ := H
     try dsimp only at H
     replace A34 := Zs.mk A34
     replace H := Option.bind_eq_some_iff.mp H
     obtain ⟨⟨t178, t179, t180, t181⟩, A35, H⟩ := H
     try dsimp only at H
     replace A35 := Zs.mk A35
     simp only [Option.some.injEq, Prod.mk.injEq] at H
     obtain ⟨rfl, rfl, rfl, rfl⟩ := H
     try go_wp2_with (first | ((with_reducible refine gc_ (f := 23) rfl ?_); refine gLc 33 Tryz.func23 (r8_FromInteger.calls t146 1 t159 _ A21.out) (fun w36 hb => ?_); replace BK144 := bkb BK144 hb; replace BK145 := bkb BK145 hb; replace HB := bls HB hb; clear hb) | ((with_reducible refine gc_ (f := 23) rfl ?_); refine gLc 35 Tryz.func23 (r8_FromInteger.calls t146 2 t160 _ A22.out) (fun w37 hb => ?_); replace BK144 := bkb BK144 hb; replace BK145 := bkb BK145 hb; replace HB := bls HB hb; clear hb) | ((with_reducible refine gc_ (f := 66) rfl ?_); refine gLc 36 Tryz.func66 (r8_Div.calls t146 t159 t160 t161 _ A23.out) (fun w38 hb => ?_); replace BK144 := bkb BK144 hb; replace BK145 := bkb BK145 hb; replace HB := bls HB hb; clear hb))
     replace BK144 := Zs.mk (zd BK144.out)
     replace BK145 := Zs.mk (zd BK145.out)
     replace HB := Zs.mk (below_drew1 HB.out)
     refine start_ (n := 13) (S := fun w' => w'.cell? ⟨gb144, 0, none⟩ = some (.int .i64 a0_0) ∧ w'.cell? ⟨gb144, 1, none⟩ = some (.int .u64 a0_1) ∧ w'.cell? ⟨gb144, 2, none⟩ = some (.int .u64 a0_2) ∧ w'.cell? ⟨gb144, 3, none⟩ = some (.string a0_3)) (ds := []) #[false, false, false, false, false, false, false, false, false, false, false, false, false] (by kernel_rfl) rfl rfl (cf4c BK144) (fun hHeld => ?_); refine with_tabW r10_Sqrt.tab6 r10_Sqrt.bits6 (fun HT_ HW_ => ?_)
     generalize w38.drew = w39 at BK144 BK145 HB hHeld ⊢
     refine pu 0 37 HT_ ?_
     refine pu 1 38 HT_ ?_
     refine pu 2 39 HT_ ?_
     refine pu 3 40 HT_ ?_
     refine pu 4 41 HT_ ?_
     refine pu 9 46 HT_ ?_
     refine tk 6 43 HT_ HW_ hHeld ?_
     refine on 5 42 HT_ (fun K hK => ?_)
     refine gsc Tryz.func84 (r8_Sized.calls t146 a0_1 t162 _ A24.out) (fun w40 hb => ?_)
     replace BK144 := bkb BK144 hb
     replace BK145 := bkb BK145 hb
     replace HB := bls HB hb
     (try clear hb)
     (try clear hb2)
     (try clear hk)
     (try clear hi)
     refine hK.out _ _ (cf4c BK144) (fun hHeld => ?_)
     clear hK K
     refine nm 42 ?_
     refine on 7 44 HT_ (fun K hK => ?_)
     refine gsc Tryz.func32 (r10_Size.calls kj2 a0_0 a0_1 a0_2 a0_3 t163 _ A25.out) (fun w41 hb => ?_)
     replace BK144 := bkb BK144 hb
     replace BK145 := bkb BK145 hb
     replace HB := bls HB hb
     (try clear hb)
     (try clear hb2)
     (try clear hk)
     (try clear hi)
     refine hK.out _ _ (cf4c BK144) (fun hHeld => ?_)
     clear hK K
     refine nm 44 ?_
     refine on 8 45 HT_ (fun K hK => ?_)
     refine gsc Tryz.func63 (r8_Add.calls t146 t162 t163 t164 _ A26.out) (fun w42 hb => ?_)
     replace BK144 := bkb BK144 hb
     replace BK145 := bkb BK145 hb
     replace HB := bls HB hb
     (try clear hb)
     (try clear hb2)
     (try clear hk)
     (try clear hi)
     refine hK.out _ _ (cf4c BK144) (fun hHeld => ?_)
     clear hK K
     refine nm 45 ?_
     refine on 10 47 HT_ (fun K hK => ?_)
     refine gsc Tryz.func65 (r8_Mul.calls t146 t164 t161 t165 _ A27.out) (fun w43 hb => ?_)
     replace BK144 := bkb BK144 hb
     replace BK145 := bkb BK145 hb
     replace HB := bls HB hb
     (try clear hb)
     (try clear hb2)
     (try clear hk)
     (try clear hi)
     refine hK.out _ _ (cf4c BK144) (fun hHeld => ?_)
     clear hK K
     refine nm 47 ?_
     refine on 11 48 HT_ (fun K hK => ?_)
     refine gsc Tryz.func85 (r8_Sqrt.calls t146 t165 t166 _ A28.out) (fun w44 hb => ?_)
     replace BK144 := bkb BK144 hb
     replace BK145 := bkb BK145 hb
     replace HB := bls HB hb
     (try clear hb)
     (try clear hb2)
     (try clear hk)
     (try clear hi)
     refine hK.out _ _ (cf4c BK144) (fun hHeld => ?_)
     clear hK K
     refine nm 48 ?_
     refine pu 12 7 HT_ ?_
     refine done_ (done_of HT_.out (by kernel_rfl)) ?_
     try go_wp2_with (first | ((with_reducible refine gc_ (f := 62) rfl ?_); refine gLc 51 Tryz.func62 (r8_Compare.calls t146 a0_1 0 t167 _ A29.out) (fun w45 hb => ?_); replace BK144 := bkb BK144 hb; replace BK145 := bkb BK145 hb; replace HB := bls HB hb; clear hb))
     replace BK144 := Zs.mk (zd BK144.out)
     replace BK145 := Zs.mk (zd BK145.out)
     replace HB := Zs.mk (below_drew1 HB.out)
     refine start_ (n := 17) (S := fun w' => w'.cell? ⟨gb144, 0, none⟩ = some (.int .i64 a0_0) ∧ w'.cell? ⟨gb144, 1, none⟩ = some (.int .u64 a0_1) ∧ w'.cell? ⟨gb144, 2, none⟩ = some (.int .u64 a0_2) ∧ w'.cell? ⟨gb144, 3, none⟩ = some (.string a0_3)) (ds := []) #[false, false, false, false, false, false, false, false, false, false, false, false, false, false, false, false, false] (by kernel_rfl) rfl rfl (cf4c BK144) (fun hHeld => ?_); refine with_tabW r10_Sqrt.tab9 r10_Sqrt.bits9 (fun HT_ HW_ => ?_)
     generalize w45.drew = w46 at BK144 BK145 HB hHeld ⊢
     refine pu 0 64 HT_ ?_
     refine pu 2 66 HT_ ?_
     refine pu 3 67 HT_ ?_
     refine pu 4 68 HT_ ?_
     refine pu 5 69 HT_ ?_
     refine pu 7 71 HT_ ?_
     refine pu 9 73 HT_ ?_
     refine pu 11 75 HT_ ?_
     refine pu 12 76 HT_ ?_
     refine pu 13 77 HT_ ?_
     refine tk 1 65 HT_ HW_ hHeld ?_
     refine on 6 70 HT_ (fun K hK => ?_)
     refine gsc Tryz.func84 (r8_Sized.calls t146 a0_2 t174 _ A31.out) (fun w47 hb => ?_)
     replace BK144 := bkb BK144 hb
     replace BK145 := bkb BK145 hb
     replace HB := bls HB hb
     (try clear hb)
     (try clear hb2)
     (try clear hk)
     (try clear hi)
     refine hK.out _ _ (cf4c BK144) (fun hHeld => ?_)
     clear hK K
     refine nm 70 ?_
     refine on 8 72 HT_ (fun K hK => ?_)
     refine gsc Tryz.func66 (r8_Div.calls t146 t174 t166 t175 _ A32.out) (fun w48 hb => ?_)
     replace BK144 := bkb BK144 hb
     replace BK145 := bkb BK145 hb
     replace HB := bls HB hb
     (try clear hb)
     (try clear hb2)
     (try clear hk)
     (try clear hi)
     refine hK.out _ _ (cf4c BK144) (fun hHeld => ?_)
     clear hK K
     refine nm 72 ?_
     refine on 10 74 HT_ (fun K hK => ?_)
     refine gsc Tryz.func65 (r8_Mul.calls t146 t175 t161 t176 _ A33.out) (fun w49 hb => ?_)
     replace BK144 := bkb BK144 hb
     replace BK145 := bkb BK145 hb
     replace HB := bls HB hb
     (try clear hb)
     (try clear hb2)
     (try clear hk)
     (try clear hi)
     refine hK.out _ _ (cf4c BK144) (fun hHeld => ?_)
     clear hK K
     refine nm 74 ?_
     refine on 14 78 HT_ (fun K hK => ?_)
     refine gsc Tryz.func20 (r8_Apply.calls 4 t146 t166 a0_2 t177 _ A34.out) (fun w50 hb => ?_)
     replace BK144 := bkb BK144 hb
     replace BK145 := bkb BK145 hb
     replace HB := bls HB hb
     (try clear hb)
     (try clear hb2)
     (try clear hk)
     (try clear hi)
     refine hK.out _ _ (cf4c BK144) (fun hHeld => ?_)
     clear hK K
     refine nm 78 ?_
     refine on 15 79 HT_ (fun K hK => ?_)
     refine gsc Tryz.func18 (r10_Made.calls a0_0 t176 t177 t178 t179 t180 t181 _ A35.out) (fun w51 hb => ?_)
     replace BK144 := bkb BK144 hb
     replace BK145 := bkb BK145 hb
     replace HB := bls HB hb
     (try clear hb)
     (try clear hb2)
     (try clear hk)
     (try clear hi)
     refine hK.out _ _ (cf4c BK144) (fun hHeld => ?_)
     clear hK K
     refine nm 79 ?_
     refine one_ (i := 16) (N := none) #[true, true, true, true, true, true, true, true, true, true, true, true, true, true, true, true, true] rfl rfl (one_of HT_.out (by kernel_rfl)) (by decide) (fun K hK => ?_)
     have hs52 : w51.cell? ⟨gb145, 0, none⟩ = some (.int .i64 0) := (zc BK145.out 0).trans rfl
     have hfs52 := zf BK145.out 0
     have hns52_0 := NB144_145.out
     have hms52_0 := NB145_144.out
     have hs53 : w51.cell? ⟨gb145, 1, none⟩ = some (.int .u64 0) := (zc BK145.out 1).trans rfl
     have hfs53 := zf BK145.out 1
     have hns53_0 := NB144_145.out
     have hms53_0 := NB145_144.out
     have hs54 : w51.cell? ⟨gb145, 2, none⟩ = some (.int .u64 0) := (zc BK145.out 2).trans rfl
     have hfs54 := zf BK145.out 2
     have hns54_0 := NB144_145.out
     have hms54_0 := NB145_144.out
     have hs55 : w51.cell? ⟨gb145, 3, none⟩ = some (.string (⟨#[]⟩ : ByteArray)) := (zc BK145.out 3).trans rfl
     have hfs55 := zf BK145.out 3
     have hns55_0 := NB144_145.out
     have hms55_0 := NB145_144.out
     refine skip_ (w1 := ?_) (by rfl) rfl ?_ ?_
     rotate_left
     ·go_simp
      rfl
     refine hK.out _ _ ⟨((cell_far (p := ⟨gb145, _, none⟩) NB144_145.out _).trans (((cell_far (p := ⟨gb145, _, none⟩) NB144_145.out _).trans (((cell_far (p := ⟨gb145, _, none⟩) NB144_145.out _).trans (((cell_far (p := ⟨gb145, _, none⟩) NB144_145.out _).trans (hHeld.1)))))))), ((cell_far (p := ⟨gb145, _, none⟩) NB144_145.out _).trans (((cell_far (p := ⟨gb145, _, none⟩) NB144_145.out _).trans (((cell_far (p := ⟨gb145, _, none⟩) NB144_145.out _).trans (((cell_far (p := ⟨gb145, _, none⟩) NB144_145.out _).trans (hHeld.2.1)))))))), ((cell_far (p := ⟨gb145, _, none⟩) NB144_145.out _).trans (((cell_far (p := ⟨gb145, _, none⟩) NB144_145.out _).trans (((cell_far (p := ⟨gb145, _, none⟩) NB144_145.out _).trans (((cell_far (p := ⟨gb145, _, none⟩) NB144_145.out _).trans (hHeld.2.2.1)))))))), ((cell_far (p := ⟨gb145, _, none⟩) NB144_145.out _).trans (((cell_far (p := ⟨gb145, _, none⟩) NB144_145.out _).trans (((cell_far (p := ⟨gb145, _, none⟩) NB144_145.out _).trans (((cell_far (p := ⟨gb145, _, none⟩) NB144_145.out _).trans (hHeld.2.2.2))))))))⟩ (fun hHeld => ?_)
     clear hK K
     refine done_ (done_of HT_.out (by kernel_rfl)) ?_
     try go_wp2
     refine bodyPost_ret (results_cell_row rfl _ _ gb145 24 #[.int .i64 t178, .int .u64 t179, .int .u64 t180, .string t181] (0, 0) _ rfl (by (with_reducible repeat (first | refine zn ?_ _ | refine zd ?_ | refine za ?_ _)); apply bp4; (with_reducible repeat (first | refine zn ?_ _ | refine zd ?_ | refine za ?_ _)); exact BK145.out) Tryz.underlying24 rfl (by kernel_rfl)) rfl ?_
     exact fin_ (blt HB)
    ·rw [if_neg c30] at H
     have c30b0 : (t167 == (-1)) = false := beq_eq_false_iff_ne.mpr c30
     have c30b1 : (t167 != (-1)) = true := bne_iff_ne.mpr c30
     replace H := Option.bind_eq_some_iff.mp H
     obtain ⟨t168, A56, H⟩ := H
     try dsimp only at H
     replace A56 := Zs.mk A56
     replace H := Option.bind_eq_some_iff.mp H
     obtain ⟨t169, A57, H⟩ := H
     try dsimp only at H
     replace A57 := Zs.mk A57
     replace H := Option.bind_eq_some_iff.mp H
     obtain ⟨⟨t170, t171, t172, t173⟩, A58, H⟩ := H
     try dsimp only at H
     replace A58 := Zs.mk A58
     simp only [Option.some.injEq, Prod.mk.injEq] at H
     obtain ⟨rfl, rfl, rfl, rfl⟩ := H
     try go_wp2_with (first | ((with_reducible refine gc_ (f := 23) rfl ?_); refine gLc 33 Tryz.func23 (r8_FromInteger.calls t146 1 t159 _ A21.out) (fun w59 hb => ?_); replace BK144 := bkb BK144 hb; replace BK145 := bkb BK145 hb; replace HB := bls HB hb; clear hb) | ((with_reducible refine gc_ (f := 23) rfl ?_); refine gLc 35 Tryz.func23 (r8_FromInteger.calls t146 2 t160 _ A22.out) (fun w60 hb => ?_); replace BK144 := bkb BK144 hb; replace BK145 := bkb BK145 hb; replace HB := bls HB hb; clear hb) | ((with_reducible refine gc_ (f := 66) rfl ?_); refine gLc 36 Tryz.func66 (r8_Div.calls t146 t159 t160 t161 _ A23.out) (fun w61 hb => ?_); replace BK144 := bkb BK144 hb; replace BK145 := bkb BK145 hb; replace HB := bls HB hb; clear hb))
     replace BK144 := Zs.mk (zd BK144.out)
     replace BK145 := Zs.mk (zd BK145.out)
     replace HB := Zs.mk (below_drew1 HB.out)
     refine start_ (n := 13) (S := fun w' => w'.cell? ⟨gb144, 0, none⟩ = some (.int .i64 a0_0) ∧ w'.cell? ⟨gb144, 1, none⟩ = some (.int .u64 a0_1) ∧ w'.cell? ⟨gb144, 2, none⟩ = some (.int .u64 a0_2) ∧ w'.cell? ⟨gb144, 3, none⟩ = some (.string a0_3)) (ds := []) #[false, false, false, false, false, false, false, false, false, false, false, false, false] (by kernel_rfl) rfl rfl (cf4c BK144) (fun hHeld => ?_); refine with_tabW r10_Sqrt.tab6 r10_Sqrt.bits6 (fun HT_ HW_ => ?_)
     generalize w61.drew = w62 at BK144 BK145 HB hHeld ⊢
     refine pu 0 37 HT_ ?_
     refine pu 1 38 HT_ ?_
     refine pu 2 39 HT_ ?_
     refine pu 3 40 HT_ ?_
     refine pu 4 41 HT_ ?_
     refine pu 9 46 HT_ ?_
     refine tk 6 43 HT_ HW_ hHeld ?_
     refine on 5 42 HT_ (fun K hK => ?_)
     refine gsc Tryz.func84 (r8_Sized.calls t146 a0_1 t162 _ A24.out) (fun w63 hb => ?_)
     replace BK144 := bkb BK144 hb
     replace BK145 := bkb BK145 hb
     replace HB := bls HB hb
     (try clear hb)
     (try clear hb2)
     (try clear hk)
     (try clear hi)
     refine hK.out _ _ (cf4c BK144) (fun hHeld => ?_)
     clear hK K
     refine nm 42 ?_
     refine on 7 44 HT_ (fun K hK => ?_)
     refine gsc Tryz.func32 (r10_Size.calls kj2 a0_0 a0_1 a0_2 a0_3 t163 _ A25.out) (fun w64 hb => ?_)
     replace BK144 := bkb BK144 hb
     replace BK145 := bkb BK145 hb
     replace HB := bls HB hb
     (try clear hb)
     (try clear hb2)
     (try clear hk)
     (try clear hi)
     refine hK.out _ _ (cf4c BK144) (fun hHeld => ?_)
     clear hK K
     refine nm 44 ?_
     refine on 8 45 HT_ (fun K hK => ?_)
     refine gsc Tryz.func63 (r8_Add.calls t146 t162 t163 t164 _ A26.out) (fun w65 hb => ?_)
     replace BK144 := bkb BK144 hb
     replace BK145 := bkb BK145 hb
     replace HB := bls HB hb
     (try clear hb)
     (try clear hb2)
     (try clear hk)
     (try clear hi)
     refine hK.out _ _ (cf4c BK144) (fun hHeld => ?_)
     clear hK K
     refine nm 45 ?_
     refine on 10 47 HT_ (fun K hK => ?_)
     refine gsc Tryz.func65 (r8_Mul.calls t146 t164 t161 t165 _ A27.out) (fun w66 hb => ?_)
     replace BK144 := bkb BK144 hb
     replace BK145 := bkb BK145 hb
     replace HB := bls HB hb
     (try clear hb)
     (try clear hb2)
     (try clear hk)
     (try clear hi)
     refine hK.out _ _ (cf4c BK144) (fun hHeld => ?_)
     clear hK K
     refine nm 47 ?_
     refine on 11 48 HT_ (fun K hK => ?_)
     refine gsc Tryz.func85 (r8_Sqrt.calls t146 t165 t166 _ A28.out) (fun w67 hb => ?_)
     replace BK144 := bkb BK144 hb
     replace BK145 := bkb BK145 hb
     replace HB := bls HB hb
     (try clear hb)
     (try clear hb2)
     (try clear hk)
     (try clear hi)
     refine hK.out _ _ (cf4c BK144) (fun hHeld => ?_)
     clear hK K
     refine nm 48 ?_
     refine pu 12 7 HT_ ?_
     refine done_ (done_of HT_.out (by kernel_rfl)) ?_
     try go_wp2_with (first | ((with_reducible refine gc_ (f := 62) rfl ?_); refine gLc 51 Tryz.func62 (r8_Compare.calls t146 a0_1 0 t167 _ A29.out) (fun w68 hb => ?_); replace BK144 := bkb BK144 hb; replace BK145 := bkb BK145 hb; replace HB := bls HB hb; clear hb))
     replace BK144 := Zs.mk (zd BK144.out)
     replace BK145 := Zs.mk (zd BK145.out)
     replace HB := Zs.mk (below_drew1 HB.out)
     refine start_ (n := 12) (S := fun w' => w'.cell? ⟨gb144, 0, none⟩ = some (.int .i64 a0_0) ∧ w'.cell? ⟨gb144, 1, none⟩ = some (.int .u64 a0_1) ∧ w'.cell? ⟨gb144, 2, none⟩ = some (.int .u64 a0_2) ∧ w'.cell? ⟨gb144, 3, none⟩ = some (.string a0_3)) (ds := []) #[false, false, false, false, false, false, false, false, false, false, false, false] (by kernel_rfl) rfl rfl (cf4c BK144) (fun hHeld => ?_); refine with_tabW r10_Sqrt.tab8 r10_Sqrt.bits8 (fun HT_ HW_ => ?_)
     generalize w68.drew = w69 at BK144 BK145 HB hHeld ⊢
     refine pu 0 53 HT_ ?_
     refine pu 2 55 HT_ ?_
     refine pu 3 56 HT_ ?_
     refine pu 4 57 HT_ ?_
     refine pu 5 58 HT_ ?_
     refine pu 6 59 HT_ ?_
     refine pu 8 61 HT_ ?_
     refine tk 1 54 HT_ HW_ hHeld ?_
     refine on 7 60 HT_ (fun K hK => ?_)
     refine gsc Tryz.func66 (r8_Div.calls t146 a0_2 t166 t168 _ A56.out) (fun w70 hb => ?_)
     replace BK144 := bkb BK144 hb
     replace BK145 := bkb BK145 hb
     replace HB := bls HB hb
     (try clear hb)
     (try clear hb2)
     (try clear hk)
     (try clear hi)
     refine hK.out _ _ (cf4c BK144) (fun hHeld => ?_)
     clear hK K
     refine nm 60 ?_
     refine on 9 62 HT_ (fun K hK => ?_)
     refine gsc Tryz.func65 (r8_Mul.calls t146 t168 t161 t169 _ A57.out) (fun w71 hb => ?_)
     replace BK144 := bkb BK144 hb
     replace BK145 := bkb BK145 hb
     replace HB := bls HB hb
     (try clear hb)
     (try clear hb2)
     (try clear hk)
     (try clear hi)
     refine hK.out _ _ (cf4c BK144) (fun hHeld => ?_)
     clear hK K
     refine nm 62 ?_
     refine on 10 63 HT_ (fun K hK => ?_)
     refine gsc Tryz.func18 (r10_Made.calls a0_0 t166 t169 t170 t171 t172 t173 _ A58.out) (fun w72 hb => ?_)
     replace BK144 := bkb BK144 hb
     replace BK145 := bkb BK145 hb
     replace HB := bls HB hb
     (try clear hb)
     (try clear hb2)
     (try clear hk)
     (try clear hi)
     refine hK.out _ _ (cf4c BK144) (fun hHeld => ?_)
     clear hK K
     refine nm 63 ?_
     refine one_ (i := 11) (N := none) #[true, true, true, true, true, true, true, true, true, true, true, true] rfl rfl (one_of HT_.out (by kernel_rfl)) (by decide) (fun K hK => ?_)
     have hs73 : w72.cell? ⟨gb145, 0, none⟩ = some (.int .i64 0) := (zc BK145.out 0).trans rfl
     have hfs73 := zf BK145.out 0
     have hns73_0 := NB144_145.out
     have hms73_0 := NB145_144.out
     have hs74 : w72.cell? ⟨gb145, 1, none⟩ = some (.int .u64 0) := (zc BK145.out 1).trans rfl
     have hfs74 := zf BK145.out 1
     have hns74_0 := NB144_145.out
     have hms74_0 := NB145_144.out
     have hs75 : w72.cell? ⟨gb145, 2, none⟩ = some (.int .u64 0) := (zc BK145.out 2).trans rfl
     have hfs75 := zf BK145.out 2
     have hns75_0 := NB144_145.out
     have hms75_0 := NB145_144.out
     have hs76 : w72.cell? ⟨gb145, 3, none⟩ = some (.string (⟨#[]⟩ : ByteArray)) := (zc BK145.out 3).trans rfl
     have hfs76 := zf BK145.out 3
     have hns76_0 := NB144_145.out
     have hms76_0 := NB145_144.out
     refine skip_ (w1 := ?_) (by rfl) rfl ?_ ?_
     rotate_left
     ·go_simp
      rfl
     refine hK.out _ _ ⟨((cell_far (p := ⟨gb145, _, none⟩) NB144_145.out _).trans (((cell_far (p := ⟨gb145, _, none⟩) NB144_145.out _).trans (((cell_far (p := ⟨gb145, _, none⟩) NB144_145.out _).trans (((cell_far (p := ⟨gb145, _, none⟩) NB144_145.out _).trans (hHeld.1)))))))), ((cell_far (p := ⟨gb145, _, none⟩) NB144_145.out _).trans (((cell_far (p := ⟨gb145, _, none⟩) NB144_145.out _).trans (((cell_far (p := ⟨gb145, _, none⟩) NB144_145.out _).trans (((cell_far (p := ⟨gb145, _, none⟩) NB144_145.out _).trans (hHeld.2.1)))))))), ((cell_far (p := ⟨gb145, _, none⟩) NB144_145.out _).trans (((cell_far (p := ⟨gb145, _, none⟩) NB144_145.out _).trans (((cell_far (p := ⟨gb145, _, none⟩) NB144_145.out _).trans (((cell_far (p := ⟨gb145, _, none⟩) NB144_145.out _).trans (hHeld.2.2.1)))))))), ((cell_far (p := ⟨gb145, _, none⟩) NB144_145.out _).trans (((cell_far (p := ⟨gb145, _, none⟩) NB144_145.out _).trans (((cell_far (p := ⟨gb145, _, none⟩) NB144_145.out _).trans (((cell_far (p := ⟨gb145, _, none⟩) NB144_145.out _).trans (hHeld.2.2.2))))))))⟩ (fun hHeld => ?_)
     clear hK K
     refine done_ (done_of HT_.out (by kernel_rfl)) ?_
     try go_wp2
     refine bodyPost_ret (results_cell_row rfl _ _ gb145 24 #[.int .i64 t170, .int .u64 t171, .int .u64 t172, .string t173] (0, 0) _ rfl (by (with_reducible repeat (first | refine zn ?_ _ | refine zd ?_ | refine za ?_ _)); apply bp4; (with_reducible repeat (first | refine zn ?_ _ | refine zd ?_ | refine za ?_ _)); exact BK145.out) Tryz.underlying24 rfl (by kernel_rfl)) rfl ?_
     exact fin_ (blt HB)
end Go.Proofs.YtmoimcblmmcffaaGreat.PLO

namespace Go.Proofs.YtmoimcblmmcffaaGreat.PLO
open Go.RowKit Go.Proofs.YtmoimcblmmcffaaGreat.PPC Go.Proofs.YtmoimcblmmcffaaGreat.PRA Go.Proofs.YtmoimcblmmcffaaGreat.PN Go.Proofs.YtmoimcblmmcffaaGreatW.PrintWords Go.Proofs.YtmoimcblmmcffaaGreatW.PrintLast Go.Proofs.YtmoimcblmmcffaaGreatW.PrintMore Go.Proofs.YtmoimcblmmcffaaGreatW.PrintZ
attribute [local go_sem] max2_int min2_int max_two min_two max_three min_three max_four min_four   -- for this text's walks alone
attribute [local go_sem high] Go.Proofs.YtmoimcblmmcffaaGreat.NC.fld0
set_option linter.unusedVariables false
set_option linter.unusedSimpArgs false
def r7_IsInteger.f (a0 : Int) : Option (Bool) := (bs_Within.f a0 (-2147483648) 2147483647).bind fun t182 => (some t182)
set_option maxHeartbeats 8000000 in
set_option maxRecDepth 100000 in
theorem r7_IsInteger.calls (a0 : Int) (r : Bool) (w : World) (h : r7_IsInteger.f a0 = some r) :
  Calls Tryz.prog 126 #[.int .i64 a0] w fun e w' => e = .returned (.bool r) ∧ Drawn0 w w' := by
 have H : ((bs_Within.f a0 (-2147483648) 2147483647).bind fun t182 => (some t182)) = some r := h
 clear h
 replace H := Option.bind_eq_some_iff.mp H
 obtain ⟨t182, A2, H⟩ := H
 try dsimp only at H
 replace A2 := Zs.mk A2
 obtain rfl := Option.some.inj H
 go_enter Tryz.func126, Tryz.ntmps126
 go_wp2_with (first | ((with_reducible refine gc_ (f := 14) rfl ?_); refine gLc 4 Tryz.func14 (bs_Within.calls a0 (-2147483648) 2147483647 t182 _ A2.out) (fun _ h_ => ?_); obtain ⟨nd, rfl⟩ := h_))
 go_ret
 exact ⟨by first | rfl | (simp; done) | (simp [*]; done), by repeat (first | exact Drawn0.refl _ | apply Drawn0.step)⟩
def r7_NumberErr.f (a0 : Int) : Option (Int) := (r7_IsInteger.f a0).bind fun t183 => (if t183 = true then (some 0) else (some 2))
set_option maxHeartbeats 8000000 in
set_option maxRecDepth 100000 in
theorem r7_NumberErr.calls (a0 : Int) (r : Int) (w : World) (h : r7_NumberErr.f a0 = some r) :
  Calls Tryz.prog 86 #[.int .i64 a0] w fun e w' => e = .returned (.int .i64 r) ∧ Drawn0 w w' := by
 have H : ((r7_IsInteger.f a0).bind fun t183 => (if t183 = true then (some 0) else (some 2))) = some r := h
 clear h
 replace H := Option.bind_eq_some_iff.mp H
 obtain ⟨t183, A2, H⟩ := H
 try dsimp only at H
 replace A2 := Zs.mk A2
 by_cases c3 : t183 = true
 ·subst c3
  rw [if_pos rfl] at H
  obtain rfl := Option.some.inj H
  go_enter Tryz.func86, Tryz.ntmps86
  go_wp2_with (first | ((with_reducible refine gc_ (f := 126) rfl ?_); refine gLc 4 Tryz.func126 (r7_IsInteger.calls a0 true _ A2.out) (fun _ h_ => ?_); obtain ⟨nd, rfl⟩ := h_))
  go_ret
  exact ⟨by first | rfl | (simp; done) | (simp [*]; done), by repeat (first | exact Drawn0.refl _ | apply Drawn0.step)⟩
 ·replace c3 := Bool.eq_false_iff.mpr c3
  subst c3
  rw [if_neg (show ¬ (false = true) by decide)] at H
  obtain rfl := Option.some.inj H
  go_enter Tryz.func86, Tryz.ntmps86
  go_wp2_with (first | ((with_reducible refine gc_ (f := 126) rfl ?_); refine gLc 4 Tryz.func126 (r7_IsInteger.calls a0 false _ A2.out) (fun _ h_ => ?_); obtain ⟨nd, rfl⟩ := h_))
  go_ret
  exact ⟨by first | rfl | (simp; done) | (simp [*]; done), by repeat (first | exact Drawn0.refl _ | apply Drawn0.step)⟩
def r10_NumberErr.f (a0 : Int) : Option (Int) := (r7_NumberErr.f a0).bind fun t184 => (some t184)
set_option maxHeartbeats 8000000 in
set_option maxRecDepth 100000 in
theorem r10_NumberErr.calls (a0 : Int) (r : Int) (w : World) (h : r10_NumberErr.f a0 = some r) :
  Calls Tryz.prog 34 #[.int .i64 a0] w fun e w' => e = .returned (.int .i64 r) ∧ Drawn0 w w' := by
 have H : ((r7_NumberErr.f a0).bind fun t184 => (some t184)) = some r := h
 clear h
 replace H := Option.bind_eq_some_iff.mp H
 obtain ⟨t184, A2, H⟩ := H
 try dsimp only at H
 replace A2 := Zs.mk A2
 obtain rfl := Option.some.inj H
 go_enter Tryz.func34, Tryz.ntmps34
 go_wp2_with (first | ((with_reducible refine gc_ (f := 86) rfl ?_); refine gLc 4 Tryz.func86 (r7_NumberErr.calls a0 t184 _ A2.out) (fun _ h_ => ?_); obtain ⟨nd, rfl⟩ := h_))
 go_ret
 exact ⟨by first | rfl | (simp; done) | (simp [*]; done), by repeat (first | exact Drawn0.refl _ | apply Drawn0.step)⟩
def r10_one.f (a0 : Int) : Option (Int × Int × Int × ByteArray) := (r10_PartType.f a0).bind fun t186 => ((r8_FromInteger.f t186 1).bind fun t187 => ((r10_Made.f a0 t187 0).bind fun bt188 => (some (bt188.1, bt188.2.1, bt188.2.2.1, bt188.2.2.2))))
set_option maxHeartbeats 8000000 in
set_option maxRecDepth 100000 in
theorem r10_one.calls (a0 : Int) (r1 : Int) (r2 : Int) (r3 : Int) (r4 : ByteArray) (w : World) (h : r10_one.f a0 = some (r1, r2, r3, r4)) :
  Calls Tryz.prog 87 #[.int .i64 a0] w fun e w' => e = .returned (.agg #[.int .i64 r1, .int .u64 r2, .int .u64 r3, .string r4]) ∧ Below w.heap.size w w' := by
 have hu24 := Tryz.underlying24
 have HB := Zs.mk (Below.refl w.heap.size w)
 have H : ((r10_PartType.f a0).bind fun t186 => ((r8_FromInteger.f t186 1).bind fun t187 => ((r10_Made.f a0 t187 0).bind fun bt188 => (some (bt188.1, bt188.2.1, bt188.2.2.1, bt188.2.2.2))))) = some (r1, r2, r3, r4) := h
 clear h
 replace H := Option.bind_eq_some_iff.mp H
 obtain ⟨t186, A2, H⟩ := H
 try dsimp only at H
 replace A2 := Zs.mk A2
 replace H := Option.bind_eq_some_iff.mp H
 obtain ⟨t187, A3, H⟩ := H
 try dsimp only at H
 replace A3 := Zs.mk A3
 replace H := Option.bind_eq_some_iff.mp H
 obtain ⟨⟨t188, t189, t190, t191⟩, A4, H⟩ := H
 try dsimp only at H
 replace A4 := Zs.mk A4
 simp only [Option.some.injEq, Prod.mk.injEq] at H
 obtain ⟨rfl, rfl, rfl, rfl⟩ := H
 go_enter Tryz.func87, Tryz.ntmps87
 go_wp2_with (first | ((with_reducible refine gd_ (N := 2) rfl ?_); refine bxe 2 (cs := #[.int .i64 0, .int .u64 0, .int .u64 0, .string (⟨#[]⟩ : ByteArray)]) (t := 24) ?_; intro gb185 hg w5 hbox hb; have BK185 := Zs.mk hbox; have GW185 := bsz HB hg; have GE185 := bsz HB hg; replace HB := bls HB hb; clear hb hbox hg) | ((with_reducible refine gc_ (f := 16) rfl ?_); refine gLc 5 Tryz.func16 (r10_PartType.calls a0 t186 _ A2.out) (fun _ h_ => ?_); obtain ⟨nd, rfl⟩ := h_; (try (rw [drewN_self w5]; generalize hq_ : World.drewN w5 _ = w5; have n0_ : Zs (w5.heap[gb185]? = some (.cells #[.int .i64 0, .int .u64 0, .int .u64 0, .string (⟨#[]⟩ : ByteArray)] 24 (0, 0))) := ⟨by rw [← hq_]; exact (bks BK185).out⟩; have n1_ : Zs (Below w.heap.size w w5) := ⟨by rw [← hq_]; exact (blt HB).out⟩; clear BK185 HB hq_; have BK185 := n0_; have HB := n1_; clear n0_ n1_))) | ((with_reducible refine gc_ (f := 23) rfl ?_); refine gLc 6 Tryz.func23 (r8_FromInteger.calls t186 1 t187 _ A3.out) (fun w6 hb => ?_); replace BK185 := bkb BK185 hb; replace HB := bls HB hb; clear hb) | ((with_reducible refine gc_ (f := 18) rfl ?_); refine gLc 7 Tryz.func18 (r10_Made.calls a0 t187 0 t188 t189 t190 t191 _ A4.out) (fun w7 hb => ?_); replace BK185 := bkb BK185 hb; replace HB := bls HB hb; clear hb; obtain ⟨hcz8_0, hcz8_1, hcz8_2, hcz8_3, hfz8_0, hfz8_1, hfz8_2, hfz8_3⟩ := cf4 BK185))
 refine bodyPost_ret (results_cell_row rfl _ _ gb185 24 #[.int .i64 t188, .int .u64 t189, .int .u64 t190, .string t191] (0, 0) _ rfl (by (with_reducible repeat (first | refine zn ?_ _ | refine zd ?_ | refine za ?_ _)); apply bp4; (with_reducible repeat (first | refine zn ?_ _ | refine zd ?_ | refine za ?_ _)); exact BK185.out) Tryz.underlying24 rfl (by kernel_rfl)) rfl ?_
 exact fin_ (blt HB)
def r10_Power.l0 : Nat → Int → Int → Int → Int → Int → Int → ByteArray → Int → Int → Int → ByteArray → Option (Int × Int × Int × ByteArray)
 | 0, _, _, _, _, _, _, _, _, _, _, _ => none
 | k + 1, x1, x6, x7, x193000, x193001, x193002, x193003, x199000, x199001, x199002, x199003 => if x7 ≥ 0 then ((bs_Power.f k x7).bind fun t200 => (if t200 = 0 then (none) else (if (wrap64 (Int.tdiv x6 t200)) = 0 then (r10_Power.l0 k x1 x6 (wrap64 (x7 - 1)) x193000 x193001 x193002 x193003 x199000 x199001 x199002 x199003) else ((r10_Mul.f x199000 x199001 x199002 x199003 x199000 x199001 x199002 x199003).bind fun bt201 => ((bs_Power.f k x7).bind fun t205 => (if t205 = 0 then (none) else (if (Int.tmod (wrap64 (Int.tdiv x6 t205)) 2) = 1 then ((r10_Mul.f bt201.1 bt201.2.1 bt201.2.2.1 bt201.2.2.2 x193000 x193001 x193002 x193003).bind fun bt206 => (r10_Power.l0 k x1 x6 (wrap64 (x7 - 1)) x193000 x193001 x193002 x193003 bt206.1 bt206.2.1 bt206.2.2.1 bt206.2.2.2)) else (r10_Power.l0 k x1 x6 (wrap64 (x7 - 1)) x193000 x193001 x193002 x193003 bt201.1 bt201.2.1 bt201.2.2.1 bt201.2.2.2)))))))) else (if x1 < 0 then ((r10_one.f x193000).bind fun bt210 => ((r10_Div.f bt210.1 bt210.2.1 bt210.2.2.1 bt210.2.2.2 x199000 x199001 x199002 x199003).bind fun bt214 => (some (bt214.1, bt214.2.1, bt214.2.2.1, bt214.2.2.2)))) else (some (x199000, x199001, x199002, x199003)))
def r10_Power.f (k : Nat) (a0_0 : Int) (a0_1 : Int) (a0_2 : Int) (a0_3 : ByteArray) (a1 : Int) : Option (Int × Int × Int × ByteArray) := (r10_one.f a0_0).bind fun bt194 => ((bs_Size.f a1).bind fun t199 => (r10_Power.l0 k a1 t199 31 a0_0 a0_1 a0_2 a0_3 bt194.1 bt194.2.1 bt194.2.2.1 bt194.2.2.2))
set_option maxHeartbeats 8000000 in
set_option maxRecDepth 100000 in
theorem r10_Power.calls (k : Nat) (a0_0 : Int) (a0_1 : Int) (a0_2 : Int) (a0_3 : ByteArray) (a1 : Int) (r1 : Int) (r2 : Int) (r3 : Int) (r4 : ByteArray) (w : World) (h : r10_Power.f k a0_0 a0_1 a0_2 a0_3 a1 = some (r1, r2, r3, r4)) :
  Calls Tryz.prog 35 #[.agg #[.int .i64 a0_0, .int .u64 a0_1, .int .u64 a0_2, .string a0_3], .int .i64 a1] w fun e w' => e = .returned (.agg #[.int .i64 r1, .int .u64 r2, .int .u64 r3, .string r4]) ∧ Below w.heap.size w w' := by
 have hu24 := Tryz.underlying24
 have HB := Zs.mk (Below.refl w.heap.size w)
 have H : ((r10_one.f a0_0).bind fun bt194 => ((bs_Size.f a1).bind fun t199 => (r10_Power.l0 k a1 t199 31 a0_0 a0_1 a0_2 a0_3 bt194.1 bt194.2.1 bt194.2.2.1 bt194.2.2.2))) = some (r1, r2, r3, r4) := h
 clear h
 replace H := Option.bind_eq_some_iff.mp H
 obtain ⟨⟨t194, t195, t196, t197⟩, A3, H⟩ := H
 try dsimp only at H
 replace A3 := Zs.mk A3
 replace H := Option.bind_eq_some_iff.mp H
 obtain ⟨t199, A4, H⟩ := H
 try dsimp only at H
 replace A4 := Zs.mk A4
 have H' := Zs.mk H
 clear H
 go_enter Tryz.func35, Tryz.ntmps35
 go_wp2_with (first | ((with_reducible refine gd_ (N := 2) rfl ?_); refine bxe 2 (cs := #[.int .i64 a0_0, .int .u64 a0_1, .int .u64 a0_2, .string a0_3]) (t := 24) ?_; intro gb192 hg w5 hbox hb; have BK192 := Zs.mk hbox; have GW192 := bsz HB hg; have GE192 := bsz HB hg; replace HB := bls HB hb; clear hb hbox hg) | ((with_reducible refine gd_ (N := 4) rfl ?_); refine bxe 4 (cs := #[.int .i64 0, .int .u64 0, .int .u64 0, .string (⟨#[]⟩ : ByteArray)]) (t := 24) ?_; intro gb193 hg w6 hbox hb; have BK193 := Zs.mk hbox; have GW193 := bsz HB hg; have GE193 := bsz HB hg; have NB192_193 := bnl BK192 hg; have NB193_192 := bng BK192 hg; replace BK192 := bkb BK192 hb; replace HB := bls HB hb; clear hb hbox hg; have hnb7 := NB192_193.out; have hnc7 := NB193_192.out; obtain ⟨hcz8_0, hcz8_1, hcz8_2, hcz8_3, hfz8_0, hfz8_1, hfz8_2, hfz8_3⟩ := cf4 BK192) | ((with_reducible refine gc_ (f := 87) rfl ?_); refine gLc 10 Tryz.func87 (r10_one.calls a0_0 t194 t195 t196 t197 _ A3.out) (fun w9 hb => ?_); replace BK192 := bkb BK192 hb; replace BK193 := bkb BK193 hb; replace HB := bls HB hb; clear hb) | ((with_reducible refine gd_ (N := 5) rfl ?_); refine bxe 5 (cs := #[.int .i64 0, .int .u64 0, .int .u64 0, .string (⟨#[]⟩ : ByteArray)]) (t := 24) ?_; intro gb198 hg w10 hbox hb; have BK198 := Zs.mk hbox; have GW198 := bsz HB hg; have GE198 := bsz HB hg; have NB192_198 := bnl BK192 hg; have NB198_192 := bng BK192 hg; have NB193_198 := bnl BK193 hg; have NB198_193 := bng BK193 hg; replace BK192 := bkb BK192 hb; replace BK193 := bkb BK193 hb; replace HB := bls HB hb; clear hb hbox hg; have hnb11 := NB198_192.out; have hnc11 := NB192_198.out; have hnb12 := NB198_193.out; have hnc12 := NB193_198.out; obtain ⟨hcz13_0, hcz13_1, hcz13_2, hcz13_3, hfz13_0, hfz13_1, hfz13_2, hfz13_3⟩ := cf4 BK198) | ((with_reducible refine gc_ (f := 76) rfl ?_); refine gLc 12 Tryz.func76 (bs_Size.calls a1 t199 _ A4.out) (fun _ h_ => ?_); obtain ⟨nd, rfl⟩ := h_))
 go_loopg [7] k (fun kq v7 w' => ∃ (x7_1 : Int) (x199000_1 : Int) (x199001_1 : Int) (x199002_1 : Int) (x199003_1 : ByteArray), v7 = .int .i64 x7_1 ∧ Zs (r10_Power.l0 kq a1 t199 x7_1 a0_0 a0_1 a0_2 a0_3 x199000_1 x199001_1 x199002_1 x199003_1 = some (r1, r2, r3, r4)) ∧ Zs (kq ≤ k) ∧ Zs (w'.heap[gb192]? = some (.cells #[.int .i64 a0_0, .int .u64 a0_1, .int .u64 a0_2, .string a0_3] 24 (0, 0))) ∧ Zs (w'.heap[gb193]? = some (.cells #[.int .i64 0, .int .u64 0, .int .u64 0, .string (⟨#[]⟩ : ByteArray)] 24 (0, 0))) ∧ Zs (w'.heap[gb198]? = some (.cells #[.int .i64 x199000_1, .int .u64 x199001_1, .int .u64 x199002_1, .string x199003_1] 24 (0, 0))) ∧ Zs (Below w.heap.size w w'))
 case atStart => exact ⟨(31), (t194), (t195), (t196), (t197), (by first | rfl | (simp; done) | (simp [*]; done)), H', ⟨Nat.le_refl _⟩, bkf BK192, bkf BK193, ⟨by (with_reducible repeat (first | refine zn ?_ _ | refine zd ?_ | refine za ?_ _)); apply bp4; (with_reducible repeat (first | refine zn ?_ _ | refine zd ?_ | refine za ?_ _)); exact BK198.out⟩, blt HB⟩
 case round =>
  clear H'
  try clear c1
  try clear p2
  try clear c3
  try clear c7
  try clear c8
  try clear c11
  try clear c12
  try clear hcz13_0
  try clear hcz13_1
  try clear hcz13_2
  try clear hcz13_3
  try clear hcz8_0
  try clear hcz8_1
  try clear hcz8_2
  try clear hcz8_3
  try clear hfz13_0
  try clear hfz13_1
  try clear hfz13_2
  try clear hfz13_3
  try clear hfz8_0
  try clear hfz8_1
  try clear hfz8_2
  try clear hfz8_3
  obtain ⟨x7_1, x199000_1, x199001_1, x199002_1, x199003_1, rfl, HA, HK1, BK192, BK193, BK198, HB⟩ := hrel
  cases gk with
  | zero => exact absurd HA.out (by simp [r10_Power.l0])
  | succ k1 =>
   have H := HA.out
   clear HA
   simp only [r10_Power.l0] at H
   by_cases c14 : x7_1 ≥ 0
   ·rw [if_pos c14] at H
    have c14b0 : decide (0 ≤ x7_1) = true := decide_eq_true c14
    clear c14
    replace H := Option.bind_eq_some_iff.mp H
    obtain ⟨t200, A15, H⟩ := H
    try dsimp only at H
    replace A15 := Zs.mk A15
    by_cases c16 : t200 = 0
    ·rw [if_pos c16] at H
     exact absurd H (by simp)
    ·rw [if_neg c16] at H
     have c16b0 : (t200 == 0) = false := beq_eq_false_iff_ne.mpr c16
     have c16b1 : (t200 != 0) = true := bne_iff_ne.mpr c16
     by_cases c17 : (wrap64 (Int.tdiv t199 t200)) = 0
     ·rw [if_pos c17] at H
      have c17b0 : ((wrap64 (Int.tdiv t199 t200)) == 0) = true := beq_iff_eq.mpr c17
      have c17b1 : ((wrap64 (Int.tdiv t199 t200)) != 0) = false := bne_eq_false_iff_eq.mpr c17
      clear c17
      have H' := Zs.mk H
      clear H
      go_wp2_with (first | ((with_reducible refine gc_ (f := 71) rfl ?_); refine gLc 19 Tryz.func71 (bs_Power.calls k1 x7_1 t200 _ A15.out) (fun _ h_ => ?_); obtain ⟨nd, rfl⟩ := h_))
      go_roundg k1
      case measure => have := HK1.out; omega
      case rel => exact ⟨(wrap64 (x7_1 - 1)), (x199000_1), (x199001_1), (x199002_1), (x199003_1), (by first | rfl | (simp; done) | (simp [*]; done)), H', ⟨by have := HK1.out; omega⟩, bks BK192, bks BK193, bks BK198, blt HB⟩
     ·rw [if_neg c17] at H
      have c17b0 : ((wrap64 (Int.tdiv t199 t200)) == 0) = false := beq_eq_false_iff_ne.mpr c17
      have c17b1 : ((wrap64 (Int.tdiv t199 t200)) != 0) = true := bne_iff_ne.mpr c17
      replace H := Option.bind_eq_some_iff.mp H
      obtain ⟨⟨t201, t202, t203, t204⟩, A18, H⟩ := H
      try dsimp only at H
      replace A18 := Zs.mk A18
      replace H := Option.bind_eq_some_iff.mp H
      obtain ⟨t205, A19, H⟩ := H
      try dsimp only at H
      replace A19 := Zs.mk A19
      by_cases c20 : t205 = 0
      ·rw [if_pos c20] at H
       exact absurd H (by simp)
      ·rw [if_neg c20] at H
       have c20b0 : (t205 == 0) = false := beq_eq_false_iff_ne.mpr c20
       have c20b1 : (t205 != 0) = true := bne_iff_ne.mpr c20
       by_cases c21 : (Int.tmod (wrap64 (Int.tdiv t199 t205)) 2) = 1
       ·rw [if_pos c21] at H
        have c21b0 : ((Int.tmod (wrap64 (Int.tdiv t199 t205)) 2) == 1) = true := beq_iff_eq.mpr c21
        have c21b1 : ((Int.tmod (wrap64 (Int.tdiv t199 t205)) 2) != 1) = false := bne_eq_false_iff_eq.mpr c21
        clear c21
        replace H := Option.bind_eq_some_iff.mp H
        obtain ⟨⟨t206, t207, t208, t209⟩, A22, H⟩ := H
        try dsimp only at H
        replace A22 := Zs.mk A22
        have H' := Zs.mk H
        clear H
        go_wp2_with (first | ((with_reducible refine gc_ (f := 71) rfl ?_); refine gLc 19 Tryz.func71 (bs_Power.calls k1 x7_1 t200 _ A15.out) (fun _ h_ => ?_); obtain ⟨nd, rfl⟩ := h_; (try (rw [drewN_self wr]; generalize hq_ : World.drewN wr _ = wr; have n0_ : Zs (wr.heap[gb192]? = some (.cells #[.int .i64 a0_0, .int .u64 a0_1, .int .u64 a0_2, .string a0_3] 24 (0, 0))) := ⟨by rw [← hq_]; exact (bks BK192).out⟩; have n1_ : Zs (wr.heap[gb193]? = some (.cells #[.int .i64 0, .int .u64 0, .int .u64 0, .string (⟨#[]⟩ : ByteArray)] 24 (0, 0))) := ⟨by rw [← hq_]; exact (bks BK193).out⟩; have n2_ : Zs (wr.heap[gb198]? = some (.cells #[.int .i64 x199000_1, .int .u64 x199001_1, .int .u64 x199002_1, .string x199003_1] 24 (0, 0))) := ⟨by rw [← hq_]; exact (bks BK198).out⟩; have n3_ : Zs (Below w.heap.size w wr) := ⟨by rw [← hq_]; exact (blt HB).out⟩; clear BK192 BK193 BK198 HB hq_; have BK192 := n0_; have BK193 := n1_; have BK198 := n2_; have HB := n3_; clear n0_ n1_ n2_ n3_)); have hnb23 := NB198_192.out; have hnc23 := NB192_198.out; have hnb24 := NB198_193.out; have hnc24 := NB193_198.out; obtain ⟨hcz25_0, hcz25_1, hcz25_2, hcz25_3, hfz25_0, hfz25_1, hfz25_2, hfz25_3⟩ := cf4 BK198) | ((with_reducible refine gc_ (f := 60) rfl ?_); refine gLc 24 Tryz.func60 (r10_Mul.calls x199000_1 x199001_1 x199002_1 x199003_1 x199000_1 x199001_1 x199002_1 x199003_1 t201 t202 t203 t204 _ A18.out) (fun w26 hb => ?_); replace BK192 := bkb BK192 hb; replace BK193 := bkb BK193 hb; replace BK198 := bkb BK198 hb; replace HB := bls HB hb; clear hb; obtain ⟨hcz27_0, hcz27_1, hcz27_2, hcz27_3, hfz27_0, hfz27_1, hfz27_2, hfz27_3⟩ := cf4 BK198) | ((with_reducible refine gc_ (f := 71) rfl ?_); refine gLc 27 Tryz.func71 (bs_Power.calls k1 x7_1 t205 _ A19.out) (fun _ h_ => ?_); obtain ⟨nd, rfl⟩ := h_; have hnb28 := NB192_193.out; have hnc28 := NB193_192.out; obtain ⟨hcz29_0, hcz29_1, hcz29_2, hcz29_3, hfz29_0, hfz29_1, hfz29_2, hfz29_3⟩ := cf4 BK192) | ((with_reducible refine gc_ (f := 60) rfl ?_); refine gLc 33 Tryz.func60 (r10_Mul.calls t201 t202 t203 t204 a0_0 a0_1 a0_2 a0_3 t206 t207 t208 t209 _ A22.out) (fun w30 hb => ?_); replace BK192 := bkfb BK192 hb; replace BK193 := bkfb BK193 hb; replace BK198 := Zs.mk (blk_below (g := gb198) (o := .cells #[.int .i64 t201, .int .u64 t202, .int .u64 t203, .string t204] 24 (0, 0)) (by (with_reducible repeat (first | refine zn ?_ _ | refine zd ?_ | refine za ?_ _)); apply bp4; (with_reducible repeat (first | refine zn ?_ _ | refine zd ?_ | refine za ?_ _)); exact BK198.out) hb); replace HB := bls HB hb; clear hb; obtain ⟨hcz31_0, hcz31_1, hcz31_2, hcz31_3, hfz31_0, hfz31_1, hfz31_2, hfz31_3⟩ := cf4 BK198))
        go_roundg k1
        case measure => have := HK1.out; omega
        case rel => exact ⟨(wrap64 (x7_1 - 1)), (t206), (t207), (t208), (t209), (by first | rfl | (simp; done) | (simp [*]; done)), H', ⟨by have := HK1.out; omega⟩, bkf BK192, bkf BK193, ⟨by (with_reducible repeat (first | refine zn ?_ _ | refine zd ?_ | refine za ?_ _)); apply bp4; (with_reducible repeat (first | refine zn ?_ _ | refine zd ?_ | refine za ?_ _)); exact BK198.out⟩, blt HB⟩
       ·rw [if_neg c21] at H
        have c21b0 : ((Int.tmod (wrap64 (Int.tdiv t199 t205)) 2) == 1) = false := beq_eq_false_iff_ne.mpr c21
        have c21b1 : ((Int.tmod (wrap64 (Int.tdiv t199 t205)) 2) != 1) = true := bne_iff_ne.mpr c21
        have H' := Zs.mk H
        clear H
        go_wp2_with (first | ((with_reducible refine gc_ (f := 71) rfl ?_); refine gLc 19 Tryz.func71 (bs_Power.calls k1 x7_1 t200 _ A15.out) (fun _ h_ => ?_); obtain ⟨nd, rfl⟩ := h_; (try (rw [drewN_self wr]; generalize hq_ : World.drewN wr _ = wr; have n0_ : Zs (wr.heap[gb192]? = some (.cells #[.int .i64 a0_0, .int .u64 a0_1, .int .u64 a0_2, .string a0_3] 24 (0, 0))) := ⟨by rw [← hq_]; exact (bks BK192).out⟩; have n1_ : Zs (wr.heap[gb193]? = some (.cells #[.int .i64 0, .int .u64 0, .int .u64 0, .string (⟨#[]⟩ : ByteArray)] 24 (0, 0))) := ⟨by rw [← hq_]; exact (bks BK193).out⟩; have n2_ : Zs (wr.heap[gb198]? = some (.cells #[.int .i64 x199000_1, .int .u64 x199001_1, .int .u64 x199002_1, .string x199003_1] 24 (0, 0))) := ⟨by rw [← hq_]; exact (bks BK198).out⟩; have n3_ : Zs (Below w.heap.size w wr) := ⟨by rw [← hq_]; exact (blt HB).out⟩; clear BK192 BK193 BK198 HB hq_; have BK192 := n0_; have BK193 := n1_; have BK198 := n2_; have HB := n3_; clear n0_ n1_ n2_ n3_)); have hnb32 := NB198_192.out; have hnc32 := NB192_198.out; have hnb33 := NB198_193.out; have hnc33 := NB193_198.out; obtain ⟨hcz34_0, hcz34_1, hcz34_2, hcz34_3, hfz34_0, hfz34_1, hfz34_2, hfz34_3⟩ := cf4 BK198) | ((with_reducible refine gc_ (f := 60) rfl ?_); refine gLc 24 Tryz.func60 (r10_Mul.calls x199000_1 x199001_1 x199002_1 x199003_1 x199000_1 x199001_1 x199002_1 x199003_1 t201 t202 t203 t204 _ A18.out) (fun w35 hb => ?_); replace BK192 := bkb BK192 hb; replace BK193 := bkb BK193 hb; replace BK198 := bkb BK198 hb; replace HB := bls HB hb; clear hb; obtain ⟨hcz36_0, hcz36_1, hcz36_2, hcz36_3, hfz36_0, hfz36_1, hfz36_2, hfz36_3⟩ := cf4 BK198) | ((with_reducible refine gc_ (f := 71) rfl ?_); refine gLc 27 Tryz.func71 (bs_Power.calls k1 x7_1 t205 _ A19.out) (fun _ h_ => ?_); obtain ⟨nd, rfl⟩ := h_))
        go_roundg k1
        case measure => have := HK1.out; omega
        case rel => exact ⟨(wrap64 (x7_1 - 1)), (t201), (t202), (t203), (t204), (by first | rfl | (simp; done) | (simp [*]; done)), H', ⟨by have := HK1.out; omega⟩, bkf BK192, bkf BK193, ⟨by (with_reducible repeat (first | refine zn ?_ _ | refine zd ?_ | refine za ?_ _)); apply bp4; (with_reducible repeat (first | refine zn ?_ _ | refine zd ?_ | refine za ?_ _)); exact BK198.out⟩, blt HB⟩
   ·rw [if_neg c14] at H
    have c14b0 : decide (0 ≤ x7_1) = false := decide_eq_false c14
    clear c14
    by_cases c37 : a1 < 0
    ·rw [if_pos c37] at H
     have c37b0 : decide (a1 < 0) = true := decide_eq_true c37
     clear c37
     replace H := Option.bind_eq_some_iff.mp H
     obtain ⟨⟨t210, t211, t212, t213⟩, A38, H⟩ := H
     try dsimp only at H
     replace A38 := Zs.mk A38
     replace H := Option.bind_eq_some_iff.mp H
     obtain ⟨⟨t214, t215, t216, t217⟩, A39, H⟩ := H
     try dsimp only at H
     replace A39 := Zs.mk A39
     simp only [Option.some.injEq, Prod.mk.injEq] at H
     obtain ⟨rfl, rfl, rfl, rfl⟩ := H
     try go_wp2
     replace BK192 := Zs.mk (zd BK192.out)
     replace BK193 := Zs.mk (zd BK193.out)
     replace BK198 := Zs.mk (zd BK198.out)
     replace HB := Zs.mk (below_drew1 HB.out)
     refine start_ (n := 6) (S := fun w' => w'.cell? ⟨gb192, 0, none⟩ = some (.int .i64 a0_0) ∧ w'.cell? ⟨gb192, 1, none⟩ = some (.int .u64 a0_1) ∧ w'.cell? ⟨gb192, 2, none⟩ = some (.int .u64 a0_2) ∧ w'.cell? ⟨gb192, 3, none⟩ = some (.string a0_3) ∧ w'.cell? ⟨gb198, 0, none⟩ = some (.int .i64 x199000_1) ∧ w'.cell? ⟨gb198, 1, none⟩ = some (.int .u64 x199001_1) ∧ w'.cell? ⟨gb198, 2, none⟩ = some (.int .u64 x199002_1) ∧ w'.cell? ⟨gb198, 3, none⟩ = some (.string x199003_1)) (ds := []) #[false, false, false, false, false, false] (by kernel_rfl) rfl rfl ⟨(zc BK192.out 0).trans rfl, (zc BK192.out 1).trans rfl, (zc BK192.out 2).trans rfl, (zc BK192.out 3).trans rfl, (zc BK198.out 0).trans rfl, (zc BK198.out 1).trans rfl, (zc BK198.out 2).trans rfl, (zc BK198.out 3).trans rfl⟩ (fun hHeld => ?_)
     generalize wr.drew = w40 at BK192 BK193 BK198 HB hHeld ⊢
     refine pure_ (i := 0) (N := some 36) (v := ?_) (a' := ?_) #[true, false, false, false, false, false] rfl rfl (by kernel_rfl) (fun _ _ _ h => h) (Or.inl ⟨by rfl, ?_⟩) ?_ ?_
     rotate_left
     ·intro w'
      go_simp
      with_reducible rfl
     rotate_left
     ·simp only [Act.put, List.setIfInBounds_toArray, List.set_cons_zero, List.set_cons_succ, i64_w, i32_w]
      rfl
     refine take_ (i := 1) (N := some 37) (v := ?_) (a' := ?_) #[true, true, false, false, false, false] rfl rfl (by kernel_rfl) (fun _ _ _ h => h) (Or.inl ⟨by rfl, ?_⟩) hHeld ?_ ?_
     rotate_left
     ·rintro w' ⟨s0, s1, s2, s3, s4, s5, s6, s7⟩
      go_simp
      with_reducible rfl
     rotate_left
     ·simp only [Act.put, List.setIfInBounds_toArray, List.set_cons_zero, List.set_cons_succ, i64_w, i32_w]
      rfl
     refine take_ (i := 3) (N := some 39) (v := ?_) (a' := ?_) #[true, true, false, true, false, false] rfl rfl (by kernel_rfl) (fun _ _ _ h => h) (Or.inl ⟨by rfl, ?_⟩) hHeld ?_ ?_
     rotate_left
     ·rintro w' ⟨s0, s1, s2, s3, s4, s5, s6, s7⟩
      go_simp
      with_reducible rfl
     rotate_left
     ·simp only [Act.put, List.setIfInBounds_toArray, List.set_cons_zero, List.set_cons_succ, i64_w, i32_w]
      rfl
     refine one_ (i := 2) (N := some 38) #[true, true, true, true, false, false] rfl rfl (by kernel_rfl) (by decide) (fun K hK => ?_)
     refine gsc Tryz.func87 (r10_one.calls a0_0 t210 t211 t212 t213 _ A38.out) (fun w41 hb => ?_)
     replace BK192 := bkb BK192 hb
     replace BK193 := bkb BK193 hb
     replace BK198 := bkb BK198 hb
     replace HB := bls HB hb
     (try clear hb)
     (try clear hb2)
     (try clear hk)
     (try clear hi)
     refine hK.out _ _ ⟨(zc BK192.out 0).trans rfl, (zc BK192.out 1).trans rfl, (zc BK192.out 2).trans rfl, (zc BK192.out 3).trans rfl, (zc BK198.out 0).trans rfl, (zc BK198.out 1).trans rfl, (zc BK198.out 2).trans rfl, (zc BK198.out 3).trans rfl⟩ (fun hHeld => ?_)
     clear hK K
     refine nm 38 ?_
     refine one_ (i := 4) (N := some 40) #[true, true, true, true, true, false] rfl rfl (by kernel_rfl) (by decide) (fun K hK => ?_)
     refine gsc Tryz.func61 (r10_Div.calls t210 t211 t212 t213 x199000_1 x199001_1 x199002_1 x199003_1 t214 t215 t216 t217 _ A39.out) (fun w42 hb => ?_)
     replace BK192 := bkb BK192 hb
     replace BK193 := bkb BK193 hb
     replace BK198 := bkb BK198 hb
     replace HB := bls HB hb
     (try clear hb)
     (try clear hb2)
     (try clear hk)
     (try clear hi)
     refine hK.out _ _ ⟨(zc BK192.out 0).trans rfl, (zc BK192.out 1).trans rfl, (zc BK192.out 2).trans rfl, (zc BK192.out 3).trans rfl, (zc BK198.out 0).trans rfl, (zc BK198.out 1).trans rfl, (zc BK198.out 2).trans rfl, (zc BK198.out 3).trans rfl⟩ (fun hHeld => ?_)
     clear hK K
     refine nm 40 ?_
     refine one_ (i := 5) (N := none) #[true, true, true, true, true, true] rfl rfl (by kernel_rfl) (by decide) (fun K hK => ?_)
     have hs43 : w42.cell? ⟨gb193, 0, none⟩ = some (.int .i64 0) := (zc BK193.out 0).trans rfl
     have hfs43 := zf BK193.out 0
     have hns43_0 := NB192_193.out
     have hns43_2 := NB198_193.out
     have hms43_0 := NB193_192.out
     have hms43_2 := NB193_198.out
     have hs44 : w42.cell? ⟨gb193, 1, none⟩ = some (.int .u64 0) := (zc BK193.out 1).trans rfl
     have hfs44 := zf BK193.out 1
     have hns44_0 := NB192_193.out
     have hns44_2 := NB198_193.out
     have hms44_0 := NB193_192.out
     have hms44_2 := NB193_198.out
     have hs45 : w42.cell? ⟨gb193, 2, none⟩ = some (.int .u64 0) := (zc BK193.out 2).trans rfl
     have hfs45 := zf BK193.out 2
     have hns45_0 := NB192_193.out
     have hns45_2 := NB198_193.out
     have hms45_0 := NB193_192.out
     have hms45_2 := NB193_198.out
     have hs46 : w42.cell? ⟨gb193, 3, none⟩ = some (.string (⟨#[]⟩ : ByteArray)) := (zc BK193.out 3).trans rfl
     have hfs46 := zf BK193.out 3
     have hns46_0 := NB192_193.out
     have hns46_2 := NB198_193.out
     have hms46_0 := NB193_192.out
     have hms46_2 := NB193_198.out
     refine skip_ (w1 := ?_) (by rfl) rfl ?_ ?_
     rotate_left
     ·go_simp
      rfl
     refine hK.out _ _ ⟨((cell_far (p := ⟨gb193, _, none⟩) NB192_193.out _).trans (((cell_far (p := ⟨gb193, _, none⟩) NB192_193.out _).trans (((cell_far (p := ⟨gb193, _, none⟩) NB192_193.out _).trans (((cell_far (p := ⟨gb193, _, none⟩) NB192_193.out _).trans (hHeld.1)))))))), ((cell_far (p := ⟨gb193, _, none⟩) NB192_193.out _).trans (((cell_far (p := ⟨gb193, _, none⟩) NB192_193.out _).trans (((cell_far (p := ⟨gb193, _, none⟩) NB192_193.out _).trans (((cell_far (p := ⟨gb193, _, none⟩) NB192_193.out _).trans (hHeld.2.1)))))))), ((cell_far (p := ⟨gb193, _, none⟩) NB192_193.out _).trans (((cell_far (p := ⟨gb193, _, none⟩) NB192_193.out _).trans (((cell_far (p := ⟨gb193, _, none⟩) NB192_193.out _).trans (((cell_far (p := ⟨gb193, _, none⟩) NB192_193.out _).trans (hHeld.2.2.1)))))))), ((cell_far (p := ⟨gb193, _, none⟩) NB192_193.out _).trans (((cell_far (p := ⟨gb193, _, none⟩) NB192_193.out _).trans (((cell_far (p := ⟨gb193, _, none⟩) NB192_193.out _).trans (((cell_far (p := ⟨gb193, _, none⟩) NB192_193.out _).trans (hHeld.2.2.2.1)))))))), ((cell_far (p := ⟨gb193, _, none⟩) NB198_193.out _).trans (((cell_far (p := ⟨gb193, _, none⟩) NB198_193.out _).trans (((cell_far (p := ⟨gb193, _, none⟩) NB198_193.out _).trans (((cell_far (p := ⟨gb193, _, none⟩) NB198_193.out _).trans (hHeld.2.2.2.2.1)))))))), ((cell_far (p := ⟨gb193, _, none⟩) NB198_193.out _).trans (((cell_far (p := ⟨gb193, _, none⟩) NB198_193.out _).trans (((cell_far (p := ⟨gb193, _, none⟩) NB198_193.out _).trans (((cell_far (p := ⟨gb193, _, none⟩) NB198_193.out _).trans (hHeld.2.2.2.2.2.1)))))))), ((cell_far (p := ⟨gb193, _, none⟩) NB198_193.out _).trans (((cell_far (p := ⟨gb193, _, none⟩) NB198_193.out _).trans (((cell_far (p := ⟨gb193, _, none⟩) NB198_193.out _).trans (((cell_far (p := ⟨gb193, _, none⟩) NB198_193.out _).trans (hHeld.2.2.2.2.2.2.1)))))))), ((cell_far (p := ⟨gb193, _, none⟩) NB198_193.out _).trans (((cell_far (p := ⟨gb193, _, none⟩) NB198_193.out _).trans (((cell_far (p := ⟨gb193, _, none⟩) NB198_193.out _).trans (((cell_far (p := ⟨gb193, _, none⟩) NB198_193.out _).trans (hHeld.2.2.2.2.2.2.2))))))))⟩ (fun hHeld => ?_)
     clear hK K
     refine done_ (by kernel_rfl) ?_
     try go_wp2
     refine bodyPost_ret (results_cell_row rfl _ _ gb193 24 #[.int .i64 t214, .int .u64 t215, .int .u64 t216, .string t217] (0, 0) _ rfl (by (with_reducible repeat (first | refine zn ?_ _ | refine zd ?_ | refine za ?_ _)); apply bp4; (with_reducible repeat (first | refine zn ?_ _ | refine zd ?_ | refine za ?_ _)); exact BK193.out) Tryz.underlying24 rfl (by kernel_rfl)) rfl ?_
     exact fin_ (blt HB)
    ·rw [if_neg c37] at H
     have c37b0 : decide (a1 < 0) = false := decide_eq_false c37
     clear c37
     simp only [Option.some.injEq, Prod.mk.injEq] at H
     obtain ⟨rfl, rfl, rfl, rfl⟩ := H
     have hnb47 := NB198_192.out
     have hnc47 := NB192_198.out
     have hnb48 := NB198_193.out
     have hnc48 := NB193_198.out
     obtain ⟨hcz49_0, hcz49_1, hcz49_2, hcz49_3, hfz49_0, hfz49_1, hfz49_2, hfz49_3⟩ := cf4 BK198
     have hnb50 := NB193_192.out
     have hnc50 := NB192_193.out
     obtain ⟨hcz51_0, hcz51_1, hcz51_2, hcz51_3, hfz51_0, hfz51_1, hfz51_2, hfz51_3⟩ := cf4 BK193
     go_wp2
     refine bodyPost_ret (results_cell_row rfl _ _ gb193 24 #[.int .i64 x199000_1, .int .u64 x199001_1, .int .u64 x199002_1, .string x199003_1] (0, 0) _ rfl (by (with_reducible repeat (first | refine zn ?_ _ | refine zd ?_ | refine za ?_ _)); apply bp4; (with_reducible repeat (first | refine zn ?_ _ | refine zd ?_ | refine za ?_ _)); exact BK193.out) Tryz.underlying24 rfl (by kernel_rfl)) rfl ?_
     exact fin_ (blt HB)
end Go.Proofs.YtmoimcblmmcffaaGreat.PLO

namespace Go.Proofs.YtmoimcblmmcffaaGreat.B
open Go.RowKit NC N PPC PRA PLO Go.Proofs.YtmoimcblmmcffaaGreatW.PrintWords
set_option linter.unusedSimpArgs false
set_option linter.unusedVariables false
theorem parts_f {s : Bool} {x : Nat} (hx : x < 2 * signN s) : ∃ a b c, r8_Parts.f (tv s) (x : Int) = some ((partsR s x).kind, a, b, c) := by
 unfold r8_Parts.f
 rw [if_pos (okW_nat hx), tv_eq]
 exact ⟨_, _, _, rfl⟩
theorem rop_f {op : Int} {s : Bool} {x y : Nat} (h0 : 0 ≤ op) (h6 : op ≤ 6) (hx : x < 2 * signN s) (hy : y < 2 * signN s) : r8_Apply.f op (tv s) (x : Int) (y : Int) = some ((opR op s x y : Nat) : Int) := by
 unfold r8_Apply.f
 rw [decide_eq_true h0, decide_eq_true h6, if_pos (by decide)]
 exact on2_tv hx hy
theorem from_f (s : Bool) (n : Int) (h : n = 1 ∨ n = 2) : r8_FromInteger.f (tv s) n = some ((fromR s n : Nat) : Int) := by rcases h with rfl | rfl <;> cases s <;> rfl
theorem rroot {s : Bool} {x : Nat} (hx : x < 2 * signN s) : r8_Sqrt.f (tv s) (x : Int) = some ((sqrtR s x : Nat) : Int) := on1_tv hx
theorem rneg {s : Bool} {x : Nat} (hx : x < 2 * signN s) : r8_Negated.f (tv s) (x : Int) = some ((negR s x : Nat) : Int) := on1_tv hx
theorem ext_max {s : Bool} {x y : Nat} : opR 6 s x y = extR true s x y := by unfold opR; simp
theorem ext_min {s : Bool} {x y : Nat} : opR 5 s x y = extR false s x y := by unfold opR; simp
theorem dist_ref {s : Bool} {a b : Nat} (ha : a = nanN s ∨ ∃ r, r ≤ (fm s).infRung ∧ a = (fm s).word false r) (hb : b = nanN s ∨ ∃ r, r ≤ (fm s).infRung ∧ b = (fm s).word false r) :
  dist2 s a b = if (partsR s a).kind = 2 ∨ (partsR s b).kind = 2 then bitsR s ⟨2, false, 0, 0⟩ else if (partsR s a).kind = 3 ∨ (partsR s b).kind = 3 then nanN s
   else if (partsR s (extR true s a b)).kind = 0 then extR true s a b
   else mulR s (extR true s a b) (sqrtR s (addR s (fromR s 1) (mulR s (divR s (extR false s a b) (extR true s a b)) (divR s (extR false s a b) (extR true s a b))))) := by
 have kn : (partsR s (nanN s)).kind = 3 := by rw [parts_nan]
 have k2 : ∀ r, r ≤ (fm s).infRung → (partsR s ((fm s).word false r)).kind = 2 → r = (fm s).infRung := fun r hr h => by
  have ht := told s _ (word_lt s false (Nat.lt_of_le_of_lt hr (inf_lt s)))
  generalize partsR s ((fm s).word false r) = p at *
  have w1 := Fl.word_parts (fm s) false r (by rw [fm_sign]; exact Nat.lt_of_le_of_lt hr (inf_lt s))
  cases ht with
  | zero n h' hr' => exact absurd h (by show ¬ ((0 : Int) = 2); decide)
  | fin n m' e' r' h0 h1 h' hm hm2 he he2 hbn hr' => exact absurd h (by show ¬ ((1 : Int) = 2); decide)
  | inf n h' hr' =>
   have w2 := Fl.word_parts (fm s) n (fm s).infRung (by rw [fm_sign]; exact inf_lt s)
   rw [← h'] at w2
   exact w1.2.symm.trans w2.2
  | nan n r' t u h0 h1 h' hr' => exact absurd h (by show ¬ ((3 : Int) = 2); decide)
 have k0 : ∀ r, r ≤ (fm s).infRung → (partsR s ((fm s).word false r)).kind = 0 → r = 0 := fun r hr h => by
  have ht := told s _ (word_lt s false (Nat.lt_of_le_of_lt hr (inf_lt s)))
  generalize partsR s ((fm s).word false r) = p at *
  have w1 := Fl.word_parts (fm s) false r (by rw [fm_sign]; exact Nat.lt_of_le_of_lt hr (inf_lt s))
  cases ht with
  | zero n h' hr' =>
   have w2 := Fl.word_parts (fm s) n 0 (by rw [fm_sign]; exact Nat.lt_of_le_of_lt (Nat.zero_le _) (inf_lt s))
   rw [← h'] at w2
   exact w1.2.symm.trans w2.2
  | fin n m' e' r' h0 h1 h' hm hm2 he he2 hbn hr' => exact absurd h (by show ¬ ((1 : Int) = 0); decide)
  | inf n h' hr' => exact absurd h (by show ¬ ((2 : Int) = 0); decide)
  | nan n r' t u h0 h1 h' hr' => exact absurd h (by show ¬ ((3 : Int) = 0); decide)
 have hinf : bitsR s ⟨2, false, 0, 0⟩ = (fm s).word false (fm s).infRung := bits_inf s false
 unfold dist2
 rcases ha with ha | ⟨q, hq, ha⟩ <;> rcases hb with hb | ⟨r, hr, hb⟩ <;> rw [ha, hb]
 ·have he : extR true s (nanN s) (nanN s) = nanN s := by unfold extR extP; rw [parts_nan, if_pos rfl, if_pos rfl]
  rw [he, kn]
  simp only [show ¬ ((3 : Int) = 2) from by decide, show ¬ ((3 : Int) = 0) from by decide, or_self, if_false, false_and, if_true]
 ·obtain ⟨n1, _⟩ := kind_word (s := s) (n := false) hr
  rw [ext_nan1 n1, kn]
  by_cases c : (partsR s ((fm s).word false r)).kind = 2
  ·rw [if_pos (Or.inr c), if_pos (Or.inr c), hinf, k2 r hr c]
  ·have c1 : ¬ ((3 : Int) = 2 ∨ (partsR s ((fm s).word false r)).kind = 2) := by omega
   have c2 : ¬ ((partsR s ((fm s).word false r)).kind = 0 ∧ (3 : Int) = (partsR s ((fm s).word false r)).kind) := by omega
   rw [if_neg c1, if_neg c1, if_neg c2, if_pos rfl, if_pos (Or.inl rfl)]
 ·obtain ⟨n1, _⟩ := kind_word (s := s) (n := false) hq
  rw [ext_nan2 n1, kn]
  by_cases c : (partsR s ((fm s).word false q)).kind = 2
  ·rw [if_pos (Or.inl c), if_pos (Or.inl c), hinf, k2 q hq c]
  ·have c1 : ¬ ((partsR s ((fm s).word false q)).kind = 2 ∨ (3 : Int) = 2) := by omega
   have c2 : ¬ ((partsR s ((fm s).word false q)).kind = 0 ∧ (partsR s ((fm s).word false q)).kind = (3 : Int)) := by omega
   rw [if_neg c1, if_neg c1, if_neg c2, if_neg n1, if_pos rfl, if_pos (Or.inr rfl)]
 ·obtain ⟨n1, _⟩ := kind_word (s := s) (n := false) hq
  obtain ⟨n2, _⟩ := kind_word (s := s) (n := false) hr
  rw [ext_words hq hr, ext_words hq hr, if_pos rfl]
  by_cases c : (partsR s ((fm s).word false q)).kind = 2 ∨ (partsR s ((fm s).word false r)).kind = 2
  ·rw [if_pos c, if_pos c, hinf]
   congr 1
   rcases c with c | c
   ·have := k2 q hq c; omega
   ·have := k2 r hr c; omega
  ·rw [if_neg c, if_neg c, if_neg (show ¬ ((partsR s ((fm s).word false q)).kind = 3 ∨ (partsR s ((fm s).word false r)).kind = 3) by omega), if_neg n1, if_neg n2]
   by_cases c0 : (partsR s ((fm s).word false (max q r))).kind = 0
   ·have hm := k0 (max q r) (by omega) c0
    rw [if_pos c0, if_pos ⟨c0, by rw [show q = 0 by omega, show r = 0 by omega]⟩]
   ·rw [if_neg c0, if_neg (fun e => c0 e.1)]
theorem rsize {s : Bool} {x y : Nat} {S : ByteArray} {k : Nat} (hx : x < 2 * signN s) (hy : y < 2 * signN s) : r10_Size.f (k + 2) (ct s) (x : Int) (y : Int) S = some ((distR s x y : Nat) : Int) := by
 unfold r10_Size.f
 rw [rpart, Option.bind_some, rsized hx, Option.bind_some, rsized hy, Option.bind_some]
 unfold distR
 have ha := sizeR_lt hx
 have hb := sizeR_lt hy
 rw [dist_ref (size_form hx) (size_form hy)]
 generalize sizeR s x = a at *
 generalize sizeR s y = b at *
 clear hx hy
 obtain ⟨u1, u2, u3, hA⟩ := parts_f ha
 obtain ⟨v1, v2, v3, hB⟩ := parts_f hb
 have hm := extR_lt (g := true) ha hb
 have hn := extR_lt (g := false) ha hb
 rw [hA, Option.bind_some, hB, Option.bind_some]
 dsimp only
 have ninf : r8_Bits.f (tv s) 2 false 0 0 = some ((bitsR s ⟨2, false, 0, 0⟩ : Nat) : Int) := by cases s <;> rfl
 have nnan : r8_NaN.f (tv s) = some ((nanN s : Nat) : Int) := by cases s <;> rfl
 have j1t : ∀ k : Nat, r10_Size.j1 (k + 1) (tv s) (a : Int) (b : Int) true = some ((nanN s : Nat) : Int) := fun k => by
  simp only [r10_Size.j1, if_true]
  rw [nnan, Option.bind_some]
 have j1f : ∀ k : Nat, r10_Size.j1 (k + 1) (tv s) (a : Int) (b : Int) false = some (((if (partsR s (extR true s a b)).kind = 0 then extR true s a b
   else mulR s (extR true s a b) (sqrtR s (addR s (fromR s 1) (mulR s (divR s (extR false s a b) (extR true s a b)) (divR s (extR false s a b) (extR true s a b)))))) : Nat) : Int) := fun k => by
  obtain ⟨w1, w2, w3, hM⟩ := parts_f hm
  simp only [r10_Size.j1]
  rw [if_neg (by decide), rop_f (by decide) (by decide) ha hb, Option.bind_some, rop_f (by decide) (by decide) ha hb, Option.bind_some, ext_max, ext_min, hM, Option.bind_some]
  dsimp only
  by_cases h1 : (partsR s (extR true s a b)).kind = 0
  ·rw [if_pos h1, if_pos h1]
  ·have hq := divR_lt hn hm
   have hqq := mulR_lt hq hq
   have hs := addR_lt (fromR_lt s 1) hqq
   rw [if_neg h1, if_neg h1, rdiv hn hm, Option.bind_some, from_f s 1 (.inl rfl), Option.bind_some, rmul hq hq, Option.bind_some, radd (fromR_lt s 1) hqq, Option.bind_some, rroot hs, Option.bind_some, rmul hm (sqrtR_lt hs), Option.bind_some]
 have hj0 : r10_Size.j0 (k + 2) (tv s) (a : Int) (b : Int) (partsR s a).kind (partsR s b).kind true = some ((bitsR s ⟨2, false, 0, 0⟩ : Nat) : Int) := by
  simp only [r10_Size.j0, if_true]
  rw [ninf, Option.bind_some]
 by_cases h1 : (partsR s a).kind = 2
 ·rw [if_pos h1, if_pos (.inl h1)]; exact hj0
 ·rw [if_neg h1]
  by_cases h2 : (partsR s b).kind = 2
  ·rw [show ((partsR s b).kind == 2) = true from beq_iff_eq.2 h2, if_pos (.inr h2)]; exact hj0
  ·rw [show ((partsR s b).kind == 2) = false from beq_eq_false_iff_ne.2 h2, if_neg (by omega)]
   simp only [r10_Size.j0]
   rw [if_neg (by decide)]
   by_cases h3 : (partsR s a).kind = 3
   ·rw [if_pos h3, if_pos (.inl h3)]; exact j1t k
   ·rw [if_neg h3]
    by_cases h4 : (partsR s b).kind = 3
    ·rw [show ((partsR s b).kind == 3) = true from beq_iff_eq.2 h4, if_pos (.inr h4)]; exact j1t k
    ·rw [show ((partsR s b).kind == 3) = false from beq_eq_false_iff_ne.2 h4, if_neg (by omega)]; exact j1f k
theorem half_eq (s : Bool) : fd_half.f (tv s) = some ((divR s (fromR s 1) (fromR s 2) : Nat) : Int) := by
 cases s <;> decide +kernel
theorem fop4 {s : Bool} {x y : Nat} (hx : x < 2 * signN s) (hy : y < 2 * signN s) : fd_operation.f (tv s) 4 (x : Int) (y : Int) = some ((opR 4 s x y : Nat) : Int) := by
 unfold fd_operation.f; rw [apply_f (by decide) (by decide) hx hy]; rfl
theorem root_both {s : Bool} {x y : Nat} (S : ByteArray) (hx : x < 2 * signN s) (hy : y < 2 * signN s) : ∃ A B : Int, fd_squareRoot.f 40 (tv s) (x : Int) (y : Int) = some (A, B) ∧ r10_Sqrt.f 40 (ct s) (x : Int) (y : Int) S = some (ct s, A, B, NB) := by
 obtain ⟨u1, u2, u3, hA⟩ := parts_f hx
 obtain ⟨v1, v2, v3, hB⟩ := parts_f hy
 have h0 : (0 : Nat) < 2 * signN s := by cases s <;> decide
 unfold fd_squareRoot.f r10_Sqrt.f
 rw [fkind hx, Option.bind_some, rpart, Option.bind_some, hA, Option.bind_some]
 dsimp only
 have hfin : ∃ A B : Int, fd_squareRoot.j0 40 (tv s) false (x : Int) (y : Int) = some (A, B) ∧ r10_Sqrt.j0 40 (tv s) (x : Int) (y : Int) false (ct s) (x : Int) (y : Int) S = some (ct s, A, B, NB) := by
  have hh : divR s (fromR s 1) (fromR s 2) < 2 * signN s := divR_lt (fromR_lt s 1) (fromR_lt s 2)
  have hz := sizeR_lt hx
  have hd : distR s x y < 2 * signN s := by
   have h := fdistance (k := 0) hx hy
   unfold distR dist2
   have ha := sizeR_lt hx
   have hb := sizeR_lt hy
   have hm := extR_lt (g := true) ha hb
   have hn := extR_lt (g := false) ha hb
   have hq := divR_lt hn hm
   have hs := addR_lt (fromR_lt s 1) (mulR_lt hq hq)
   have hr := mulR_lt hm (sqrtR_lt hs)
   repeat' split
   all_goals assumption
  have ha := addR_lt hz hd
  have hm := mulR_lt ha hh
  have hr := sqrtR_lt hm
  have e1 : fromR s 1 = fromR s 1 := rfl
  simp only [fd_squareRoot.j0, r10_Sqrt.j0]
  rw [if_neg (by decide), if_neg (by decide), fsize hx, Option.bind_some, fdistance (k := 37) hx hy, Option.bind_some, fadd hz hd, Option.bind_some, half_eq, Option.bind_some, fmul ha hh, Option.bind_some, froot hm, Option.bind_some]
  have z0 : (0 : Int) = ((0 : Nat) : Int) := rfl
  rw [z0, forder hx h0, Option.bind_some]
  rw [from_f s 1 (.inl rfl), Option.bind_some, from_f s 2 (.inr rfl), Option.bind_some, rdiv (fromR_lt s 1) (fromR_lt s 2), Option.bind_some, rsized hx, Option.bind_some, rsize (k := 37) hx hy, Option.bind_some, radd hz hd, Option.bind_some, rmul ha hh, Option.bind_some, rroot hm, Option.bind_some, rcmp hx h0, Option.bind_some]
  generalize sqrtR s (mulR s (addR s (sizeR s x) (distR s x y)) (divR s (fromR s 1) (fromR s 2))) = h at *
  generalize divR s (fromR s 1) (fromR s 2) = g at *
  by_cases c : cmpR s x 0 = -1
  ·have hy' := sizeR_lt hy
   have hq := divR_lt hy' hr
   rw [if_pos c, if_pos c, fsize hy, Option.bind_some, fdiv hy' hr, Option.bind_some, Option.bind_some, fmul hq hh, Option.bind_some, fop4 hr hy, Option.bind_some, rsized hy, Option.bind_some, rdiv hy' hr, Option.bind_some, rmul hq hh, Option.bind_some, rop_f (by decide) (by decide) hr hy, Option.bind_some]
   exact ⟨_, _, rfl, rfl⟩
  ·have hq := divR_lt hy hr
   rw [if_neg c, if_neg c, fdiv hy hr, Option.bind_some, Option.bind_some, fmul hq hh, Option.bind_some, rdiv hy hr, Option.bind_some, rmul hq hh, Option.bind_some]
   exact ⟨_, _, rfl, rfl⟩
 have htrue : ∃ A B : Int, fd_squareRoot.j0 40 (tv s) true (x : Int) (y : Int) = some (A, B) ∧ r10_Sqrt.j0 40 (tv s) (x : Int) (y : Int) true (ct s) (x : Int) (y : Int) S = some (ct s, A, B, NB) := by
  simp only [fd_squareRoot.j0, r10_Sqrt.j0, if_true]
  exact ⟨_, _, rfl, rfl⟩
 by_cases h1 : (partsR s x).kind = 0
 ·rw [if_pos h1, if_pos h1, fkind hy, Option.bind_some, hB, Option.bind_some]
  dsimp only
  by_cases h2 : (partsR s y).kind = 0
  ·rw [show ((partsR s y).kind == 0) = true from beq_iff_eq.2 h2]; exact htrue
  ·rw [show ((partsR s y).kind == 0) = false from beq_eq_false_iff_ne.2 h2]; exact hfin
 ·rw [if_neg h1, if_neg h1]; exact hfin
end Go.Proofs.YtmoimcblmmcffaaGreat.B

namespace Go.Proofs.YtmoimcblmmcffaaGreat.B
open Go.RowKit NC N PPC PRA PLO PN Go.Proofs.YtmoimcblmmcffaaGreatW.PrintWords
set_option linter.unusedSimpArgs false
set_option linter.unusedVariables false
theorem fpow_steps {s : Bool} {n : Int} {size : Nat} {x : Nat × Nat} (hz : size < 18446744073709551616) (hx : okP s x) (z0 z1 : Int) (m : Nat) : ∀ (i : Nat) (o : Nat × Nat), i ≤ 32 → okP s o →
  fd_power.l0 (m + i) (tv s) n (size : Int) (bitI i) (x.1 : Int) (x.2 : Int) z0 z1 (o.1 : Int) (o.2 : Int) = fd_power.l0 m (tv s) n (size : Int) 0 (x.1 : Int) (x.2 : Int) z0 z1 ((powC s size x i o).1 : Int) ((powC s size x i o).2 : Int)
 | 0, o, _, _ => rfl
 | i + 1, o, hi, ho => by
  have hp : 0 < 2 ^ i := Nat.two_pow_pos i
  have hd : (((2 ^ i : Nat) : Int) / 2) = bitI i := by
   cases i with
   | zero => rfl
   | succ j => show ((2 ^ (j + 1) : Nat) : Int) / 2 = ((2 ^ j : Nat) : Int); rw [Nat.pow_succ]; omega
  have hrec := fun o ho => fpow_steps (n := n) hz hx z0 z1 m i o (by omega) ho
  show fd_power.l0 ((m + i) + 1) (tv s) n (size : Int) ((2 ^ i : Nat) : Int) (x.1 : Int) (x.2 : Int) z0 z1 (o.1 : Int) (o.2 : Int) = _
  simp only [fd_power.l0, powC]
  rw [if_neg (show ¬ (((2 ^ i : Nat) : Int) = 0) by omega), hd]
  have hg : (((2 ^ i : Nat) : Int) > (size : Int)) ↔ size / 2 ^ i = 0 := by
   rw [Nat.div_eq_zero_iff]
   omega
  by_cases c1 : size / 2 ^ i = 0
  ·rw [if_pos (hg.2 c1), if_pos c1]; exact hrec o ho
  ·rw [if_neg (fun e => c1 (hg.1 e)), if_neg c1, ftimes ho ho, Option.bind_some]
   have hb := bits_and size i hz (by omega)
   by_cases c2 : size / 2 ^ i % 2 = 1
   ·rw [if_neg (fun e => hb.1 e c2), if_pos c2]
    dsimp only
    rw [ftimes (timesP_ok ho ho) hx, Option.bind_some]
    exact hrec _ (timesP_ok (timesP_ok ho ho) hx)
   ·rw [if_pos (hb.2 c2), if_neg c2]
    exact hrec _ (timesP_ok ho ho)
theorem rtimes {s : Bool} {p q : Nat × Nat} (S S' : ByteArray) (hp : okP s p) (hq : okP s q) : r10_Mul.f (ct s) (p.1 : Int) (p.2 : Int) S (ct s) (q.1 : Int) (q.2 : Int) S' = some (ct s, ((timesP s p q).1 : Int), ((timesP s p q).2 : Int), NB) := by
 unfold r10_Mul.f timesP
 rw [rpart, Option.bind_some, rmul hp.1 hq.1, Option.bind_some, rmul hp.2 hq.2, Option.bind_some, rsub (mulR_lt hp.1 hq.1) (mulR_lt hp.2 hq.2), Option.bind_some, rmul hp.1 hq.2, Option.bind_some, rmul hp.2 hq.1, Option.bind_some, radd (mulR_lt hp.1 hq.2) (mulR_lt hp.2 hq.1), Option.bind_some]
 rfl
theorem rpow_steps {s : Bool} {n : Int} {size : Nat} {x : Nat × Nat} (S : ByteArray) (hz : size < 9223372036854775808) (hx : okP s x) (m : Nat) (hm : 33 ≤ m) : ∀ (j : Nat) (o : Nat × Nat), j ≤ 32 → okP s o →
  r10_Power.l0 (m + j) n (size : Int) ((j : Int) - 1) (ct s) (x.1 : Int) (x.2 : Int) S (ct s) (o.1 : Int) (o.2 : Int) NB = r10_Power.l0 m n (size : Int) (-1) (ct s) (x.1 : Int) (x.2 : Int) S (ct s) ((powC s size x j o).1 : Int) ((powC s size x j o).2 : Int) NB
 | 0, o, _, _ => rfl
 | j + 1, o, hj, ho => by
  have hp : 0 < 2 ^ j := Nat.two_pow_pos j
  have hrec := fun o ho => rpow_steps (n := n) S hz hx m hm j o (by omega) ho
  have hpw : bs_Power.f (m + j) (j : Int) = some ((2 ^ j : Nat) : Int) := power_l0 j (by omega) j 0 (m + j) (by omega) (by omega)
  have hle : size / 2 ^ j ≤ size := Nat.div_le_self _ _
  have hdiv : wrap64 (Int.tdiv (size : Int) ((2 ^ j : Nat) : Int)) = ((size / 2 ^ j : Nat) : Int) := by
   rw [← Int.ofNat_tdiv]
   generalize size / 2 ^ j = z at *
   unfold wrap64; omega
  have hmod : Int.tmod ((size / 2 ^ j : Nat) : Int) 2 = ((size / 2 ^ j % 2 : Nat) : Int) := by
   generalize size / 2 ^ j = z
   exact (Int.ofNat_tmod z 2).symm
  have hi : (((j + 1 : Nat) : Int) - 1) = (j : Int) := by omega
  have hw : wrap64 ((j : Int) - 1) = (j : Int) - 1 := by unfold wrap64; omega
  show r10_Power.l0 ((m + j) + 1) n (size : Int) (((j + 1 : Nat) : Int) - 1) (ct s) (x.1 : Int) (x.2 : Int) S (ct s) (o.1 : Int) (o.2 : Int) NB = _
  rw [hi]
  simp only [r10_Power.l0, powC]
  rw [if_pos (show (j : Int) ≥ 0 by omega), hpw, Option.bind_some, if_neg (show ¬ (((2 ^ j : Nat) : Int) = 0) by omega), hdiv, hw]
  by_cases c1 : size / 2 ^ j = 0
  ·rw [if_pos (show ((size / 2 ^ j : Nat) : Int) = 0 by rw [c1]; rfl), if_pos c1]; exact hrec o ho
  ·rw [if_neg (show ¬ (((size / 2 ^ j : Nat) : Int) = 0) by omega), if_neg c1, rtimes NB NB ho ho, Option.bind_some, Option.bind_some, if_neg (show ¬ (((2 ^ j : Nat) : Int) = 0) by omega), hdiv, hmod]
   by_cases c2 : size / 2 ^ j % 2 = 1
   ·rw [if_pos (show ((size / 2 ^ j % 2 : Nat) : Int) = 1 by rw [c2]; rfl), if_pos c2]
    dsimp only
    rw [rtimes NB S (timesP_ok ho ho) hx, Option.bind_some]
    exact hrec _ (timesP_ok (timesP_ok ho ho) hx)
   ·rw [if_neg (show ¬ (((size / 2 ^ j % 2 : Nat) : Int) = 1) by omega), if_neg c2]
    exact hrec _ (timesP_ok ho ho)
theorem fpow_end (k : Nat) (t n z x0 x1 z0 z1 q0 q1 : Int) : fd_power.l0 (k + 1) t n z 0 x0 x1 z0 z1 q0 q1 = if n < 0 then (fd_over.f t z0 z1 q0 q1).bind fun bt => some (bt.1, bt.2) else some (q0, q1) := by
 simp only [fd_power.l0]
 rw [if_pos trivial]
theorem rpow_end (k : Nat) (n z t x y : Int) (S : ByteArray) (r0 r1 r2 : Int) (r3 : ByteArray) : r10_Power.l0 (k + 1) n z (-1) t x y S r0 r1 r2 r3 = if n < 0 then (r10_one.f t).bind fun b => (r10_Div.f b.1 b.2.1 b.2.2.1 b.2.2.2 r0 r1 r2 r3).bind fun c => some (c.1, c.2.1, c.2.2.1, c.2.2.2) else some (r0, r1, r2, r3) := by
 simp only [r10_Power.l0]
 rw [if_neg (show ¬ ((-1 : Int) ≥ 0) by decide)]
theorem pow_both {s : Bool} {n : Int} {x : Nat × Nat} (S : ByteArray) (h0 : -2147483648 ≤ n) (h1 : n ≤ 2147483647) (hx : okP s x) : ∃ A B : Int, fd_power.f 40 (tv s) (x.1 : Int) (x.2 : Int) n = some (A, B) ∧ r10_Power.f 70 (ct s) (x.1 : Int) (x.2 : Int) S n = some (ct s, A, B, NB) := by
 have ho : okP s (fromR s 1, 0) := ⟨fromR_lt s 1, by cases s <;> decide⟩
 have hm : IntKind.u64.wrap (mx n (wrap64 (-n))) = ((n.natAbs : Nat) : Int) := by
  have hw : wrap64 (-n) = -n := by unfold wrap64; omega
  have h2 : mx n (-n) = ((n.natAbs : Nat) : Int) := by
   unfold mx
   by_cases h : n < -n
   ·rw [if_pos h]; omega
   ·rw [if_neg h]; omega
  rw [hw, h2]
  exact kuwrap (by omega)
 have hs : bs_Size.f n = some ((n.natAbs : Nat) : Int) := size_f n (by omega) (by omega)
 have hone : r10_one.f (ct s) = some (ct s, ((fromR s 1 : Nat) : Int), 0, NB) := by
  unfold r10_one.f
  rw [rpart, Option.bind_some, from_f s 1 (.inl rfl), Option.bind_some]; rfl
 have hf := fpow_steps (n := n) (size := n.natAbs) (by omega) hx ((fromR s 1 : Nat) : Int) 0 8 32 (fromR s 1, 0) (by omega) ho
 have hr := rpow_steps (n := n) (size := n.natAbs) S (by omega) hx 38 (by omega) 32 (fromR s 1, 0) (by omega) ho
 have hk := powC_ok (size := n.natAbs) hx 32 (fromR s 1, 0) ho
 unfold fd_power.f r10_Power.f
 rw [fone, Option.bind_some, hm, hone, Option.bind_some, hs, Option.bind_some]
 have e1 := hf
 have e2 := hr
 have b32 : bitI 32 = 2147483648 := rfl
 have z0 : ((0 : Nat) : Int) = 0 := rfl
 have i31 : ((32 : Nat) : Int) - 1 = 31 := rfl
 rw [b32, show 8 + 32 = 40 from rfl] at e1
 rw [i31, show 38 + 32 = 70 from rfl] at e2
 dsimp only at e1 e2
 rw [z0] at e1 e2
 dsimp only
 rw [e1, e2]
 clear e1 e2 hf hr
 generalize powC s n.natAbs x 32 (fromR s 1, 0) = q at *
 rw [fpow_end 7, rpow_end 37]
 by_cases hn : n < 0
 ·rw [if_pos hn, if_pos hn, hone, Option.bind_some]
  obtain ⟨p1, p2, g1, g2⟩ := op_over (a := fromR s 1) (b := 0) (c := q.1) (d := q.2) NB NB ho.1 ho.2 hk.1 hk.2
  have g3 : r10_Div.f (ct s) ((fromR s 1 : Nat) : Int) ((0 : Nat) : Int) NB (ct s) (q.1 : Int) (q.2 : Int) NB = some (ct s, (p1 : Int), (p2 : Int), NB) := by
   unfold r10_Apply.f at g2
   rw [if_neg (by decide), if_neg (by decide), if_neg (by decide)] at g2
   obtain ⟨⟨u1, u2, u3, u4⟩, k1, k2⟩ := Option.bind_eq_some_iff.mp g2
   rw [k1]; exact k2
  have g1' : fd_over.f (tv s) ((fromR s 1 : Nat) : Int) 0 (q.1 : Int) (q.2 : Int) = some ((p1 : Int), (p2 : Int)) := g1
  have g3' : r10_Div.f (ct s) ((fromR s 1 : Nat) : Int) 0 NB (ct s) (q.1 : Int) (q.2 : Int) NB = some (ct s, (p1 : Int), (p2 : Int), NB) := g3
  dsimp only
  rw [g1', g3', Option.bind_some, Option.bind_some]
  exact ⟨_, _, rfl, rfl⟩
 ·rw [if_neg hn, if_neg hn]
  exact ⟨_, _, rfl, rfl⟩
end Go.Proofs.YtmoimcblmmcffaaGreat.B

namespace Go.Proofs.YtmoimcblmmcffaaGreat.PLO
open Go.RowKit Go.Proofs.YtmoimcblmmcffaaGreat.PPC Go.Proofs.YtmoimcblmmcffaaGreat.PRA Go.Proofs.YtmoimcblmmcffaaGreat.PN Go.Proofs.YtmoimcblmmcffaaGreatW.PrintWords Go.Proofs.YtmoimcblmmcffaaGreatW.PrintLast Go.Proofs.YtmoimcblmmcffaaGreatW.PrintMore Go.Proofs.YtmoimcblmmcffaaGreatW.PrintZ
attribute [local go_sem] max2_int min2_int max_two min_two max_three min_three max_four min_four   -- for this text's walks alone
set_option linter.unusedVariables false
set_option linter.unusedSimpArgs false
theorem eqA24 (d : Nat) (w : World) (x0 y0 : Int) (x1 y1 : Int) (x2 y2 : Int) (x3 y3 : ByteArray) :
  (Op.equalIn (d + 2) 24 (.agg #[.int .i64 x0, .int .u64 x1, .int .u64 x2, .string x3]) (.agg #[.int .i64 y0, .int .u64 y1, .int .u64 y2, .string y3])).run Tryz.prog w = .ok (x0 == y0 && (x1 == y1 && (x2 == y2 && (x3.toList == y3.toList)))) w := by
 refine eqA_of Tryz.underlying24 (by kernel_rfl) ?_
 refine eqf_cons (by rfl) (by go_simp; rfl) (by go_simp; rfl) (by go_simp) ?_
 refine eqf_cons (by rfl) (by go_simp; rfl) (by go_simp; rfl) (by go_simp) ?_
 refine eqf_cons (by rfl) (by go_simp; rfl) (by go_simp; rfl) (by go_simp) ?_
 exact eqf_last (by rfl) (by go_simp; rfl) (by go_simp; rfl) (by go_simp)
end Go.Proofs.YtmoimcblmmcffaaGreat.PLO
