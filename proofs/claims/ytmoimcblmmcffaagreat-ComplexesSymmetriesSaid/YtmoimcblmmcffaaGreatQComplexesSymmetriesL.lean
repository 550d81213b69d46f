/- Contracts and plain laws that the law ComplexesSymmetries leans on (texts joined by program; what it does not come to is left out). -/
import Derived.Test.YtmoimcblmmcffaaGreatQComplexesSymmetriesB
import Derived.Test.YtmoimcblmmcffaaGreatQComplexesSymmetriesK

namespace Go.Proofs.YtmoimcblmmcffaaGreat.PLY
open Go.RowKit Go.Proofs.YtmoimcblmmcffaaGreat.PPC Go.Proofs.YtmoimcblmmcffaaGreat.PRA Go.Proofs.YtmoimcblmmcffaaGreatW.PrintWords Go.Proofs.YtmoimcblmmcffaaGreatW.PrintLast Go.Proofs.YtmoimcblmmcffaaGreatW.PrintMore Go.Proofs.YtmoimcblmmcffaaGreatW.PrintZ
attribute [local go_sem] max2_int min2_int max_two min_two max_three min_three max_four min_four   -- for this text's walks alone
set_option linter.unusedVariables false
set_option linter.unusedSimpArgs false
attribute [local go_sem high] eqA24 Go.Proofs.YtmoimcblmmcffaaGreat.NC.fld0

mutual
def l10_ComplexesSymmetries.j0 : Nat → Bool → Int → Int → Int → ByteArray → Int → Int → Int → ByteArray → Int → Int → Int → ByteArray → Int → Int → Int → ByteArray → Option (Bool)
 | 0, _, _, _, _, _, _, _, _, _, _, _, _, _, _, _, _, _ => none
 | k + 1, x47, x108000, x108001, x108002, x108003, x109000, x109001, x109002, x109003, x117000, x117001, x117002, x117003, x123000, x123001, x123002, x123003 => if x47 = true then (some false) else (l10_ComplexesSymmetries.l0 k (([0, 2] : List Int)) 0 x108000 x108001 x108002 x108003 x109000 x109001 x109002 x109003 x117000 x117001 x117002 x117003 x123000 x123001 x123002 x123003)
def l10_ComplexesSymmetries.l0 : Nat → List Int → Int → Int → Int → Int → ByteArray → Int → Int → Int → ByteArray → Int → Int → Int → ByteArray → Int → Int → Int → ByteArray → Option (Bool)
 | 0, _, _, _, _, _, _, _, _, _, _, _, _, _, _, _, _, _, _ => none
 | k + 1, x9, x10, x108000, x108001, x108002, x108003, x109000, x109001, x109002, x109003, x117000, x117001, x117002, x117003, x123000, x123001, x123002, x123003 => if x10 < 2 then (if 0 ≤ x10 then (if x10 < (x9.length : Int) then ((cx_Apply.f (rd x9 x10) x108000 x108001 x108002 x108003 x109000 x109001 x109002 x109003).bind fun bt127 => ((cx_Apply.f (rd x9 x10) x109000 x109001 x109002 x109003 x108000 x108001 x108002 x108003).bind fun bt134 => ((cx_Apply.f (rd x9 x10) x117000 x117001 x117002 x117003 x123000 x123001 x123002 x123003).bind fun bt141 => ((cx_Conjugate.f bt127.1 bt127.2.1 bt127.2.2.1 bt127.2.2.2.1).bind fun bt147 => (if bt127.2.2.2.2 = 0 then (if bt134.2.2.2.2 = 0 then (if (!(bt127.1 == bt134.1) || (!(bt127.2.1 == bt134.2.1) || (!(bt127.2.2.1 == bt134.2.2.1) || (!(bt127.2.2.2.1.toList == bt134.2.2.2.1.toList))))) = true then (some false) else (if bt141.2.2.2.2 = 0 then (if bt147.2.2.2.2 = 0 then ((l10_near.f bt141.1 bt141.2.1 bt141.2.2.1 bt141.2.2.2.1 bt147.1 bt147.2.1 bt147.2.2.1 bt147.2.2.2.1).bind fun t153 => (if t153 = true then (l10_ComplexesSymmetries.l0 k x9 (wrap64 (x10 + 1)) x108000 x108001 x108002 x108003 x109000 x109001 x109002 x109003 x117000 x117001 x117002 x117003 x123000 x123001 x123002 x123003) else (some false))) else (some false)) else (some false))) else (some false)) else (some false)))))) else (none)) else (none)) else ((cx_Conjugate.f x117000 x117001 x117002 x117003).bind fun bt154 => ((cx_SizeOf.f k x108000 x108001 x108002 x108003).bind fun bt160 => ((cx_SizeOf.f k x117000 x117001 x117002 x117003).bind fun bt166 => ((r10_Made.f x108000 x108002 x108001).bind fun bt172 => ((cx_SizeOf.f k bt172.1 bt172.2.1 bt172.2.2.1 bt172.2.2.2).bind fun bt176 => ((r10_PartType.f x108000).bind fun t182 => ((r8_Parts.f t182 x108002).bind fun bt183 => (if bt154.2.2.2.2 = 0 then (if (bt154.1 == x108000 && (bt154.2.1 == x108001 && (bt154.2.2.1 == x108002 && (bt154.2.2.2.1.toList == x108003.toList)))) = true then (if bt160.2.2.2.2 = 0 then (if bt166.2.2.2.2 = 0 then (if bt176.2.2.2.2 = 0 then (if (bt160.1 == bt166.1 && (bt160.2.1 == bt166.2.1 && (bt160.2.2.1 == bt166.2.2.1 && (bt160.2.2.2.1.toList == bt166.2.2.2.1.toList)))) = true then (some (bt160.1 == bt176.1 && (bt160.2.1 == bt176.2.1 && (bt160.2.2.1 == bt176.2.2.1 && (bt160.2.2.2.1.toList == bt176.2.2.2.1.toList))))) else (some false)) else (some false)) else (some false)) else (some false)) else (if bt183.1 = 3 then (if bt160.2.2.2.2 = 0 then (if bt166.2.2.2.2 = 0 then (if bt176.2.2.2.2 = 0 then (if (bt160.1 == bt166.1 && (bt160.2.1 == bt166.2.1 && (bt160.2.2.1 == bt166.2.2.1 && (bt160.2.2.2.1.toList == bt166.2.2.2.1.toList)))) = true then (some (bt160.1 == bt176.1 && (bt160.2.1 == bt176.2.1 && (bt160.2.2.1 == bt176.2.2.1 && (bt160.2.2.2.1.toList == bt176.2.2.2.1.toList))))) else (some false)) else (some false)) else (some false)) else (some false)) else (some false))) else (some false)))))))))
end
def l10_ComplexesSymmetries.f (k : Nat) (a0_0 : Int) (a0_1 : Int) (a0_2 : Int) (a0_3 : ByteArray) (a1_0 : Int) (a1_1 : Int) (a1_2 : Int) (a1_3 : ByteArray) : Option (Bool) := (l10_awake.f).bind fun t109 => (if t109 = true then ((r10_TwoErr.f a0_0 a0_1 a0_2 a0_3 a1_0 a1_1 a1_2 a1_3).bind fun t110 => (if t110 = 0 then ((cx_Conjugate.f a0_0 a0_1 a0_2 a0_3).bind fun bt111 => ((cx_Conjugate.f a1_0 a1_1 a1_2 a1_3).bind fun bt117 => (if bt111.2.2.2.2 = 0 then (l10_ComplexesSymmetries.j0 k (bt117.2.2.2.2 != 0) a0_0 a0_1 a0_2 a0_3 a1_0 a1_1 a1_2 a1_3 bt111.1 bt111.2.1 bt111.2.2.1 bt111.2.2.2.1 bt117.1 bt117.2.1 bt117.2.2.1 bt117.2.2.2.1) else (l10_ComplexesSymmetries.j0 k true a0_0 a0_1 a0_2 a0_3 a1_0 a1_1 a1_2 a1_3 bt111.1 bt111.2.1 bt111.2.2.1 bt111.2.2.2.1 bt117.1 bt117.2.1 bt117.2.2.1 bt117.2.2.2.1)))) else (some true))) else (some false))
def l10_ComplexesSymmetries.T13 : Bool × List (List Nat × List Nat) := (true, [([], []), ([], []), ([0, 1], [0, 1]), ([2], [2]), ([], []), ([], []), ([3, 4, 5], [3, 4, 5]), ([6], [6]), ([7], [7]), ([7], [7]), ([], []), ([10, 8, 6, 0, 1, 2, 3, 4, 5, 6, 7, 8, 10], [8, 10]), ([9, 11, 0, 1, 2, 3, 4, 5, 6, 7, 8, 9, 10, 11], [9])])
def l10_ComplexesSymmetries.B13 : List Nat := [0, 0, 3, 7, 0, 0, 63, 127, 255, 255, 0, 1535, 4095]
theorem l10_ComplexesSymmetries.tab13 : rtab .any (opsOf Tryz.f5 13) = l10_ComplexesSymmetries.T13 := by kernel_rfl
theorem l10_ComplexesSymmetries.bits13 : waitsOk l10_ComplexesSymmetries.T13.2 l10_ComplexesSymmetries.B13 = true := by kernel_rfl
def l10_ComplexesSymmetries.T14 : Bool × List (List Nat × List Nat) := (true, [([], []), ([], []), ([0, 1], [0, 1]), ([2], [2]), ([], []), ([], []), ([3, 4, 5], [3, 4, 5]), ([6], [6]), ([7], [7]), ([7], [7]), ([], []), ([10, 8, 6, 0, 1, 2, 3, 4, 5, 6, 7, 8, 10], [8, 10]), ([9, 11, 0, 1, 2, 3, 4, 5, 6, 7, 8, 9, 10, 11], [9])])
def l10_ComplexesSymmetries.B14 : List Nat := [0, 0, 3, 7, 0, 0, 63, 127, 255, 255, 0, 1535, 4095]
theorem l10_ComplexesSymmetries.tab14 : rtab .any (opsOf Tryz.f5 14) = l10_ComplexesSymmetries.T14 := by kernel_rfl
theorem l10_ComplexesSymmetries.bits14 : waitsOk l10_ComplexesSymmetries.T14.2 l10_ComplexesSymmetries.B14 = true := by kernel_rfl
def l10_ComplexesSymmetries.T15 : Bool × List (List Nat × List Nat) := (true, [([], []), ([], []), ([0, 1], [0, 1]), ([2], [2]), ([], []), ([], []), ([3, 4, 5], [3, 4, 5]), ([6], [6]), ([7], [7]), ([7], [7]), ([], []), ([10, 8, 6, 0, 1, 2, 3, 4, 5, 6, 7, 8, 10], [8, 10]), ([9, 11, 0, 1, 2, 3, 4, 5, 6, 7, 8, 9, 10, 11], [9])])
def l10_ComplexesSymmetries.B15 : List Nat := [0, 0, 3, 7, 0, 0, 63, 127, 255, 255, 0, 1535, 4095]
theorem l10_ComplexesSymmetries.tab15 : rtab .any (opsOf Tryz.f5 15) = l10_ComplexesSymmetries.T15 := by kernel_rfl
theorem l10_ComplexesSymmetries.bits15 : waitsOk l10_ComplexesSymmetries.T15.2 l10_ComplexesSymmetries.B15 = true := by kernel_rfl
def l10_ComplexesSymmetries.T23 : Bool × List (List Nat × List Nat) := (true, [([], []), ([0], [0]), ([1], [1]), ([], []), ([3], [3]), ([2, 4, 2], [2, 4]), ([5], [5]), ([6], [6]), ([7, 5, 0, 1, 2, 3, 4, 5, 6, 7], [7])])
def l10_ComplexesSymmetries.B23 : List Nat := [0, 1, 3, 0, 8, 31, 63, 127, 255]
theorem l10_ComplexesSymmetries.tab23 : rtab .any (opsOf Tryz.f5 23) = l10_ComplexesSymmetries.T23 := by kernel_rfl
theorem l10_ComplexesSymmetries.bits23 : waitsOk l10_ComplexesSymmetries.T23.2 l10_ComplexesSymmetries.B23 = true := by kernel_rfl
set_option maxHeartbeats 8000000 in
set_option maxRecDepth 100000 in
theorem l10_ComplexesSymmetries.calls (k : Nat) (a0_0 : Int) (a0_1 : Int) (a0_2 : Int) (a0_3 : ByteArray) (a1_0 : Int) (a1_1 : Int) (a1_2 : Int) (a1_3 : ByteArray) (w : World) (h : l10_ComplexesSymmetries.f k a0_0 a0_1 a0_2 a0_3 a1_0 a1_1 a1_2 a1_3 = some true) :
  Calls Tryz.prog 5 #[.agg #[.int .i64 a0_0, .int .u64 a0_1, .int .u64 a0_2, .string a0_3], .agg #[.int .i64 a1_0, .int .u64 a1_1, .int .u64 a1_2, .string a1_3]] w fun e w' => e = .returned (.bool true) ∧ Below w.heap.size w w' := by
 have hu24 := Tryz.underlying24
 have HB := Aside0.mk (Below.refl w.heap.size w)
 have H : ((l10_awake.f).bind fun t109 => (if t109 = true then ((r10_TwoErr.f a0_0 a0_1 a0_2 a0_3 a1_0 a1_1 a1_2 a1_3).bind fun t110 => (if t110 = 0 then ((cx_Conjugate.f a0_0 a0_1 a0_2 a0_3).bind fun bt111 => ((cx_Conjugate.f a1_0 a1_1 a1_2 a1_3).bind fun bt117 => (if bt111.2.2.2.2 = 0 then (l10_ComplexesSymmetries.j0 k (bt117.2.2.2.2 != 0) a0_0 a0_1 a0_2 a0_3 a1_0 a1_1 a1_2 a1_3 bt111.1 bt111.2.1 bt111.2.2.1 bt111.2.2.2.1 bt117.1 bt117.2.1 bt117.2.2.1 bt117.2.2.2.1) else (l10_ComplexesSymmetries.j0 k true a0_0 a0_1 a0_2 a0_3 a1_0 a1_1 a1_2 a1_3 bt111.1 bt111.2.1 bt111.2.2.1 bt111.2.2.2.1 bt117.1 bt117.2.1 bt117.2.2.1 bt117.2.2.2.1)))) else (some true))) else (some false))) = some true := h
 clear h
 replace H := Option.bind_eq_some_iff.mp H
 obtain ⟨t109, A3, H⟩ := H
 try dsimp only at H
 replace A3 := Aside0.mk A3
 by_cases c4 : t109 = true
 ·subst c4
  have H1 : ((r10_TwoErr.f a0_0 a0_1 a0_2 a0_3 a1_0 a1_1 a1_2 a1_3).bind fun t110 => (if t110 = 0 then ((cx_Conjugate.f a0_0 a0_1 a0_2 a0_3).bind fun bt111 => ((cx_Conjugate.f a1_0 a1_1 a1_2 a1_3).bind fun bt117 => (if bt111.2.2.2.2 = 0 then (l10_ComplexesSymmetries.j0 k (bt117.2.2.2.2 != 0) a0_0 a0_1 a0_2 a0_3 a1_0 a1_1 a1_2 a1_3 bt111.1 bt111.2.1 bt111.2.2.1 bt111.2.2.2.1 bt117.1 bt117.2.1 bt117.2.2.1 bt117.2.2.2.1) else (l10_ComplexesSymmetries.j0 k true a0_0 a0_1 a0_2 a0_3 a1_0 a1_1 a1_2 a1_3 bt111.1 bt111.2.1 bt111.2.2.1 bt111.2.2.2.1 bt117.1 bt117.2.1 bt117.2.2.1 bt117.2.2.2.1)))) else (some true))) = some true := by first | (rw [if_pos rfl] at H; exact H) | rfl
  clear H
  have H := H1
  clear H1
  replace H := Option.bind_eq_some_iff.mp H
  obtain ⟨t110, A5, H⟩ := H
  try dsimp only at H
  replace A5 := Aside0.mk A5
  by_cases c6 : t110 = 0
  ·rw [if_pos c6] at H
   have c6b0 : (t110 == 0) = true := beq_iff_eq.mpr c6
   have c6b1 : (t110 != 0) = false := bne_eq_false_iff_eq.mpr c6
   clear c6
   replace H := Option.bind_eq_some_iff.mp H
   obtain ⟨⟨t111, t112, t113, t114, t115⟩, A7, H⟩ := H
   try dsimp only at H
   replace A7 := Aside0.mk A7
   replace H := Option.bind_eq_some_iff.mp H
   obtain ⟨⟨t117, t118, t119, t120, t121⟩, A8, H⟩ := H
   try dsimp only at H
   replace A8 := Aside0.mk A8
   have HC9 := Aside0.mk H
   clear H
   go_enter Tryz.func5, Tryz.ntmps5
   go_upto_region 7 with (first | ((with_reducible refine gate_dst (N := 2) rfl ?_); refine bxe 2 (cs := #[.int .i64 a0_0, .int .u64 a0_1, .int .u64 a0_2, .string a0_3]) (t := 24) ?_; intro gb107 hg w10 hbox hb; have BK107 := Aside0.mk hbox; have GW107 := bsz HB hg; have GE107 := bsz HB hg; replace HB := bls HB hb; clear hb hbox hg) | ((with_reducible refine gate_dst (N := 3) rfl ?_); refine bxe 3 (cs := #[.int .i64 a1_0, .int .u64 a1_1, .int .u64 a1_2, .string a1_3]) (t := 24) ?_; intro gb108 hg w11 hbox hb; have BK108 := Aside0.mk hbox; have GW108 := bsz HB hg; have GE108 := bsz HB hg; have NB107_108 := bnl BK107 hg; have NB108_107 := bng BK107 hg; replace BK107 := bkb BK107 hb; replace HB := bls HB hb; clear hb hbox hg) | ((with_reducible refine gate_callee (f := 10) rfl ?_); refine gL 26 Tryz.func10 #[] ?_; (with_reducible refine (l10_awake.calls  true _ A3.out).mono ?_); rintro e w12 ⟨rfl, hb⟩; refine ⟨_, rfl, ?_⟩; replace BK107 := bkb BK107 hb; replace BK108 := bkb BK108 hb; replace HB := bls HB hb; clear hb; have hnb13 := NB107_108.out; have hnc13 := NB108_107.out; obtain ⟨hcz14_0, hcz14_1, hcz14_2, hcz14_3, hfz14_0, hfz14_1, hfz14_2, hfz14_3⟩ := cf4 BK107; have hcz15_0 : w12.cell? ⟨gb108, 0, none⟩ = some (.int .i64 a1_0) := (blk_cell BK108.out 0).trans rfl; have hcz15_1 : w12.cell? ⟨gb108, 1, none⟩ = some (.int .u64 a1_1) := (blk_cell BK108.out 1).trans rfl; have hcz15_2 : w12.cell? ⟨gb108, 2, none⟩ = some (.int .u64 a1_2) := (blk_cell BK108.out 2).trans rfl; have hcz15_3 : w12.cell? ⟨gb108, 3, none⟩ = some (.string a1_3) := (blk_cell BK108.out 3).trans rfl; have hfz15_0 := blk_frozen BK108.out 0; have hfz15_1 := blk_frozen BK108.out 1; have hfz15_2 := blk_frozen BK108.out 2; have hfz15_3 := blk_frozen BK108.out 3) | ((with_reducible refine gate_callee (f := 13) rfl ?_); refine gL 30 Tryz.func13 #[.agg #[.int .i64 a0_0, .int .u64 a0_1, .int .u64 a0_2, .string a0_3], .agg #[.int .i64 a1_0, .int .u64 a1_1, .int .u64 a1_2, .string a1_3]] ?_; (with_reducible refine (r10_TwoErr.calls a0_0 a0_1 a0_2 a0_3 a1_0 a1_1 a1_2 a1_3 t110 _ A5.out).mono ?_); rintro e w16 ⟨rfl, hb⟩; refine ⟨_, rfl, ?_⟩; replace BK107 := bkb BK107 hb; replace BK108 := bkb BK108 hb; replace HB := bls HB hb; clear hb; have hcz17_0 : w16.cell? ⟨gb107, 0, none⟩ = some (.int .i64 a0_0) := (blk_cell BK107.out 0).trans rfl; have hcz17_1 : w16.cell? ⟨gb107, 1, none⟩ = some (.int .u64 a0_1) := (blk_cell BK107.out 1).trans rfl; have hcz17_2 : w16.cell? ⟨gb107, 2, none⟩ = some (.int .u64 a0_2) := (blk_cell BK107.out 2).trans rfl; have hcz17_3 : w16.cell? ⟨gb107, 3, none⟩ = some (.string a0_3) := (blk_cell BK107.out 3).trans rfl; have hfz17_0 := blk_frozen BK107.out 0; have hfz17_1 := blk_frozen BK107.out 1; have hfz17_2 := blk_frozen BK107.out 2; have hfz17_3 := blk_frozen BK107.out 3) | ((with_reducible refine gate_callee (f := 25) rfl ?_); refine gL 34 Tryz.func25 #[.agg #[.int .i64 a0_0, .int .u64 a0_1, .int .u64 a0_2, .string a0_3]] ?_; (with_reducible refine (cx_Conjugate.calls a0_0 a0_1 a0_2 a0_3 t111 t112 t113 t114 t115 _ A7.out).mono ?_); rintro e w18 ⟨rfl, hb⟩; refine ⟨_, rfl, ?_⟩; replace BK107 := bkb BK107 hb; replace BK108 := bkb BK108 hb; replace HB := bls HB hb; clear hb) | ((with_reducible refine gate_dst (N := 5) rfl ?_); refine bxe 5 (cs := #[.int .i64 0, .int .u64 0, .int .u64 0, .string (⟨#[]⟩ : ByteArray)]) (t := 24) ?_; intro gb116 hg w19 hbox hb; have BK116 := Aside0.mk hbox; have GW116 := bsz HB hg; have GE116 := bsz HB hg; have NB107_116 := bnl BK107 hg; have NB116_107 := bng BK107 hg; have NB108_116 := bnl BK108 hg; have NB116_108 := bng BK108 hg; replace BK107 := bkb BK107 hb; replace BK108 := bkb BK108 hb; replace HB := bls HB hb; clear hb hbox hg; have hnb20 := NB116_107.out; have hnc20 := NB107_116.out; have hnb21 := NB116_108.out; have hnc21 := NB108_116.out; obtain ⟨hcz22_0, hcz22_1, hcz22_2, hcz22_3, hfz22_0, hfz22_1, hfz22_2, hfz22_3⟩ := cf4 BK116; have hcz23_0 : w19.cell? ⟨gb108, 0, none⟩ = some (.int .i64 a1_0) := (blk_cell BK108.out 0).trans rfl; have hcz23_1 : w19.cell? ⟨gb108, 1, none⟩ = some (.int .u64 a1_1) := (blk_cell BK108.out 1).trans rfl; have hcz23_2 : w19.cell? ⟨gb108, 2, none⟩ = some (.int .u64 a1_2) := (blk_cell BK108.out 2).trans rfl; have hcz23_3 : w19.cell? ⟨gb108, 3, none⟩ = some (.string a1_3) := (blk_cell BK108.out 3).trans rfl; have hfz23_0 := blk_frozen BK108.out 0; have hfz23_1 := blk_frozen BK108.out 1; have hfz23_2 := blk_frozen BK108.out 2; have hfz23_3 := blk_frozen BK108.out 3) | ((with_reducible refine gate_callee (f := 25) rfl ?_); refine gL 39 Tryz.func25 #[.agg #[.int .i64 a1_0, .int .u64 a1_1, .int .u64 a1_2, .string a1_3]] ?_; (with_reducible refine (cx_Conjugate.calls a1_0 a1_1 a1_2 a1_3 t117 t118 t119 t120 t121 _ A8.out).mono ?_); rintro e w24 ⟨rfl, hb⟩; refine ⟨_, rfl, ?_⟩; replace BK107 := Aside0.mk (blk_below (g := gb107) (o := .cells #[.int .i64 a0_0, .int .u64 a0_1, .int .u64 a0_2, .string a0_3] 24 (0, 0)) (bkf BK107).out hb); replace BK108 := Aside0.mk (blk_below (g := gb108) (o := .cells #[.int .i64 a1_0, .int .u64 a1_1, .int .u64 a1_2, .string a1_3] 24 (0, 0)) (bkf BK108).out hb); replace BK116 := Aside0.mk (blk_below (g := gb116) (o := .cells #[.int .i64 t111, .int .u64 t112, .int .u64 t113, .string t114] 24 (0, 0)) (by (with_reducible repeat (first | refine blk_drewN ?_ _ | refine blk_drew ?_ | refine blk_alloc ?_ _)); refine blk_put (cs := #[.int .i64 t111, .int .u64 t112, .int .u64 t113, .string (⟨#[]⟩ : ByteArray)]) ?_ 3 _ rfl; (with_reducible repeat (first | refine blk_drewN ?_ _ | refine blk_drew ?_ | refine blk_alloc ?_ _)); refine blk_put (cs := #[.int .i64 t111, .int .u64 t112, .int .u64 0, .string (⟨#[]⟩ : ByteArray)]) ?_ 2 _ rfl; (with_reducible repeat (first | refine blk_drewN ?_ _ | refine blk_drew ?_ | refine blk_alloc ?_ _)); refine blk_put (cs := #[.int .i64 t111, .int .u64 0, .int .u64 0, .string (⟨#[]⟩ : ByteArray)]) ?_ 1 _ rfl; (with_reducible repeat (first | refine blk_drewN ?_ _ | refine blk_drew ?_ | refine blk_alloc ?_ _)); refine blk_put (cs := #[.int .i64 0, .int .u64 0, .int .u64 0, .string (⟨#[]⟩ : ByteArray)]) ?_ 0 _ rfl; (with_reducible repeat (first | refine blk_drewN ?_ _ | refine blk_drew ?_ | refine blk_alloc ?_ _)); exact BK116.out) hb); replace HB := bls HB hb; clear hb) | ((with_reducible refine gate_dst (N := 7) rfl ?_); refine bxe 7 (cs := #[.int .i64 0, .int .u64 0, .int .u64 0, .string (⟨#[]⟩ : ByteArray)]) (t := 24) ?_; intro gb122 hg w25 hbox hb; have BK122 := Aside0.mk hbox; have GW122 := bsz HB hg; have GE122 := bsz HB hg; have NB107_122 := bnl BK107 hg; have NB122_107 := bng BK107 hg; have NB108_122 := bnl BK108 hg; have NB122_108 := bng BK108 hg; have NB116_122 := bnl BK116 hg; have NB122_116 := bng BK116 hg; replace BK107 := bkb BK107 hb; replace BK108 := bkb BK108 hb; replace BK116 := bkb BK116 hb; replace HB := bls HB hb; clear hb hbox hg; have hnb26 := NB122_107.out; have hnc26 := NB107_122.out; have hnb27 := NB122_108.out; have hnc27 := NB108_122.out; have hnb28 := NB122_116.out; have hnc28 := NB116_122.out; have hcz29_0 : w25.cell? ⟨gb122, 0, none⟩ = some (.int .i64 0) := (blk_cell BK122.out 0).trans rfl; have hcz29_1 : w25.cell? ⟨gb122, 1, none⟩ = some (.int .u64 0) := (blk_cell BK122.out 1).trans rfl; have hcz29_2 : w25.cell? ⟨gb122, 2, none⟩ = some (.int .u64 0) := (blk_cell BK122.out 2).trans rfl; have hcz29_3 : w25.cell? ⟨gb122, 3, none⟩ = some (.string (⟨#[]⟩ : ByteArray)) := (blk_cell BK122.out 3).trans rfl; have hfz29_0 := blk_frozen BK122.out 0; have hfz29_1 := blk_frozen BK122.out 1; have hfz29_2 := blk_frozen BK122.out 2; have hfz29_3 := blk_frozen BK122.out 3))
   (try simp only [Act.put, List.setIfInBounds_toArray, List.set_cons_zero, List.set_cons_succ])
   go_cut [47] (fun v47 wc => ∃ (kq : Nat) (x47_8 : Bool), v47 = .bool x47_8 ∧ Aside0 (l10_ComplexesSymmetries.j0 kq x47_8 a0_0 a0_1 a0_2 a0_3 a1_0 a1_1 a1_2 a1_3 t111 t112 t113 t114 t117 t118 t119 t120 = some true) ∧ Aside0 (kq ≤ k) ∧ Aside0 (wc.heap[gb107]? = some (.cells #[.int .i64 a0_0, .int .u64 a0_1, .int .u64 a0_2, .string a0_3] 24 (0, 0))) ∧ Aside0 (wc.heap[gb108]? = some (.cells #[.int .i64 a1_0, .int .u64 a1_1, .int .u64 a1_2, .string a1_3] 24 (0, 0))) ∧ Aside0 (wc.heap[gb116]? = some (.cells #[.int .i64 t111, .int .u64 t112, .int .u64 t113, .string t114] 24 (0, 0))) ∧ Aside0 (wc.heap[gb122]? = some (.cells #[.int .i64 t117, .int .u64 t118, .int .u64 t119, .string t120] 24 (0, 0))) ∧ Aside0 (Below w.heap.size w wc))
   case first =>
    have H := HC9.out
    clear HC9
    by_cases c30 : t115 = 0
    ·rw [if_pos c30] at H
     have c30b0 : (t115 == 0) = true := beq_iff_eq.mpr c30
     have c30b1 : (t115 != 0) = false := bne_eq_false_iff_eq.mpr c30
     clear c30
     (first | rw [c30b0] | (simp only [i64_w, i32_w]; rw [c30b0]) | skip)
     have H' := Aside0.mk H
     clear H
     go_wp2
     go_meet
     case rel => exact ⟨_, ((t121 != 0)), (by first | rfl | (simp; done) | (simp [*]; done)), H', ⟨by first | omega | exact Nat.le_refl _⟩, bkf BK107, bkf BK108, bkf BK116, ⟨by (with_reducible repeat (first | refine blk_drewN ?_ _ | refine blk_drew ?_ | refine blk_alloc ?_ _)); refine blk_put (cs := #[.int .i64 t117, .int .u64 t118, .int .u64 t119, .string (⟨#[]⟩ : ByteArray)]) ?_ 3 _ rfl; (with_reducible repeat (first | refine blk_drewN ?_ _ | refine blk_drew ?_ | refine blk_alloc ?_ _)); refine blk_put (cs := #[.int .i64 t117, .int .u64 t118, .int .u64 0, .string (⟨#[]⟩ : ByteArray)]) ?_ 2 _ rfl; (with_reducible repeat (first | refine blk_drewN ?_ _ | refine blk_drew ?_ | refine blk_alloc ?_ _)); refine blk_put (cs := #[.int .i64 t117, .int .u64 0, .int .u64 0, .string (⟨#[]⟩ : ByteArray)]) ?_ 1 _ rfl; (with_reducible repeat (first | refine blk_drewN ?_ _ | refine blk_drew ?_ | refine blk_alloc ?_ _)); refine blk_put (cs := #[.int .i64 0, .int .u64 0, .int .u64 0, .string (⟨#[]⟩ : ByteArray)]) ?_ 0 _ rfl; (with_reducible repeat (first | refine blk_drewN ?_ _ | refine blk_drew ?_ | refine blk_alloc ?_ _)); exact BK122.out⟩, blt HB⟩
    ·rw [if_neg c30] at H
     have c30b0 : (t115 == 0) = false := beq_eq_false_iff_ne.mpr c30
     have c30b1 : (t115 != 0) = true := bne_iff_ne.mpr c30
     (first | rw [c30b0] | (simp only [i64_w, i32_w]; rw [c30b0]) | skip)
     exact absurd H (by first | decide | (cases k <;> simp [l10_ComplexesSymmetries.j0, l10_ComplexesSymmetries.l0]))
   case rest =>
    clear HC9
    try clear c1
    try clear c2
    try clear p2
    try clear c3
    try clear c4
    try clear c5
    try clear c6
    try clear c6b0
    try clear c6b1
    try clear c10
    try clear c13
    try clear c20
    try clear c21
    try clear c25
    try clear c26
    try clear c27
    try clear c28
    try clear c30
    try clear c30b0
    try clear c30b1
    try clear hcz14_0
    try clear hcz14_1
    try clear hcz14_2
    try clear hcz14_3
    try clear hcz15_0
    try clear hcz15_1
    try clear hcz15_2
    try clear hcz15_3
    try clear hcz17_0
    try clear hcz17_1
    try clear hcz17_2
    try clear hcz17_3
    try clear hcz22_0
    try clear hcz22_1
    try clear hcz22_2
    try clear hcz22_3
    try clear hcz23_0
    try clear hcz23_1
    try clear hcz23_2
    try clear hcz23_3
    try clear hcz29_0
    try clear hcz29_1
    try clear hcz29_2
    try clear hcz29_3
    try clear hfz14_0
    try clear hfz14_1
    try clear hfz14_2
    try clear hfz14_3
    try clear hfz15_0
    try clear hfz15_1
    try clear hfz15_2
    try clear hfz15_3
    try clear hfz17_0
    try clear hfz17_1
    try clear hfz17_2
    try clear hfz17_3
    try clear hfz22_0
    try clear hfz22_1
    try clear hfz22_2
    try clear hfz22_3
    try clear hfz23_0
    try clear hfz23_1
    try clear hfz23_2
    try clear hfz23_3
    try clear hfz29_0
    try clear hfz29_1
    try clear hfz29_2
    try clear hfz29_3
    obtain ⟨kq, x47_8, rfl, HA, HJ8, BK107, BK108, BK116, BK122, HB⟩ := hcut
    cases kq with
    | zero => exact absurd HA.out (by simp [l10_ComplexesSymmetries.j0])
    | succ kj8 =>
     have H := HA.out
     clear HA
     simp only [l10_ComplexesSymmetries.j0] at H
     by_cases c31 : x47_8 = true
     ·subst c31
      have H1 : (some false) = some true := by first | (rw [if_pos rfl] at H; exact H) | rfl
      clear H
      have H := H1
      clear H1
      exact absurd H (by first | decide | (cases kj8 <;> simp [l10_ComplexesSymmetries.j0, l10_ComplexesSymmetries.l0]))
     ·replace c31 := Bool.eq_false_iff.mpr c31
      subst c31
      have H1 : (l10_ComplexesSymmetries.l0 kj8 (([0, 2] : List Int)) 0 a0_0 a0_1 a0_2 a0_3 a1_0 a1_1 a1_2 a1_3 t111 t112 t113 t114 t117 t118 t119 t120) = some true := by first | (rw [if_neg (show ¬ (false = true) by decide)] at H; exact H) | rfl
      clear H
      have H := H1
      clear H1
      obtain ⟨y123, hy123⟩ : ∃ y_ : List Int, y_ = (([0, 2] : List Int)) := ⟨_, rfl⟩
      replace H : (l10_ComplexesSymmetries.l0 kj8 y123 0 a0_0 a0_1 a0_2 a0_3 a1_0 a1_1 a1_2 a1_3 t111 t112 t113 t114 t117 t118 t119 t120) = some true := by first | (rw [hy123]; with_reducible exact H) | (have H2_ := (Option.bind_some _ _).symm.trans H; rw [hy123]; with_reducible exact H2_) | (have H2_ := (Option.bind_some _ _).symm.trans H; with_reducible exact H2_) | with_reducible exact H | (rw [hy123]; exact H) | exact H
      have Ny123 := Aside0.mk hy123
      clear hy123
      have H' := Aside0.mk H
      clear H
      go_wp2_with (first | ((with_reducible refine gate_dst (N := 48) rfl ?_); refine Kd.R_lit (Kd.int .i64) _ 3 ?hg (N := 48) ?hd (xs := ([0, 2] : List Int)) (inner := [.int .i64 0, .int .i64 2]) (ok := fun _ => True) (okp := fun _ => True) ?hr ?hp (fun _ hk => hk) trivial (Below.refl _ _) (Nat.le_refl _) (by simp) ?_; (case hd => rfl); (case hg => rfl); (case hr => first | (go_simp; done) | (go_simp; rfl)); (case hp => exact (Reps.one (show Kd.M (Kd.int .i64) _ _ _ 0 [.int .i64 0] from rfl) (Reps.one (show Kd.M (Kd.int .i64) _ _ _ 2 [.int .i64 2] from rfl) (Reps.none _ _)))); intro v124 w32 ho33 hb hg_ hnew_; clear hg_ hnew_; (first | rw [← Ny123.out] at ho33 | (simp only [Int.reduceToNat] at ho33; rw [← Ny123.out] at ho33)); have HO125 := Aside0.mk (Kd.R_lower ho33 (below_size (blt HB).out)); replace BK107 := bkb BK107 hb; replace BK108 := bkb BK108 hb; replace BK116 := bkb BK116 hb; replace BK122 := bkb BK122 hb; replace HB := bls HB hb; clear hb ho33))
      go_loopg [10] kj8 (fun kq v10 w' => ∃ (x10_2 : Int), v10 = .int .i64 x10_2 ∧ Aside0 (l10_ComplexesSymmetries.l0 kq y123 x10_2 a0_0 a0_1 a0_2 a0_3 a1_0 a1_1 a1_2 a1_3 t111 t112 t113 t114 t117 t118 t119 t120 = some true) ∧ Aside0 (kq ≤ kj8) ∧ Aside0 (Kd.R (Kd.int .i64) 3 w' w.heap.size (fun _ => True) v124 y123) ∧ Aside0 (w'.heap[gb107]? = some (.cells #[.int .i64 a0_0, .int .u64 a0_1, .int .u64 a0_2, .string a0_3] 24 (0, 0))) ∧ Aside0 (w'.heap[gb108]? = some (.cells #[.int .i64 a1_0, .int .u64 a1_1, .int .u64 a1_2, .string a1_3] 24 (0, 0))) ∧ Aside0 (w'.heap[gb116]? = some (.cells #[.int .i64 t111, .int .u64 t112, .int .u64 t113, .string t114] 24 (0, 0))) ∧ Aside0 (w'.heap[gb122]? = some (.cells #[.int .i64 t117, .int .u64 t118, .int .u64 t119, .string t120] 24 (0, 0))) ∧ Aside0 (Below w.heap.size w w'))
      case atStart => exact ⟨(0), (by first | rfl | (simp; done) | (simp [*]; done)), H', ⟨Nat.le_refl _⟩, ⟨by (with_reducible repeat (first | apply Kd.R_alloc | apply Kd.R_drewN | apply Kd.R_drew)); exact HO125.out⟩, bks BK107, bks BK108, bks BK116, bks BK122, blt HB⟩
      case round =>
       clear H'
       try clear c1
       try clear c2
       try clear p2
       try clear c3
       try clear c4
       try clear c5
       try clear c6
       try clear c6b0
       try clear c6b1
       try clear c10
       try clear c13
       try clear c20
       try clear c21
       try clear c25
       try clear c26
       try clear c27
       try clear c28
       try clear c30
       try clear c30b0
       try clear c30b1
       try clear c31
       try clear hcz14_0
       try clear hcz14_1
       try clear hcz14_2
       try clear hcz14_3
       try clear hcz15_0
       try clear hcz15_1
       try clear hcz15_2
       try clear hcz15_3
       try clear hcz17_0
       try clear hcz17_1
       try clear hcz17_2
       try clear hcz17_3
       try clear hcz22_0
       try clear hcz22_1
       try clear hcz22_2
       try clear hcz22_3
       try clear hcz23_0
       try clear hcz23_1
       try clear hcz23_2
       try clear hcz23_3
       try clear hcz29_0
       try clear hcz29_1
       try clear hcz29_2
       try clear hcz29_3
       try clear hfz14_0
       try clear hfz14_1
       try clear hfz14_2
       try clear hfz14_3
       try clear hfz15_0
       try clear hfz15_1
       try clear hfz15_2
       try clear hfz15_3
       try clear hfz17_0
       try clear hfz17_1
       try clear hfz17_2
       try clear hfz17_3
       try clear hfz22_0
       try clear hfz22_1
       try clear hfz22_2
       try clear hfz22_3
       try clear hfz23_0
       try clear hfz23_1
       try clear hfz23_2
       try clear hfz23_3
       try clear hfz29_0
       try clear hfz29_1
       try clear hfz29_2
       try clear hfz29_3
       try clear p2
       obtain ⟨x10_2, rfl, HA, HK2, HO_9, BK107, BK108, BK116, BK122, HB⟩ := hrel
       cases gk with
       | zero => exact absurd HA.out (by simp [l10_ComplexesSymmetries.l0])
       | succ k2 =>
        have H := HA.out
        clear HA
        simp only [l10_ComplexesSymmetries.l0] at H
        by_cases c34 : x10_2 < 2
        ·rw [if_pos c34] at H
         have c34b0 : decide (x10_2 < 2) = true := decide_eq_true c34
         clear c34
         by_cases c35 : 0 ≤ x10_2
         ·rw [if_pos c35] at H
          have c35b0 : decide (0 ≤ x10_2) = true := decide_eq_true c35
          clear c35
          by_cases c36 : x10_2 < (y123.length : Int)
          ·rw [if_pos c36] at H
           have c36b0 : decide (x10_2 < (y123.length : Int)) = true := decide_eq_true c36
           clear c36
           replace H := Option.bind_eq_some_iff.mp H
           obtain ⟨⟨t127, t128, t129, t130, t131⟩, A37, H⟩ := H
           try dsimp only at H
           replace A37 := Aside0.mk A37
           replace H := Option.bind_eq_some_iff.mp H
           obtain ⟨⟨t134, t135, t136, t137, t138⟩, A38, H⟩ := H
           try dsimp only at H
           replace A38 := Aside0.mk A38
           replace H := Option.bind_eq_some_iff.mp H
           obtain ⟨⟨t141, t142, t143, t144, t145⟩, A39, H⟩ := H
           try dsimp only at H
           replace A39 := Aside0.mk A39
           replace H := Option.bind_eq_some_iff.mp H
           obtain ⟨⟨t147, t148, t149, t150, t151⟩, A40, H⟩ := H
           try dsimp only at H
           replace A40 := Aside0.mk A40
           by_cases c41 : t131 = 0
           ·rw [if_pos c41] at H
            have c41b0 : (t131 == 0) = true := beq_iff_eq.mpr c41
            have c41b1 : (t131 != 0) = false := bne_eq_false_iff_eq.mpr c41
            clear c41
            by_cases c42 : t138 = 0
            ·rw [if_pos c42] at H
             have c42b0 : (t138 == 0) = true := beq_iff_eq.mpr c42
             have c42b1 : (t138 != 0) = false := bne_eq_false_iff_eq.mpr c42
             clear c42
             by_cases c43 : (!(t127 == t134) || (!(t128 == t135) || (!(t129 == t136) || (!(t130.toList == t137.toList))))) = true
             ·rw [if_pos c43] at H
              have c43b0 : (!(t127 == t134) || (!(t128 == t135) || (!(t129 == t136) || (!(t130.toList == t137.toList))))) = true := c43
              clear c43
              exact absurd H (by first | decide | (cases k2 <;> simp [l10_ComplexesSymmetries.j0, l10_ComplexesSymmetries.l0]))
             ·rw [if_neg c43] at H
              have c43b0 : (!(t127 == t134) || (!(t128 == t135) || (!(t129 == t136) || (!(t130.toList == t137.toList))))) = false := by simpa using c43
              clear c43
              by_cases c44 : t145 = 0
              ·rw [if_pos c44] at H
               have c44b0 : (t145 == 0) = true := beq_iff_eq.mpr c44
               have c44b1 : (t145 != 0) = false := bne_eq_false_iff_eq.mpr c44
               clear c44
               by_cases c45 : t151 = 0
               ·rw [if_pos c45] at H
                have c45b0 : (t151 == 0) = true := beq_iff_eq.mpr c45
                have c45b1 : (t151 != 0) = false := bne_eq_false_iff_eq.mpr c45
                clear c45
                replace H := Option.bind_eq_some_iff.mp H
                obtain ⟨t153, A46, H⟩ := H
                try dsimp only at H
                replace A46 := Aside0.mk A46
                by_cases c47 : t153 = true
                ·subst c47
                 have H1 : (l10_ComplexesSymmetries.l0 k2 y123 (wrap64 (x10_2 + 1)) a0_0 a0_1 a0_2 a0_3 a1_0 a1_1 a1_2 a1_3 t111 t112 t113 t114 t117 t118 t119 t120) = some true := by first | (rw [if_pos rfl] at H; exact H) | rfl
                 clear H
                 have H := H1
                 clear H1
                 have H' := Aside0.mk H
                 clear H
                 try go_wp2
                 replace HO_9 := Aside0.mk (Kd.R_drew HO_9.out)
                 replace BK107 := Aside0.mk (blk_drew BK107.out)
                 replace BK108 := Aside0.mk (blk_drew BK108.out)
                 replace BK116 := Aside0.mk (blk_drew BK116.out)
                 replace BK122 := Aside0.mk (blk_drew BK122.out)
                 replace HB := Aside0.mk (below_drew1 HB.out)
                 obtain ⟨Ao49, co49, eo49⟩ := Kd.R_slice HO_9.out
                 (first | subst eo49 | (injection eo49 with f1_ f2_ f3_; have f4_ := f1_.symm; have f5_ := f3_.symm; clear f1_ f2_ f3_; subst f4_; subst f5_))
                 have p126 : 0 ≤ (x10_2 : Int) := of_decide_eq_true (by first | (with_reducible assumption) | assumption)
                 have q126 : x10_2 < (y123.length : Int) := of_decide_eq_true (by first | (with_reducible assumption) | assumption)
                 obtain ⟨ad126, e126, hx126_0⟩ := Kd.at_int (Kd.R_reads' HO_9.out).2.2 x10_2 p126 q126
                 cases e126
                 replace p126 := eq_true p126
                 replace q126 := eq_true q126
                 refine start_ (n := 13) (S := fun w' => w'.cell? ⟨gb107, 0, none⟩ = some (.int .i64 a0_0) ∧ w'.cell? ⟨gb107, 1, none⟩ = some (.int .u64 a0_1) ∧ w'.cell? ⟨gb107, 2, none⟩ = some (.int .u64 a0_2) ∧ w'.cell? ⟨gb107, 3, none⟩ = some (.string a0_3) ∧ w'.cell? ⟨gb108, 0, none⟩ = some (.int .i64 a1_0) ∧ w'.cell? ⟨gb108, 1, none⟩ = some (.int .u64 a1_1) ∧ w'.cell? ⟨gb108, 2, none⟩ = some (.int .u64 a1_2) ∧ w'.cell? ⟨gb108, 3, none⟩ = some (.string a1_3) ∧ w'.cell? (ad126.add (x10_2).toNat) = some (.int .i64 (rd y123 x10_2))) (ds := []) #[false, false, false, false, false, false, false, false, false, false, false, false, false] (by kernel_rfl) rfl rfl ⟨(blk_cell BK107.out 0).trans rfl, (blk_cell BK107.out 1).trans rfl, (blk_cell BK107.out 2).trans rfl, (blk_cell BK107.out 3).trans rfl, (blk_cell BK108.out 0).trans rfl, (blk_cell BK108.out 1).trans rfl, (blk_cell BK108.out 2).trans rfl, (blk_cell BK108.out 3).trans rfl, hx126_0⟩ (fun hHeld => ?_); refine with_tabW l10_ComplexesSymmetries.tab13 l10_ComplexesSymmetries.bits13 (fun HT_ HW_ => ?_)
                 generalize wr.drew = w48 at HO_9 BK107 BK108 BK116 BK122 HB hx126_0 hHeld ⊢
                 refine pu 0 54 HT_ ?_
                 refine pu 1 55 HT_ ?_
                 refine pu 2 56 HT_ ?_
                 refine tk 3 57 HT_ HW_ hHeld ?_
                 refine tk 4 58 HT_ HW_ hHeld ?_
                 refine tk 5 59 HT_ HW_ hHeld ?_
                 refine join_ (σ := Nat) 2 #[true, true, true, true, true, true, true, true, true, true, true, false, false] (fun s_ => [(60, .tuple #[.agg #[.int .i64 t127, .int .u64 t128, .int .u64 t129, .string t130], .int .i64 t131]), (11, .pointer (some ⟨s_, 0, none⟩)), (53, .tuple #[.agg #[.int .i64 t127, .int .u64 t128, .int .u64 t129, .string t130], .int .i64 t131]), (61, .agg #[.int .i64 t127, .int .u64 t128, .int .u64 t129, .string t130]), (62, .int .i64 t131)]) (fun s_ w' => (w'.cell? ⟨gb107, 0, none⟩ = some (.int .i64 a0_0) ∧ w'.cell? ⟨gb107, 1, none⟩ = some (.int .u64 a0_1) ∧ w'.cell? ⟨gb107, 2, none⟩ = some (.int .u64 a0_2) ∧ w'.cell? ⟨gb107, 3, none⟩ = some (.string a0_3) ∧ w'.cell? ⟨gb108, 0, none⟩ = some (.int .i64 a1_0) ∧ w'.cell? ⟨gb108, 1, none⟩ = some (.int .u64 a1_1) ∧ w'.cell? ⟨gb108, 2, none⟩ = some (.int .u64 a1_2) ∧ w'.cell? ⟨gb108, 3, none⟩ = some (.string a1_3) ∧ w'.cell? (ad126.add (x10_2).toNat) = some (.int .i64 (rd y123 x10_2))) ∧ (Kd.R (Kd.int .i64) 3 w' w.heap.size (fun _ => True) (.slice (some ad126) y123.length co49) y123) ∧ (w'.heap[gb107]? = some (.cells #[.int .i64 a0_0, .int .u64 a0_1, .int .u64 a0_2, .string a0_3] 24 (0, 0))) ∧ (w'.heap[gb108]? = some (.cells #[.int .i64 a1_0, .int .u64 a1_1, .int .u64 a1_2, .string a1_3] 24 (0, 0))) ∧ (w'.heap[gb116]? = some (.cells #[.int .i64 t111, .int .u64 t112, .int .u64 t113, .string t114] 24 (0, 0))) ∧ (w'.heap[gb122]? = some (.cells #[.int .i64 t117, .int .u64 t118, .int .u64 t119, .string t120] 24 (0, 0))) ∧ (w'.heap[s_]? = some (.cells #[.int .i64 0, .int .u64 0, .int .u64 0, .string (⟨#[]⟩ : ByteArray)] 24 (0, 0))) ∧ (w.heap.size ≤ s_) ∧ (w.heap.size ≤ s_) ∧ (gb107 ≠ s_) ∧ (s_ ≠ gb107) ∧ (gb108 ≠ s_) ∧ (s_ ≠ gb108) ∧ (gb116 ≠ s_) ∧ (s_ ≠ gb116) ∧ (gb122 ≠ s_) ∧ (s_ ≠ gb122) ∧ (Below w.heap.size w w')) ?_ ?_
                 rotate_left
                 ·intro hCont
                  refine two_ (i := 6) (j := 10) (Ni := some 60) (Nj := some 11) #[true, true, true, true, true, true, true, false, false, false, false, false, false] #[true, true, true, true, true, true, false, false, false, false, true, false, false] rfl rfl rfl rfl (two_of HT_.out (by kernel_rfl)) (by decide) (by decide) (fun K hK => ?_) (fun K hK => ?_)
                  ·skip
                   refine goes_ Tryz.func12 (by kernel_rfl) rfl #[.int .i64 (rd y123 x10_2), .agg #[.int .i64 a0_0, .int .u64 a0_1, .int .u64 a0_2, .string a0_3], .agg #[.int .i64 a1_0, .int .u64 a1_1, .int .u64 a1_2, .string a1_3]] (by rfl) rfl rfl (by (try simp only [List.map_toArray, List.map_cons, List.map_nil]); first | done | rfl | (simp only [List.length_drop, List.length_take]; rfl)) ?_
                   with_reducible refine (cx_Apply.calls (rd y123 x10_2) a0_0 a0_1 a0_2 a0_3 a1_0 a1_1 a1_2 a1_3 t127 t128 t129 t130 t131 _ A37.out).mono ?_
                   rintro e w50 ⟨rfl, hb⟩
                   have HS8_ := (hb.cell (World.block_lt_of_cell? _ _ (hHeld.2.2.2.2.2.2.2.2))).trans (hHeld.2.2.2.2.2.2.2.2)
                   refine ⟨_, rfl, ?_⟩
                   replace HO_9 := Aside0.mk (Kd.R_below (by (with_reducible repeat (first | apply Kd.R_alloc | apply Kd.R_drewN | apply Kd.R_drew)); exact HO_9.out) hb)
                   replace BK107 := bkb BK107 hb
                   replace BK108 := bkb BK108 hb
                   replace BK116 := bkb BK116 hb
                   replace BK122 := bkb BK122 hb
                   replace HB := bls HB hb
                   (try clear hb)
                   (try clear hb2)
                   (try clear hk)
                   (try clear hi)
                   refine hK.out _ _ ⟨(blk_cell BK107.out 0).trans rfl, (blk_cell BK107.out 1).trans rfl, (blk_cell BK107.out 2).trans rfl, (blk_cell BK107.out 3).trans rfl, (blk_cell BK108.out 0).trans rfl, (blk_cell BK108.out 1).trans rfl, (blk_cell BK108.out 2).trans rfl, (blk_cell BK108.out 3).trans rfl, HS8_⟩ (fun hHeld => ?_)
                   clear hK K
                   refine norm_ (a' := ?_) ?_ ?_
                   rotate_left
                   ·show Act.put _ (some 60) _ = _
                    simp only [Act.put, List.setIfInBounds_toArray, List.set_cons_zero, List.set_cons_succ, i64_w, i32_w]
                    rfl
                   refine pu 7 53 HT_ ?_
                   refine pu 8 61 HT_ ?_
                   refine pu 9 62 HT_ ?_
                   refine one_ (i := 10) (N := some 11) #[true, true, true, true, true, true, true, true, true, true, true, false, false] rfl rfl (one_of HT_.out (by kernel_rfl)) (by decide) (fun K hK => ?_)
                   refine box_step ?hg (N := 11) ?hd (cs := #[.int .i64 0, .int .u64 0, .int .u64 0, .string (⟨#[]⟩ : ByteArray)]) (t := 24) ?hr ?_; (case hd => rfl); (case hg => rfl); (case hr => first | (go_simp; done) | (go_simp; rfl))
                   intro gb132 hg w51 hbox hb
                   have HS8_ := (hb.cell (World.block_lt_of_cell? _ _ (hHeld.2.2.2.2.2.2.2.2))).trans (hHeld.2.2.2.2.2.2.2.2)
                   have BK132 := Aside0.mk hbox
                   have GW132 := bsz HB hg
                   have GE132 := bsz HB hg
                   have NB107_132 := bnl BK107 hg
                   have NB132_107 := bng BK107 hg
                   have NB108_132 := bnl BK108 hg
                   have NB132_108 := bng BK108 hg
                   have NB116_132 := bnl BK116 hg
                   have NB132_116 := bng BK116 hg
                   have NB122_132 := bnl BK122 hg
                   have NB132_122 := bng BK122 hg
                   replace HO_9 := Aside0.mk (Kd.R_below (by (with_reducible repeat (first | apply Kd.R_alloc | apply Kd.R_drewN | apply Kd.R_drew)); exact HO_9.out) hb)
                   replace BK107 := bkb BK107 hb
                   replace BK108 := bkb BK108 hb
                   replace BK116 := bkb BK116 hb
                   replace BK122 := bkb BK122 hb
                   replace HB := bls HB hb
                   clear hb hbox hg
                   refine hK.out _ _ ⟨(blk_cell BK107.out 0).trans rfl, (blk_cell BK107.out 1).trans rfl, (blk_cell BK107.out 2).trans rfl, (blk_cell BK107.out 3).trans rfl, (blk_cell BK108.out 0).trans rfl, (blk_cell BK108.out 1).trans rfl, (blk_cell BK108.out 2).trans rfl, (blk_cell BK108.out 3).trans rfl, HS8_⟩ (fun hHeld => ?_)
                   clear hK K
                   refine norm_ (a' := ?_) ?_ ?_
                   rotate_left
                   ·show Act.put _ (some 11) _ = _
                    simp only [Act.put, List.setIfInBounds_toArray, List.set_cons_zero, List.set_cons_succ, i64_w, i32_w]
                    rfl
                   exact norm_ (by simp only [putAll, Act.put, List.setIfInBounds_toArray, List.set_cons_zero, List.set_cons_succ]) (hCont (gb132) _ ⟨hHeld, (by (with_reducible repeat (first | apply Kd.R_alloc | apply Kd.R_drewN | apply Kd.R_drew)); exact HO_9.out), (bks BK107).out, (bks BK108).out, (bks BK116).out, (bks BK122).out, (bks BK132).out, GW132.out, GE132.out, NB107_132.out, NB132_107.out, NB108_132.out, NB132_108.out, NB116_132.out, NB132_116.out, NB122_132.out, NB132_122.out, (blt HB).out⟩)
                  ·skip
                   refine box_step ?hg (N := 11) ?hd (cs := #[.int .i64 0, .int .u64 0, .int .u64 0, .string (⟨#[]⟩ : ByteArray)]) (t := 24) ?hr ?_; (case hd => rfl); (case hg => rfl); (case hr => first | (go_simp; done) | (go_simp; rfl))
                   intro gb132 hg w50 hbox hb
                   have HS8_ := (hb.cell (World.block_lt_of_cell? _ _ (hHeld.2.2.2.2.2.2.2.2))).trans (hHeld.2.2.2.2.2.2.2.2)
                   have BK132 := Aside0.mk hbox
                   have GW132 := bsz HB hg
                   have GE132 := bsz HB hg
                   have NB107_132 := bnl BK107 hg
                   have NB132_107 := bng BK107 hg
                   have NB108_132 := bnl BK108 hg
                   have NB132_108 := bng BK108 hg
                   have NB116_132 := bnl BK116 hg
                   have NB132_116 := bng BK116 hg
                   have NB122_132 := bnl BK122 hg
                   have NB132_122 := bng BK122 hg
                   replace HO_9 := Aside0.mk (Kd.R_below (by (with_reducible repeat (first | apply Kd.R_alloc | apply Kd.R_drewN | apply Kd.R_drew)); exact HO_9.out) hb)
                   replace BK107 := bkb BK107 hb
                   replace BK108 := bkb BK108 hb
                   replace BK116 := bkb BK116 hb
                   replace BK122 := bkb BK122 hb
                   replace HB := bls HB hb
                   clear hb hbox hg
                   refine hK.out _ _ ⟨(blk_cell BK107.out 0).trans rfl, (blk_cell BK107.out 1).trans rfl, (blk_cell BK107.out 2).trans rfl, (blk_cell BK107.out 3).trans rfl, (blk_cell BK108.out 0).trans rfl, (blk_cell BK108.out 1).trans rfl, (blk_cell BK108.out 2).trans rfl, (blk_cell BK108.out 3).trans rfl, HS8_⟩ (fun hHeld => ?_)
                   clear hK K
                   refine norm_ (a' := ?_) ?_ ?_
                   rotate_left
                   ·show Act.put _ (some 11) _ = _
                    simp only [Act.put, List.setIfInBounds_toArray, List.set_cons_zero, List.set_cons_succ, i64_w, i32_w]
                    rfl
                   refine one_ (i := 6) (N := some 60) #[true, true, true, true, true, true, true, false, false, false, true, false, false] rfl rfl (one_of HT_.out (by kernel_rfl)) (by decide) (fun K hK => ?_)
                   refine goes_ Tryz.func12 (by kernel_rfl) rfl #[.int .i64 (rd y123 x10_2), .agg #[.int .i64 a0_0, .int .u64 a0_1, .int .u64 a0_2, .string a0_3], .agg #[.int .i64 a1_0, .int .u64 a1_1, .int .u64 a1_2, .string a1_3]] (by rfl) rfl rfl (by (try simp only [List.map_toArray, List.map_cons, List.map_nil]); first | done | rfl | (simp only [List.length_drop, List.length_take]; rfl)) ?_
                   with_reducible refine (cx_Apply.calls (rd y123 x10_2) a0_0 a0_1 a0_2 a0_3 a1_0 a1_1 a1_2 a1_3 t127 t128 t129 t130 t131 _ A37.out).mono ?_
                   rintro e w51 ⟨rfl, hb⟩
                   have HS8_ := (hb.cell (World.block_lt_of_cell? _ _ (hHeld.2.2.2.2.2.2.2.2))).trans (hHeld.2.2.2.2.2.2.2.2)
                   refine ⟨_, rfl, ?_⟩
                   replace HO_9 := Aside0.mk (Kd.R_below (by (with_reducible repeat (first | apply Kd.R_alloc | apply Kd.R_drewN | apply Kd.R_drew)); exact HO_9.out) hb)
                   replace BK107 := bkb BK107 hb
                   replace BK108 := bkb BK108 hb
                   replace BK116 := bkb BK116 hb
                   replace BK122 := bkb BK122 hb
                   replace BK132 := bkb BK132 hb
                   replace HB := bls HB hb
                   (try clear hb)
                   (try clear hb2)
                   (try clear hk)
                   (try clear hi)
                   refine hK.out _ _ ⟨(blk_cell BK107.out 0).trans rfl, (blk_cell BK107.out 1).trans rfl, (blk_cell BK107.out 2).trans rfl, (blk_cell BK107.out 3).trans rfl, (blk_cell BK108.out 0).trans rfl, (blk_cell BK108.out 1).trans rfl, (blk_cell BK108.out 2).trans rfl, (blk_cell BK108.out 3).trans rfl, HS8_⟩ (fun hHeld => ?_)
                   clear hK K
                   refine norm_ (a' := ?_) ?_ ?_
                   rotate_left
                   ·show Act.put _ (some 60) _ = _
                    simp only [Act.put, List.setIfInBounds_toArray, List.set_cons_zero, List.set_cons_succ, i64_w, i32_w]
                    rfl
                   refine pu 7 53 HT_ ?_
                   refine pu 8 61 HT_ ?_
                   refine pu 9 62 HT_ ?_
                   exact norm_ (by simp only [putAll, Act.put, List.setIfInBounds_toArray, List.set_cons_zero, List.set_cons_succ]) (hCont (gb132) _ ⟨hHeld, (by (with_reducible repeat (first | apply Kd.R_alloc | apply Kd.R_drewN | apply Kd.R_drew)); exact HO_9.out), (bks BK107).out, (bks BK108).out, (bks BK116).out, (bks BK122).out, (bks BK132).out, GW132.out, GE132.out, NB107_132.out, NB132_107.out, NB108_132.out, NB132_108.out, NB116_132.out, NB132_116.out, NB122_132.out, NB132_122.out, (blt HB).out⟩)
                 rintro gb132 w52 ⟨hS_, h0_, h1_, h2_, h3_, h4_, h5_, h6_, h7_, h8_, h9_, h10_, h11_, h12_, h13_, h14_, h15_, h16_⟩
                 have n0_ : Aside0 (Kd.R (Kd.int .i64) 3 w52 w.heap.size (fun _ => True) (.slice (some ad126) y123.length co49) y123) := ⟨h0_⟩
                 have n1_ : Aside0 (w52.heap[gb107]? = some (.cells #[.int .i64 a0_0, .int .u64 a0_1, .int .u64 a0_2, .string a0_3] 24 (0, 0))) := ⟨h1_⟩
                 have n2_ : Aside0 (w52.heap[gb108]? = some (.cells #[.int .i64 a1_0, .int .u64 a1_1, .int .u64 a1_2, .string a1_3] 24 (0, 0))) := ⟨h2_⟩
                 have n3_ : Aside0 (w52.heap[gb116]? = some (.cells #[.int .i64 t111, .int .u64 t112, .int .u64 t113, .string t114] 24 (0, 0))) := ⟨h3_⟩
                 have n4_ : Aside0 (w52.heap[gb122]? = some (.cells #[.int .i64 t117, .int .u64 t118, .int .u64 t119, .string t120] 24 (0, 0))) := ⟨h4_⟩
                 have n5_ : Aside0 (w52.heap[gb132]? = some (.cells #[.int .i64 0, .int .u64 0, .int .u64 0, .string (⟨#[]⟩ : ByteArray)] 24 (0, 0))) := ⟨h5_⟩
                 have n6_ : Aside0 (w.heap.size ≤ gb132) := ⟨h6_⟩
                 have n7_ : Aside0 (w.heap.size ≤ gb132) := ⟨h7_⟩
                 have n8_ : Aside0 (gb107 ≠ gb132) := ⟨h8_⟩
                 have n9_ : Aside0 (gb132 ≠ gb107) := ⟨h9_⟩
                 have n10_ : Aside0 (gb108 ≠ gb132) := ⟨h10_⟩
                 have n11_ : Aside0 (gb132 ≠ gb108) := ⟨h11_⟩
                 have n12_ : Aside0 (gb116 ≠ gb132) := ⟨h12_⟩
                 have n13_ : Aside0 (gb132 ≠ gb116) := ⟨h13_⟩
                 have n14_ : Aside0 (gb122 ≠ gb132) := ⟨h14_⟩
                 have n15_ : Aside0 (gb132 ≠ gb122) := ⟨h15_⟩
                 have n16_ : Aside0 (Below w.heap.size w w52) := ⟨h16_⟩
                 clear HO_9
                 clear BK107
                 clear BK108
                 clear BK116
                 clear BK122
                 clear HB
                 clear h0_ h1_ h2_ h3_ h4_ h5_ h6_ h7_ h8_ h9_ h10_ h11_ h12_ h13_ h14_ h15_ h16_
                 have HO_9 := n0_
                 have BK107 := n1_
                 have BK108 := n2_
                 have BK116 := n3_
                 have BK122 := n4_
                 have BK132 := n5_
                 have GW132 := n6_
                 have GE132 := n7_
                 have NB107_132 := n8_
                 have NB132_107 := n9_
                 have NB108_132 := n10_
                 have NB132_108 := n11_
                 have NB116_132 := n12_
                 have NB132_116 := n13_
                 have NB122_132 := n14_
                 have NB132_122 := n15_
                 have HB := n16_
                 clear n0_ n1_ n2_ n3_ n4_ n5_ n6_ n7_ n8_ n9_ n10_ n11_ n12_ n13_ n14_ n15_ n16_
                 have hHeld : w52.cell? ⟨gb107, 0, none⟩ = some (.int .i64 a0_0) ∧ w52.cell? ⟨gb107, 1, none⟩ = some (.int .u64 a0_1) ∧ w52.cell? ⟨gb107, 2, none⟩ = some (.int .u64 a0_2) ∧ w52.cell? ⟨gb107, 3, none⟩ = some (.string a0_3) ∧ w52.cell? ⟨gb108, 0, none⟩ = some (.int .i64 a1_0) ∧ w52.cell? ⟨gb108, 1, none⟩ = some (.int .u64 a1_1) ∧ w52.cell? ⟨gb108, 2, none⟩ = some (.int .u64 a1_2) ∧ w52.cell? ⟨gb108, 3, none⟩ = some (.string a1_3) ∧ w52.cell? (ad126.add (x10_2).toNat) = some (.int .i64 (rd y123 x10_2)) := hS_
                 refine norm_ (a' := ?_) ?_ ?_
                 rotate_left
                 ·simp only [putAll, Act.put, List.setIfInBounds_toArray, List.set_cons_zero, List.set_cons_succ]
                  rfl
                 refine one_ (i := 11) (N := none) #[true, true, true, true, true, true, true, true, true, true, true, true, false] rfl rfl (one_of HT_.out (by kernel_rfl)) (by decide) (fun K hK => ?_)
                 have hs53 : w52.cell? ⟨gb132, 0, none⟩ = some (.int .i64 0) := (blk_cell BK132.out 0).trans rfl
                 have hfs53 := blk_frozen BK132.out 0
                 have hns53_0 := NB107_132.out
                 have hns53_1 := NB108_132.out
                 have hns53_2 := NB116_132.out
                 have hns53_3 := NB122_132.out
                 have hms53_0 := NB132_107.out
                 have hms53_1 := NB132_108.out
                 have hms53_2 := NB132_116.out
                 have hms53_3 := NB132_122.out
                 have hs54 : w52.cell? ⟨gb132, 1, none⟩ = some (.int .u64 0) := (blk_cell BK132.out 1).trans rfl
                 have hfs54 := blk_frozen BK132.out 1
                 have hns54_0 := NB107_132.out
                 have hns54_1 := NB108_132.out
                 have hns54_2 := NB116_132.out
                 have hns54_3 := NB122_132.out
                 have hms54_0 := NB132_107.out
                 have hms54_1 := NB132_108.out
                 have hms54_2 := NB132_116.out
                 have hms54_3 := NB132_122.out
                 have hs55 : w52.cell? ⟨gb132, 2, none⟩ = some (.int .u64 0) := (blk_cell BK132.out 2).trans rfl
                 have hfs55 := blk_frozen BK132.out 2
                 have hns55_0 := NB107_132.out
                 have hns55_1 := NB108_132.out
                 have hns55_2 := NB116_132.out
                 have hns55_3 := NB122_132.out
                 have hms55_0 := NB132_107.out
                 have hms55_1 := NB132_108.out
                 have hms55_2 := NB132_116.out
                 have hms55_3 := NB132_122.out
                 have hs56 : w52.cell? ⟨gb132, 3, none⟩ = some (.string (⟨#[]⟩ : ByteArray)) := (blk_cell BK132.out 3).trans rfl
                 have hfs56 := blk_frozen BK132.out 3
                 have hns56_0 := NB107_132.out
                 have hns56_1 := NB108_132.out
                 have hns56_2 := NB116_132.out
                 have hns56_3 := NB122_132.out
                 have hms56_0 := NB132_107.out
                 have hms56_1 := NB132_108.out
                 have hms56_2 := NB132_116.out
                 have hms56_3 := NB132_122.out
                 refine skip_ (w1 := ?_) (by rfl) rfl ?_ ?_
                 rotate_left
                 ·go_simp
                  rfl
                 refine hK.out _ _ ⟨((cell_far (p := ⟨gb132, _, none⟩) NB107_132.out _).trans (((cell_far (p := ⟨gb132, _, none⟩) NB107_132.out _).trans (((cell_far (p := ⟨gb132, _, none⟩) NB107_132.out _).trans (((cell_far (p := ⟨gb132, _, none⟩) NB107_132.out _).trans (hHeld.1)))))))), ((cell_far (p := ⟨gb132, _, none⟩) NB107_132.out _).trans (((cell_far (p := ⟨gb132, _, none⟩) NB107_132.out _).trans (((cell_far (p := ⟨gb132, _, none⟩) NB107_132.out _).trans (((cell_far (p := ⟨gb132, _, none⟩) NB107_132.out _).trans (hHeld.2.1)))))))), ((cell_far (p := ⟨gb132, _, none⟩) NB107_132.out _).trans (((cell_far (p := ⟨gb132, _, none⟩) NB107_132.out _).trans (((cell_far (p := ⟨gb132, _, none⟩) NB107_132.out _).trans (((cell_far (p := ⟨gb132, _, none⟩) NB107_132.out _).trans (hHeld.2.2.1)))))))), ((cell_far (p := ⟨gb132, _, none⟩) NB107_132.out _).trans (((cell_far (p := ⟨gb132, _, none⟩) NB107_132.out _).trans (((cell_far (p := ⟨gb132, _, none⟩) NB107_132.out _).trans (((cell_far (p := ⟨gb132, _, none⟩) NB107_132.out _).trans (hHeld.2.2.2.1)))))))), ((cell_far (p := ⟨gb132, _, none⟩) NB108_132.out _).trans (((cell_far (p := ⟨gb132, _, none⟩) NB108_132.out _).trans (((cell_far (p := ⟨gb132, _, none⟩) NB108_132.out _).trans (((cell_far (p := ⟨gb132, _, none⟩) NB108_132.out _).trans (hHeld.2.2.2.2.1)))))))), ((cell_far (p := ⟨gb132, _, none⟩) NB108_132.out _).trans (((cell_far (p := ⟨gb132, _, none⟩) NB108_132.out _).trans (((cell_far (p := ⟨gb132, _, none⟩) NB108_132.out _).trans (((cell_far (p := ⟨gb132, _, none⟩) NB108_132.out _).trans (hHeld.2.2.2.2.2.1)))))))), ((cell_far (p := ⟨gb132, _, none⟩) NB108_132.out _).trans (((cell_far (p := ⟨gb132, _, none⟩) NB108_132.out _).trans (((cell_far (p := ⟨gb132, _, none⟩) NB108_132.out _).trans (((cell_far (p := ⟨gb132, _, none⟩) NB108_132.out _).trans (hHeld.2.2.2.2.2.2.1)))))))), ((cell_far (p := ⟨gb132, _, none⟩) NB108_132.out _).trans (((cell_far (p := ⟨gb132, _, none⟩) NB108_132.out _).trans (((cell_far (p := ⟨gb132, _, none⟩) NB108_132.out _).trans (((cell_far (p := ⟨gb132, _, none⟩) NB108_132.out _).trans (hHeld.2.2.2.2.2.2.2.1)))))))), ((cell_far (p := ⟨gb132, _, none⟩) (by first | exact Kd.own_blk (Kd.R_ne HO_9.out BK132.out (by decide)) | (rw [add_block]; exact Kd.own_blk (Kd.R_ne HO_9.out BK132.out (by decide))) | (show (Addr.add _ _).block ≠ _; rw [add_block]; exact Kd.own_blk (Kd.R_ne HO_9.out BK132.out (by decide))) | (dsimp only; exact Kd.own_blk (Kd.R_ne HO_9.out BK132.out (by decide)))) _).trans (((cell_far (p := ⟨gb132, _, none⟩) (by first | exact Kd.own_blk (Kd.R_ne HO_9.out BK132.out (by decide)) | (rw [add_block]; exact Kd.own_blk (Kd.R_ne HO_9.out BK132.out (by decide))) | (show (Addr.add _ _).block ≠ _; rw [add_block]; exact Kd.own_blk (Kd.R_ne HO_9.out BK132.out (by decide))) | (dsimp only; exact Kd.own_blk (Kd.R_ne HO_9.out BK132.out (by decide)))) _).trans (((cell_far (p := ⟨gb132, _, none⟩) (by first | exact Kd.own_blk (Kd.R_ne HO_9.out BK132.out (by decide)) | (rw [add_block]; exact Kd.own_blk (Kd.R_ne HO_9.out BK132.out (by decide))) | (show (Addr.add _ _).block ≠ _; rw [add_block]; exact Kd.own_blk (Kd.R_ne HO_9.out BK132.out (by decide))) | (dsimp only; exact Kd.own_blk (Kd.R_ne HO_9.out BK132.out (by decide)))) _).trans (((cell_far (p := ⟨gb132, _, none⟩) (by first | exact Kd.own_blk (Kd.R_ne HO_9.out BK132.out (by decide)) | (rw [add_block]; exact Kd.own_blk (Kd.R_ne HO_9.out BK132.out (by decide))) | (show (Addr.add _ _).block ≠ _; rw [add_block]; exact Kd.own_blk (Kd.R_ne HO_9.out BK132.out (by decide))) | (dsimp only; exact Kd.own_blk (Kd.R_ne HO_9.out BK132.out (by decide)))) _).trans (hHeld.2.2.2.2.2.2.2.2))))))))⟩ (fun hHeld => ?_)
                 clear hK K
                 refine pu 12 12 HT_ ?_
                 refine done_ (done_of HT_.out (by kernel_rfl)) ?_
                 try go_wp2
                 have n0_ : Aside0 (Kd.R (Kd.int .i64) 3 ((((w52.setCell ⟨gb132, 0, none⟩ (.int .i64 t127)).setCell ⟨gb132, 1, none⟩ (.int .u64 t128)).setCell ⟨gb132, 2, none⟩ (.int .u64 t129)).setCell ⟨gb132, 3, none⟩ (.string t130)) w.heap.size (fun _ => True) (.slice (some ad126) y123.length co49) y123) := ⟨by (with_reducible repeat (first | apply Kd.R_alloc | apply Kd.R_drewN | apply Kd.R_drew)); exact Kd.R_mono (Kd.R_far (p := ⟨gb132, 3, none⟩) (Kd.R_far (p := ⟨gb132, 2, none⟩) (Kd.R_far (p := ⟨gb132, 1, none⟩) (Kd.R_far (p := ⟨gb132, 0, none⟩) (Kd.R_types HO_9.out BK132.out (by decide)) (fun _ hk => hk.2) (.int .i64 t127)) (fun _ hk => hk.2) (.int .u64 t128)) (fun _ hk => hk.2) (.int .u64 t129)) (fun _ hk => hk.2) (.string t130)) (fun _ hk => trivial)⟩
                 have n1_ : Aside0 (((((w52.setCell ⟨gb132, 0, none⟩ (.int .i64 t127)).setCell ⟨gb132, 1, none⟩ (.int .u64 t128)).setCell ⟨gb132, 2, none⟩ (.int .u64 t129)).setCell ⟨gb132, 3, none⟩ (.string t130)).heap[gb107]? = some (.cells #[.int .i64 a0_0, .int .u64 a0_1, .int .u64 a0_2, .string a0_3] 24 (0, 0))) := bkf BK107
                 have n2_ : Aside0 (((((w52.setCell ⟨gb132, 0, none⟩ (.int .i64 t127)).setCell ⟨gb132, 1, none⟩ (.int .u64 t128)).setCell ⟨gb132, 2, none⟩ (.int .u64 t129)).setCell ⟨gb132, 3, none⟩ (.string t130)).heap[gb108]? = some (.cells #[.int .i64 a1_0, .int .u64 a1_1, .int .u64 a1_2, .string a1_3] 24 (0, 0))) := bkf BK108
                 have n3_ : Aside0 (((((w52.setCell ⟨gb132, 0, none⟩ (.int .i64 t127)).setCell ⟨gb132, 1, none⟩ (.int .u64 t128)).setCell ⟨gb132, 2, none⟩ (.int .u64 t129)).setCell ⟨gb132, 3, none⟩ (.string t130)).heap[gb116]? = some (.cells #[.int .i64 t111, .int .u64 t112, .int .u64 t113, .string t114] 24 (0, 0))) := bkf BK116
                 have n4_ : Aside0 (((((w52.setCell ⟨gb132, 0, none⟩ (.int .i64 t127)).setCell ⟨gb132, 1, none⟩ (.int .u64 t128)).setCell ⟨gb132, 2, none⟩ (.int .u64 t129)).setCell ⟨gb132, 3, none⟩ (.string t130)).heap[gb122]? = some (.cells #[.int .i64 t117, .int .u64 t118, .int .u64 t119, .string t120] 24 (0, 0))) := bkf BK122
                 have n5_ : Aside0 (((((w52.setCell ⟨gb132, 0, none⟩ (.int .i64 t127)).setCell ⟨gb132, 1, none⟩ (.int .u64 t128)).setCell ⟨gb132, 2, none⟩ (.int .u64 t129)).setCell ⟨gb132, 3, none⟩ (.string t130)).heap[gb132]? = some (.cells #[.int .i64 t127, .int .u64 t128, .int .u64 t129, .string t130] 24 (0, 0))) := ⟨by (with_reducible repeat (first | refine blk_drewN ?_ _ | refine blk_drew ?_ | refine blk_alloc ?_ _)); refine blk_put (cs := #[.int .i64 t127, .int .u64 t128, .int .u64 t129, .string (⟨#[]⟩ : ByteArray)]) ?_ 3 _ rfl; (with_reducible repeat (first | refine blk_drewN ?_ _ | refine blk_drew ?_ | refine blk_alloc ?_ _)); refine blk_put (cs := #[.int .i64 t127, .int .u64 t128, .int .u64 0, .string (⟨#[]⟩ : ByteArray)]) ?_ 2 _ rfl; (with_reducible repeat (first | refine blk_drewN ?_ _ | refine blk_drew ?_ | refine blk_alloc ?_ _)); refine blk_put (cs := #[.int .i64 t127, .int .u64 0, .int .u64 0, .string (⟨#[]⟩ : ByteArray)]) ?_ 1 _ rfl; (with_reducible repeat (first | refine blk_drewN ?_ _ | refine blk_drew ?_ | refine blk_alloc ?_ _)); refine blk_put (cs := #[.int .i64 0, .int .u64 0, .int .u64 0, .string (⟨#[]⟩ : ByteArray)]) ?_ 0 _ rfl; (with_reducible repeat (first | refine blk_drewN ?_ _ | refine blk_drew ?_ | refine blk_alloc ?_ _)); exact BK132.out⟩
                 have n6_ : Aside0 (Below w.heap.size w ((((w52.setCell ⟨gb132, 0, none⟩ (.int .i64 t127)).setCell ⟨gb132, 1, none⟩ (.int .u64 t128)).setCell ⟨gb132, 2, none⟩ (.int .u64 t129)).setCell ⟨gb132, 3, none⟩ (.string t130))) := blt HB
                 (try clear HO_9)
                 (try clear BK107)
                 (try clear BK108)
                 (try clear BK116)
                 (try clear BK122)
                 (try clear BK132)
                 (try clear HB)
                 generalize ((((w52.setCell ⟨gb132, 0, none⟩ (.int .i64 t127)).setCell ⟨gb132, 1, none⟩ (.int .u64 t128)).setCell ⟨gb132, 2, none⟩ (.int .u64 t129)).setCell ⟨gb132, 3, none⟩ (.string t130)) = w57 at n0_ n1_ n2_ n3_ n4_ n5_ n6_ ⊢
                 have HO_9 := n0_
                 have BK107 := n1_
                 have BK108 := n2_
                 have BK116 := n3_
                 have BK122 := n4_
                 have BK132 := n5_
                 have HB := n6_
                 clear n0_ n1_ n2_ n3_ n4_ n5_ n6_
                 replace HO_9 := Aside0.mk (Kd.R_drew HO_9.out)
                 replace BK107 := Aside0.mk (blk_drew BK107.out)
                 replace BK108 := Aside0.mk (blk_drew BK108.out)
                 replace BK116 := Aside0.mk (blk_drew BK116.out)
                 replace BK122 := Aside0.mk (blk_drew BK122.out)
                 replace BK132 := Aside0.mk (blk_drew BK132.out)
                 replace HB := Aside0.mk (below_drew1 HB.out)
                 have p133 : 0 ≤ (x10_2 : Int) := of_decide_eq_true (by first | (with_reducible assumption) | assumption)
                 have q133 : x10_2 < (y123.length : Int) := of_decide_eq_true (by first | (with_reducible assumption) | assumption)
                 obtain ⟨ad133, e133, hx133_0⟩ := Kd.at_int (Kd.R_reads' HO_9.out).2.2 x10_2 p133 q133
                 obtain rfl : ad126 = ad133 := (by injection e133)
                 replace p133 := eq_true p133
                 replace q133 := eq_true q133
                 refine start_ (n := 13) (S := fun w' => w'.cell? ⟨gb108, 0, none⟩ = some (.int .i64 a1_0) ∧ w'.cell? ⟨gb108, 1, none⟩ = some (.int .u64 a1_1) ∧ w'.cell? ⟨gb108, 2, none⟩ = some (.int .u64 a1_2) ∧ w'.cell? ⟨gb108, 3, none⟩ = some (.string a1_3) ∧ w'.cell? ⟨gb107, 0, none⟩ = some (.int .i64 a0_0) ∧ w'.cell? ⟨gb107, 1, none⟩ = some (.int .u64 a0_1) ∧ w'.cell? ⟨gb107, 2, none⟩ = some (.int .u64 a0_2) ∧ w'.cell? ⟨gb107, 3, none⟩ = some (.string a0_3) ∧ w'.cell? (ad126.add (x10_2).toNat) = some (.int .i64 (rd y123 x10_2))) (ds := []) #[false, false, false, false, false, false, false, false, false, false, false, false, false] (by kernel_rfl) rfl rfl ⟨(blk_cell BK108.out 0).trans rfl, (blk_cell BK108.out 1).trans rfl, (blk_cell BK108.out 2).trans rfl, (blk_cell BK108.out 3).trans rfl, (blk_cell BK107.out 0).trans rfl, (blk_cell BK107.out 1).trans rfl, (blk_cell BK107.out 2).trans rfl, (blk_cell BK107.out 3).trans rfl, hx133_0⟩ (fun hHeld => ?_); refine with_tabW l10_ComplexesSymmetries.tab14 l10_ComplexesSymmetries.bits14 (fun HT_ HW_ => ?_)
                 generalize w57.drew = w58 at HO_9 BK107 BK108 BK116 BK122 BK132 HB hx133_0 hHeld ⊢
                 refine pu 0 64 HT_ ?_
                 refine pu 1 65 HT_ ?_
                 refine pu 2 66 HT_ ?_
                 refine tk 3 67 HT_ HW_ hHeld ?_
                 refine tk 4 68 HT_ HW_ hHeld ?_
                 refine tk 5 69 HT_ HW_ hHeld ?_
                 refine join_ (σ := Nat) 2 #[true, true, true, true, true, true, true, true, true, true, true, false, false] (fun s_ => [(70, .tuple #[.agg #[.int .i64 t134, .int .u64 t135, .int .u64 t136, .string t137], .int .i64 t138]), (13, .pointer (some ⟨s_, 0, none⟩)), (63, .tuple #[.agg #[.int .i64 t134, .int .u64 t135, .int .u64 t136, .string t137], .int .i64 t138]), (71, .agg #[.int .i64 t134, .int .u64 t135, .int .u64 t136, .string t137]), (72, .int .i64 t138)]) (fun s_ w' => (w'.cell? ⟨gb108, 0, none⟩ = some (.int .i64 a1_0) ∧ w'.cell? ⟨gb108, 1, none⟩ = some (.int .u64 a1_1) ∧ w'.cell? ⟨gb108, 2, none⟩ = some (.int .u64 a1_2) ∧ w'.cell? ⟨gb108, 3, none⟩ = some (.string a1_3) ∧ w'.cell? ⟨gb107, 0, none⟩ = some (.int .i64 a0_0) ∧ w'.cell? ⟨gb107, 1, none⟩ = some (.int .u64 a0_1) ∧ w'.cell? ⟨gb107, 2, none⟩ = some (.int .u64 a0_2) ∧ w'.cell? ⟨gb107, 3, none⟩ = some (.string a0_3) ∧ w'.cell? (ad126.add (x10_2).toNat) = some (.int .i64 (rd y123 x10_2))) ∧ (Kd.R (Kd.int .i64) 3 w' w.heap.size (fun _ => True) (.slice (some ad126) y123.length co49) y123) ∧ (w'.heap[gb107]? = some (.cells #[.int .i64 a0_0, .int .u64 a0_1, .int .u64 a0_2, .string a0_3] 24 (0, 0))) ∧ (w'.heap[gb108]? = some (.cells #[.int .i64 a1_0, .int .u64 a1_1, .int .u64 a1_2, .string a1_3] 24 (0, 0))) ∧ (w'.heap[gb116]? = some (.cells #[.int .i64 t111, .int .u64 t112, .int .u64 t113, .string t114] 24 (0, 0))) ∧ (w'.heap[gb122]? = some (.cells #[.int .i64 t117, .int .u64 t118, .int .u64 t119, .string t120] 24 (0, 0))) ∧ (w'.heap[gb132]? = some (.cells #[.int .i64 t127, .int .u64 t128, .int .u64 t129, .string t130] 24 (0, 0))) ∧ (w'.heap[s_]? = some (.cells #[.int .i64 0, .int .u64 0, .int .u64 0, .string (⟨#[]⟩ : ByteArray)] 24 (0, 0))) ∧ (w.heap.size ≤ s_) ∧ (w.heap.size ≤ s_) ∧ (gb107 ≠ s_) ∧ (s_ ≠ gb107) ∧ (gb108 ≠ s_) ∧ (s_ ≠ gb108) ∧ (gb116 ≠ s_) ∧ (s_ ≠ gb116) ∧ (gb122 ≠ s_) ∧ (s_ ≠ gb122) ∧ (gb132 ≠ s_) ∧ (s_ ≠ gb132) ∧ (Below w.heap.size w w')) ?_ ?_
                 rotate_left
                 ·intro hCont
                  refine two_ (i := 6) (j := 10) (Ni := some 70) (Nj := some 13) #[true, true, true, true, true, true, true, false, false, false, false, false, false] #[true, true, true, true, true, true, false, false, false, false, true, false, false] rfl rfl rfl rfl (two_of HT_.out (by kernel_rfl)) (by decide) (by decide) (fun K hK => ?_) (fun K hK => ?_)
                  ·skip
                   refine goes_ Tryz.func12 (by kernel_rfl) rfl #[.int .i64 (rd y123 x10_2), .agg #[.int .i64 a1_0, .int .u64 a1_1, .int .u64 a1_2, .string a1_3], .agg #[.int .i64 a0_0, .int .u64 a0_1, .int .u64 a0_2, .string a0_3]] (by rfl) rfl rfl (by (try simp only [List.map_toArray, List.map_cons, List.map_nil]); first | done | rfl | (simp only [List.length_drop, List.length_take]; rfl)) ?_
                   with_reducible refine (cx_Apply.calls (rd y123 x10_2) a1_0 a1_1 a1_2 a1_3 a0_0 a0_1 a0_2 a0_3 t134 t135 t136 t137 t138 _ A38.out).mono ?_
                   rintro e w59 ⟨rfl, hb⟩
                   have HS8_ := (hb.cell (World.block_lt_of_cell? _ _ (hHeld.2.2.2.2.2.2.2.2))).trans (hHeld.2.2.2.2.2.2.2.2)
                   refine ⟨_, rfl, ?_⟩
                   replace HO_9 := Aside0.mk (Kd.R_below (by (with_reducible repeat (first | apply Kd.R_alloc | apply Kd.R_drewN | apply Kd.R_drew)); exact HO_9.out) hb)
                   replace BK107 := bkb BK107 hb
                   replace BK108 := bkb BK108 hb
                   replace BK116 := bkb BK116 hb
                   replace BK122 := bkb BK122 hb
                   replace BK132 := bkb BK132 hb
                   replace HB := bls HB hb
                   (try clear hb)
                   (try clear hb2)
                   (try clear hk)
                   (try clear hi)
                   refine hK.out _ _ ⟨(blk_cell BK108.out 0).trans rfl, (blk_cell BK108.out 1).trans rfl, (blk_cell BK108.out 2).trans rfl, (blk_cell BK108.out 3).trans rfl, (blk_cell BK107.out 0).trans rfl, (blk_cell BK107.out 1).trans rfl, (blk_cell BK107.out 2).trans rfl, (blk_cell BK107.out 3).trans rfl, HS8_⟩ (fun hHeld => ?_)
                   clear hK K
                   refine norm_ (a' := ?_) ?_ ?_
                   rotate_left
                   ·show Act.put _ (some 70) _ = _
                    simp only [Act.put, List.setIfInBounds_toArray, List.set_cons_zero, List.set_cons_succ, i64_w, i32_w]
                    rfl
                   refine pu 7 63 HT_ ?_
                   refine pu 8 71 HT_ ?_
                   refine pu 9 72 HT_ ?_
                   refine one_ (i := 10) (N := some 13) #[true, true, true, true, true, true, true, true, true, true, true, false, false] rfl rfl (one_of HT_.out (by kernel_rfl)) (by decide) (fun K hK => ?_)
                   refine box_step ?hg (N := 13) ?hd (cs := #[.int .i64 0, .int .u64 0, .int .u64 0, .string (⟨#[]⟩ : ByteArray)]) (t := 24) ?hr ?_; (case hd => rfl); (case hg => rfl); (case hr => first | (go_simp; done) | (go_simp; rfl))
                   intro gb139 hg w60 hbox hb
                   have HS8_ := (hb.cell (World.block_lt_of_cell? _ _ (hHeld.2.2.2.2.2.2.2.2))).trans (hHeld.2.2.2.2.2.2.2.2)
                   have BK139 := Aside0.mk hbox
                   have GW139 := bsz HB hg
                   have GE139 := bsz HB hg
                   have NB107_139 := bnl BK107 hg
                   have NB139_107 := bng BK107 hg
                   have NB108_139 := bnl BK108 hg
                   have NB139_108 := bng BK108 hg
                   have NB116_139 := bnl BK116 hg
                   have NB139_116 := bng BK116 hg
                   have NB122_139 := bnl BK122 hg
                   have NB139_122 := bng BK122 hg
                   have NB132_139 := bnl BK132 hg
                   have NB139_132 := bng BK132 hg
                   replace HO_9 := Aside0.mk (Kd.R_below (by (with_reducible repeat (first | apply Kd.R_alloc | apply Kd.R_drewN | apply Kd.R_drew)); exact HO_9.out) hb)
                   replace BK107 := bkb BK107 hb
                   replace BK108 := bkb BK108 hb
                   replace BK116 := bkb BK116 hb
                   replace BK122 := bkb BK122 hb
                   replace BK132 := bkb BK132 hb
                   replace HB := bls HB hb
                   clear hb hbox hg
                   refine hK.out _ _ ⟨(blk_cell BK108.out 0).trans rfl, (blk_cell BK108.out 1).trans rfl, (blk_cell BK108.out 2).trans rfl, (blk_cell BK108.out 3).trans rfl, (blk_cell BK107.out 0).trans rfl, (blk_cell BK107.out 1).trans rfl, (blk_cell BK107.out 2).trans rfl, (blk_cell BK107.out 3).trans rfl, HS8_⟩ (fun hHeld => ?_)
                   clear hK K
                   refine norm_ (a' := ?_) ?_ ?_
                   rotate_left
                   ·show Act.put _ (some 13) _ = _
                    simp only [Act.put, List.setIfInBounds_toArray, List.set_cons_zero, List.set_cons_succ, i64_w, i32_w]
                    rfl
                   exact norm_ (by simp only [putAll, Act.put, List.setIfInBounds_toArray, List.set_cons_zero, List.set_cons_succ]) (hCont (gb139) _ ⟨hHeld, (by (with_reducible repeat (first | apply Kd.R_alloc | apply Kd.R_drewN | apply Kd.R_drew)); exact HO_9.out), (bks BK107).out, (bks BK108).out, (bks BK116).out, (bks BK122).out, (bks BK132).out, (bks BK139).out, GW139.out, GE139.out, NB107_139.out, NB139_107.out, NB108_139.out, NB139_108.out, NB116_139.out, NB139_116.out, NB122_139.out, NB139_122.out, NB132_139.out, NB139_132.out, (blt HB).out⟩)
                  ·skip
                   refine box_step ?hg (N := 13) ?hd (cs := #[.int .i64 0, .int .u64 0, .int .u64 0, .string (⟨#[]⟩ : ByteArray)]) (t := 24) ?hr ?_; (case hd => rfl); (case hg => rfl); (case hr => first | (go_simp; done) | (go_simp; rfl))
                   intro gb139 hg w59 hbox hb
                   have HS8_ := (hb.cell (World.block_lt_of_cell? _ _ (hHeld.2.2.2.2.2.2.2.2))).trans (hHeld.2.2.2.2.2.2.2.2)
                   have BK139 := Aside0.mk hbox
                   have GW139 := bsz HB hg
                   have GE139 := bsz HB hg
                   have NB107_139 := bnl BK107 hg
                   have NB139_107 := bng BK107 hg
                   have NB108_139 := bnl BK108 hg
                   have NB139_108 := bng BK108 hg
                   have NB116_139 := bnl BK116 hg
                   have NB139_116 := bng BK116 hg
                   have NB122_139 := bnl BK122 hg
                   have NB139_122 := bng BK122 hg
                   have NB132_139 := bnl BK132 hg
                   have NB139_132 := bng BK132 hg
                   replace HO_9 := Aside0.mk (Kd.R_below (by (with_reducible repeat (first | apply Kd.R_alloc | apply Kd.R_drewN | apply Kd.R_drew)); exact HO_9.out) hb)
                   replace BK107 := bkb BK107 hb
                   replace BK108 := bkb BK108 hb
                   replace BK116 := bkb BK116 hb
                   replace BK122 := bkb BK122 hb
                   replace BK132 := bkb BK132 hb
                   replace HB := bls HB hb
                   clear hb hbox hg
                   refine hK.out _ _ ⟨(blk_cell BK108.out 0).trans rfl, (blk_cell BK108.out 1).trans rfl, (blk_cell BK108.out 2).trans rfl, (blk_cell BK108.out 3).trans rfl, (blk_cell BK107.out 0).trans rfl, (blk_cell BK107.out 1).trans rfl, (blk_cell BK107.out 2).trans rfl, (blk_cell BK107.out 3).trans rfl, HS8_⟩ (fun hHeld => ?_)
                   clear hK K
                   refine norm_ (a' := ?_) ?_ ?_
                   rotate_left
                   ·show Act.put _ (some 13) _ = _
                    simp only [Act.put, List.setIfInBounds_toArray, List.set_cons_zero, List.set_cons_succ, i64_w, i32_w]
                    rfl
                   refine one_ (i := 6) (N := some 70) #[true, true, true, true, true, true, true, false, false, false, true, false, false] rfl rfl (one_of HT_.out (by kernel_rfl)) (by decide) (fun K hK => ?_)
                   refine goes_ Tryz.func12 (by kernel_rfl) rfl #[.int .i64 (rd y123 x10_2), .agg #[.int .i64 a1_0, .int .u64 a1_1, .int .u64 a1_2, .string a1_3], .agg #[.int .i64 a0_0, .int .u64 a0_1, .int .u64 a0_2, .string a0_3]] (by rfl) rfl rfl (by (try simp only [List.map_toArray, List.map_cons, List.map_nil]); first | done | rfl | (simp only [List.length_drop, List.length_take]; rfl)) ?_
                   with_reducible refine (cx_Apply.calls (rd y123 x10_2) a1_0 a1_1 a1_2 a1_3 a0_0 a0_1 a0_2 a0_3 t134 t135 t136 t137 t138 _ A38.out).mono ?_
                   rintro e w60 ⟨rfl, hb⟩
                   have HS8_ := (hb.cell (World.block_lt_of_cell? _ _ (hHeld.2.2.2.2.2.2.2.2))).trans (hHeld.2.2.2.2.2.2.2.2)
                   refine ⟨_, rfl, ?_⟩
                   replace HO_9 := Aside0.mk (Kd.R_below (by (with_reducible repeat (first | apply Kd.R_alloc | apply Kd.R_drewN | apply Kd.R_drew)); exact HO_9.out) hb)
                   replace BK107 := bkb BK107 hb
                   replace BK108 := bkb BK108 hb
                   replace BK116 := bkb BK116 hb
                   replace BK122 := bkb BK122 hb
                   replace BK132 := bkb BK132 hb
                   replace BK139 := bkb BK139 hb
                   replace HB := bls HB hb
                   (try clear hb)
                   (try clear hb2)
                   (try clear hk)
                   (try clear hi)
                   refine hK.out _ _ ⟨(blk_cell BK108.out 0).trans rfl, (blk_cell BK108.out 1).trans rfl, (blk_cell BK108.out 2).trans rfl, (blk_cell BK108.out 3).trans rfl, (blk_cell BK107.out 0).trans rfl, (blk_cell BK107.out 1).trans rfl, (blk_cell BK107.out 2).trans rfl, (blk_cell BK107.out 3).trans rfl, HS8_⟩ (fun hHeld => ?_)
                   clear hK K
                   refine norm_ (a' := ?_) ?_ ?_
                   rotate_left
                   ·show Act.put _ (some 70) _ = _
                    simp only [Act.put, List.setIfInBounds_toArray, List.set_cons_zero, List.set_cons_succ, i64_w, i32_w]
                    rfl
                   refine pu 7 63 HT_ ?_
                   refine pu 8 71 HT_ ?_
                   refine pu 9 72 HT_ ?_
                   exact norm_ (by simp only [putAll, Act.put, List.setIfInBounds_toArray, List.set_cons_zero, List.set_cons_succ]) (hCont (gb139) _ ⟨hHeld, (by (with_reducible repeat (first | apply Kd.R_alloc | apply Kd.R_drewN | apply Kd.R_drew)); exact HO_9.out), (bks BK107).out, (bks BK108).out, (bks BK116).out, (bks BK122).out, (bks BK132).out, (bks BK139).out, GW139.out, GE139.out, NB107_139.out, NB139_107.out, NB108_139.out, NB139_108.out, NB116_139.out, NB139_116.out, NB122_139.out, NB139_122.out, NB132_139.out, NB139_132.out, (blt HB).out⟩)
                 rintro gb139 w61 ⟨hS_, h0_, h1_, h2_, h3_, h4_, h5_, h6_, h7_, h8_, h9_, h10_, h11_, h12_, h13_, h14_, h15_, h16_, h17_, h18_, h19_⟩
                 have n0_ : Aside0 (Kd.R (Kd.int .i64) 3 w61 w.heap.size (fun _ => True) (.slice (some ad126) y123.length co49) y123) := ⟨h0_⟩
                 have n1_ : Aside0 (w61.heap[gb107]? = some (.cells #[.int .i64 a0_0, .int .u64 a0_1, .int .u64 a0_2, .string a0_3] 24 (0, 0))) := ⟨h1_⟩
                 have n2_ : Aside0 (w61.heap[gb108]? = some (.cells #[.int .i64 a1_0, .int .u64 a1_1, .int .u64 a1_2, .string a1_3] 24 (0, 0))) := ⟨h2_⟩
                 have n3_ : Aside0 (w61.heap[gb116]? = some (.cells #[.int .i64 t111, .int .u64 t112, .int .u64 t113, .string t114] 24 (0, 0))) := ⟨h3_⟩
                 have n4_ : Aside0 (w61.heap[gb122]? = some (.cells #[.int .i64 t117, .int .u64 t118, .int .u64 t119, .string t120] 24 (0, 0))) := ⟨h4_⟩
                 have n5_ : Aside0 (w61.heap[gb132]? = some (.cells #[.int .i64 t127, .int .u64 t128, .int .u64 t129, .string t130] 24 (0, 0))) := ⟨h5_⟩
                 have n6_ : Aside0 (w61.heap[gb139]? = some (.cells #[.int .i64 0, .int .u64 0, .int .u64 0, .string (⟨#[]⟩ : ByteArray)] 24 (0, 0))) := ⟨h6_⟩
                 have n7_ : Aside0 (w.heap.size ≤ gb139) := ⟨h7_⟩
                 have n8_ : Aside0 (w.heap.size ≤ gb139) := ⟨h8_⟩
                 have n9_ : Aside0 (gb107 ≠ gb139) := ⟨h9_⟩
                 have n10_ : Aside0 (gb139 ≠ gb107) := ⟨h10_⟩
                 have n11_ : Aside0 (gb108 ≠ gb139) := ⟨h11_⟩
                 have n12_ : Aside0 (gb139 ≠ gb108) := ⟨h12_⟩
                 have n13_ : Aside0 (gb116 ≠ gb139) := ⟨h13_⟩
                 have n14_ : Aside0 (gb139 ≠ gb116) := ⟨h14_⟩
                 have n15_ : Aside0 (gb122 ≠ gb139) := ⟨h15_⟩
                 have n16_ : Aside0 (gb139 ≠ gb122) := ⟨h16_⟩
                 have n17_ : Aside0 (gb132 ≠ gb139) := ⟨h17_⟩
                 have n18_ : Aside0 (gb139 ≠ gb132) := ⟨h18_⟩
                 have n19_ : Aside0 (Below w.heap.size w w61) := ⟨h19_⟩
                 clear HO_9
                 clear BK107
                 clear BK108
                 clear BK116
                 clear BK122
                 clear BK132
                 clear HB
                 clear h0_ h1_ h2_ h3_ h4_ h5_ h6_ h7_ h8_ h9_ h10_ h11_ h12_ h13_ h14_ h15_ h16_ h17_ h18_ h19_
                 have HO_9 := n0_
                 have BK107 := n1_
                 have BK108 := n2_
                 have BK116 := n3_
                 have BK122 := n4_
                 have BK132 := n5_
                 have BK139 := n6_
                 have GW139 := n7_
                 have GE139 := n8_
                 have NB107_139 := n9_
                 have NB139_107 := n10_
                 have NB108_139 := n11_
                 have NB139_108 := n12_
                 have NB116_139 := n13_
                 have NB139_116 := n14_
                 have NB122_139 := n15_
                 have NB139_122 := n16_
                 have NB132_139 := n17_
                 have NB139_132 := n18_
                 have HB := n19_
                 clear n0_ n1_ n2_ n3_ n4_ n5_ n6_ n7_ n8_ n9_ n10_ n11_ n12_ n13_ n14_ n15_ n16_ n17_ n18_ n19_
                 have hHeld : w61.cell? ⟨gb108, 0, none⟩ = some (.int .i64 a1_0) ∧ w61.cell? ⟨gb108, 1, none⟩ = some (.int .u64 a1_1) ∧ w61.cell? ⟨gb108, 2, none⟩ = some (.int .u64 a1_2) ∧ w61.cell? ⟨gb108, 3, none⟩ = some (.string a1_3) ∧ w61.cell? ⟨gb107, 0, none⟩ = some (.int .i64 a0_0) ∧ w61.cell? ⟨gb107, 1, none⟩ = some (.int .u64 a0_1) ∧ w61.cell? ⟨gb107, 2, none⟩ = some (.int .u64 a0_2) ∧ w61.cell? ⟨gb107, 3, none⟩ = some (.string a0_3) ∧ w61.cell? (ad126.add (x10_2).toNat) = some (.int .i64 (rd y123 x10_2)) := hS_
                 refine norm_ (a' := ?_) ?_ ?_
                 rotate_left
                 ·simp only [putAll, Act.put, List.setIfInBounds_toArray, List.set_cons_zero, List.set_cons_succ]
                  rfl
                 refine one_ (i := 11) (N := none) #[true, true, true, true, true, true, true, true, true, true, true, true, false] rfl rfl (one_of HT_.out (by kernel_rfl)) (by decide) (fun K hK => ?_)
                 have hs62 : w61.cell? ⟨gb139, 0, none⟩ = some (.int .i64 0) := (blk_cell BK139.out 0).trans rfl
                 have hfs62 := blk_frozen BK139.out 0
                 have hns62_0 := NB107_139.out
                 have hns62_1 := NB108_139.out
                 have hns62_2 := NB116_139.out
                 have hns62_3 := NB122_139.out
                 have hns62_4 := NB132_139.out
                 have hms62_0 := NB139_107.out
                 have hms62_1 := NB139_108.out
                 have hms62_2 := NB139_116.out
                 have hms62_3 := NB139_122.out
                 have hms62_4 := NB139_132.out
                 have hs63 : w61.cell? ⟨gb139, 1, none⟩ = some (.int .u64 0) := (blk_cell BK139.out 1).trans rfl
                 have hfs63 := blk_frozen BK139.out 1
                 have hns63_0 := NB107_139.out
                 have hns63_1 := NB108_139.out
                 have hns63_2 := NB116_139.out
                 have hns63_3 := NB122_139.out
                 have hns63_4 := NB132_139.out
                 have hms63_0 := NB139_107.out
                 have hms63_1 := NB139_108.out
                 have hms63_2 := NB139_116.out
                 have hms63_3 := NB139_122.out
                 have hms63_4 := NB139_132.out
                 have hs64 : w61.cell? ⟨gb139, 2, none⟩ = some (.int .u64 0) := (blk_cell BK139.out 2).trans rfl
                 have hfs64 := blk_frozen BK139.out 2
                 have hns64_0 := NB107_139.out
                 have hns64_1 := NB108_139.out
                 have hns64_2 := NB116_139.out
                 have hns64_3 := NB122_139.out
                 have hns64_4 := NB132_139.out
                 have hms64_0 := NB139_107.out
                 have hms64_1 := NB139_108.out
                 have hms64_2 := NB139_116.out
                 have hms64_3 := NB139_122.out
                 have hms64_4 := NB139_132.out
                 have hs65 : w61.cell? ⟨gb139, 3, none⟩ = some (.string (⟨#[]⟩ : ByteArray)) := (blk_cell BK139.out 3).trans rfl
                 have hfs65 := blk_frozen BK139.out 3
                 have hns65_0 := NB107_139.out
                 have hns65_1 := NB108_139.out
                 have hns65_2 := NB116_139.out
                 have hns65_3 := NB122_139.out
                 have hns65_4 := NB132_139.out
                 have hms65_0 := NB139_107.out
                 have hms65_1 := NB139_108.out
                 have hms65_2 := NB139_116.out
                 have hms65_3 := NB139_122.out
                 have hms65_4 := NB139_132.out
                 refine skip_ (w1 := ?_) (by rfl) rfl ?_ ?_
                 rotate_left
                 ·go_simp
                  rfl
                 refine hK.out _ _ ⟨((cell_far (p := ⟨gb139, _, none⟩) NB108_139.out _).trans (((cell_far (p := ⟨gb139, _, none⟩) NB108_139.out _).trans (((cell_far (p := ⟨gb139, _, none⟩) NB108_139.out _).trans (((cell_far (p := ⟨gb139, _, none⟩) NB108_139.out _).trans (hHeld.1)))))))), ((cell_far (p := ⟨gb139, _, none⟩) NB108_139.out _).trans (((cell_far (p := ⟨gb139, _, none⟩) NB108_139.out _).trans (((cell_far (p := ⟨gb139, _, none⟩) NB108_139.out _).trans (((cell_far (p := ⟨gb139, _, none⟩) NB108_139.out _).trans (hHeld.2.1)))))))), ((cell_far (p := ⟨gb139, _, none⟩) NB108_139.out _).trans (((cell_far (p := ⟨gb139, _, none⟩) NB108_139.out _).trans (((cell_far (p := ⟨gb139, _, none⟩) NB108_139.out _).trans (((cell_far (p := ⟨gb139, _, none⟩) NB108_139.out _).trans (hHeld.2.2.1)))))))), ((cell_far (p := ⟨gb139, _, none⟩) NB108_139.out _).trans (((cell_far (p := ⟨gb139, _, none⟩) NB108_139.out _).trans (((cell_far (p := ⟨gb139, _, none⟩) NB108_139.out _).trans (((cell_far (p := ⟨gb139, _, none⟩) NB108_139.out _).trans (hHeld.2.2.2.1)))))))), ((cell_far (p := ⟨gb139, _, none⟩) NB107_139.out _).trans (((cell_far (p := ⟨gb139, _, none⟩) NB107_139.out _).trans (((cell_far (p := ⟨gb139, _, none⟩) NB107_139.out _).trans (((cell_far (p := ⟨gb139, _, none⟩) NB107_139.out _).trans (hHeld.2.2.2.2.1)))))))), ((cell_far (p := ⟨gb139, _, none⟩) NB107_139.out _).trans (((cell_far (p := ⟨gb139, _, none⟩) NB107_139.out _).trans (((cell_far (p := ⟨gb139, _, none⟩) NB107_139.out _).trans (((cell_far (p := ⟨gb139, _, none⟩) NB107_139.out _).trans (hHeld.2.2.2.2.2.1)))))))), ((cell_far (p := ⟨gb139, _, none⟩) NB107_139.out _).trans (((cell_far (p := ⟨gb139, _, none⟩) NB107_139.out _).trans (((cell_far (p := ⟨gb139, _, none⟩) NB107_139.out _).trans (((cell_far (p := ⟨gb139, _, none⟩) NB107_139.out _).trans (hHeld.2.2.2.2.2.2.1)))))))), ((cell_far (p := ⟨gb139, _, none⟩) NB107_139.out _).trans (((cell_far (p := ⟨gb139, _, none⟩) NB107_139.out _).trans (((cell_far (p := ⟨gb139, _, none⟩) NB107_139.out _).trans (((cell_far (p := ⟨gb139, _, none⟩) NB107_139.out _).trans (hHeld.2.2.2.2.2.2.2.1)))))))), ((cell_far (p := ⟨gb139, _, none⟩) (by first | exact Kd.own_blk (Kd.R_ne HO_9.out BK139.out (by decide)) | (rw [add_block]; exact Kd.own_blk (Kd.R_ne HO_9.out BK139.out (by decide))) | (show (Addr.add _ _).block ≠ _; rw [add_block]; exact Kd.own_blk (Kd.R_ne HO_9.out BK139.out (by decide))) | (dsimp only; exact Kd.own_blk (Kd.R_ne HO_9.out BK139.out (by decide)))) _).trans (((cell_far (p := ⟨gb139, _, none⟩) (by first | exact Kd.own_blk (Kd.R_ne HO_9.out BK139.out (by decide)) | (rw [add_block]; exact Kd.own_blk (Kd.R_ne HO_9.out BK139.out (by decide))) | (show (Addr.add _ _).block ≠ _; rw [add_block]; exact Kd.own_blk (Kd.R_ne HO_9.out BK139.out (by decide))) | (dsimp only; exact Kd.own_blk (Kd.R_ne HO_9.out BK139.out (by decide)))) _).trans (((cell_far (p := ⟨gb139, _, none⟩) (by first | exact Kd.own_blk (Kd.R_ne HO_9.out BK139.out (by decide)) | (rw [add_block]; exact Kd.own_blk (Kd.R_ne HO_9.out BK139.out (by decide))) | (show (Addr.add _ _).block ≠ _; rw [add_block]; exact Kd.own_blk (Kd.R_ne HO_9.out BK139.out (by decide))) | (dsimp only; exact Kd.own_blk (Kd.R_ne HO_9.out BK139.out (by decide)))) _).trans (((cell_far (p := ⟨gb139, _, none⟩) (by first | exact Kd.own_blk (Kd.R_ne HO_9.out BK139.out (by decide)) | (rw [add_block]; exact Kd.own_blk (Kd.R_ne HO_9.out BK139.out (by decide))) | (show (Addr.add _ _).block ≠ _; rw [add_block]; exact Kd.own_blk (Kd.R_ne HO_9.out BK139.out (by decide))) | (dsimp only; exact Kd.own_blk (Kd.R_ne HO_9.out BK139.out (by decide)))) _).trans (hHeld.2.2.2.2.2.2.2.2))))))))⟩ (fun hHeld => ?_)
                 clear hK K
                 refine pu 12 14 HT_ ?_
                 refine done_ (done_of HT_.out (by kernel_rfl)) ?_
                 try go_wp2
                 have n0_ : Aside0 (Kd.R (Kd.int .i64) 3 ((((w61.setCell ⟨gb139, 0, none⟩ (.int .i64 t134)).setCell ⟨gb139, 1, none⟩ (.int .u64 t135)).setCell ⟨gb139, 2, none⟩ (.int .u64 t136)).setCell ⟨gb139, 3, none⟩ (.string t137)) w.heap.size (fun _ => True) (.slice (some ad126) y123.length co49) y123) := ⟨by (with_reducible repeat (first | apply Kd.R_alloc | apply Kd.R_drewN | apply Kd.R_drew)); exact Kd.R_mono (Kd.R_far (p := ⟨gb139, 3, none⟩) (Kd.R_far (p := ⟨gb139, 2, none⟩) (Kd.R_far (p := ⟨gb139, 1, none⟩) (Kd.R_far (p := ⟨gb139, 0, none⟩) (Kd.R_types HO_9.out BK139.out (by decide)) (fun _ hk => hk.2) (.int .i64 t134)) (fun _ hk => hk.2) (.int .u64 t135)) (fun _ hk => hk.2) (.int .u64 t136)) (fun _ hk => hk.2) (.string t137)) (fun _ hk => trivial)⟩
                 have n1_ : Aside0 (((((w61.setCell ⟨gb139, 0, none⟩ (.int .i64 t134)).setCell ⟨gb139, 1, none⟩ (.int .u64 t135)).setCell ⟨gb139, 2, none⟩ (.int .u64 t136)).setCell ⟨gb139, 3, none⟩ (.string t137)).heap[gb107]? = some (.cells #[.int .i64 a0_0, .int .u64 a0_1, .int .u64 a0_2, .string a0_3] 24 (0, 0))) := bkf BK107
                 have n2_ : Aside0 (((((w61.setCell ⟨gb139, 0, none⟩ (.int .i64 t134)).setCell ⟨gb139, 1, none⟩ (.int .u64 t135)).setCell ⟨gb139, 2, none⟩ (.int .u64 t136)).setCell ⟨gb139, 3, none⟩ (.string t137)).heap[gb108]? = some (.cells #[.int .i64 a1_0, .int .u64 a1_1, .int .u64 a1_2, .string a1_3] 24 (0, 0))) := bkf BK108
                 have n3_ : Aside0 (((((w61.setCell ⟨gb139, 0, none⟩ (.int .i64 t134)).setCell ⟨gb139, 1, none⟩ (.int .u64 t135)).setCell ⟨gb139, 2, none⟩ (.int .u64 t136)).setCell ⟨gb139, 3, none⟩ (.string t137)).heap[gb116]? = some (.cells #[.int .i64 t111, .int .u64 t112, .int .u64 t113, .string t114] 24 (0, 0))) := bkf BK116
                 have n4_ : Aside0 (((((w61.setCell ⟨gb139, 0, none⟩ (.int .i64 t134)).setCell ⟨gb139, 1, none⟩ (.int .u64 t135)).setCell ⟨gb139, 2, none⟩ (.int .u64 t136)).setCell ⟨gb139, 3, none⟩ (.string t137)).heap[gb122]? = some (.cells #[.int .i64 t117, .int .u64 t118, .int .u64 t119, .string t120] 24 (0, 0))) := bkf BK122
                 have n5_ : Aside0 (((((w61.setCell ⟨gb139, 0, none⟩ (.int .i64 t134)).setCell ⟨gb139, 1, none⟩ (.int .u64 t135)).setCell ⟨gb139, 2, none⟩ (.int .u64 t136)).setCell ⟨gb139, 3, none⟩ (.string t137)).heap[gb132]? = some (.cells #[.int .i64 t127, .int .u64 t128, .int .u64 t129, .string t130] 24 (0, 0))) := bkf BK132
                 have n6_ : Aside0 (((((w61.setCell ⟨gb139, 0, none⟩ (.int .i64 t134)).setCell ⟨gb139, 1, none⟩ (.int .u64 t135)).setCell ⟨gb139, 2, none⟩ (.int .u64 t136)).setCell ⟨gb139, 3, none⟩ (.string t137)).heap[gb139]? = some (.cells #[.int .i64 t134, .int .u64 t135, .int .u64 t136, .string t137] 24 (0, 0))) := ⟨by (with_reducible repeat (first | refine blk_drewN ?_ _ | refine blk_drew ?_ | refine blk_alloc ?_ _)); refine blk_put (cs := #[.int .i64 t134, .int .u64 t135, .int .u64 t136, .string (⟨#[]⟩ : ByteArray)]) ?_ 3 _ rfl; (with_reducible repeat (first | refine blk_drewN ?_ _ | refine blk_drew ?_ | refine blk_alloc ?_ _)); refine blk_put (cs := #[.int .i64 t134, .int .u64 t135, .int .u64 0, .string (⟨#[]⟩ : ByteArray)]) ?_ 2 _ rfl; (with_reducible repeat (first | refine blk_drewN ?_ _ | refine blk_drew ?_ | refine blk_alloc ?_ _)); refine blk_put (cs := #[.int .i64 t134, .int .u64 0, .int .u64 0, .string (⟨#[]⟩ : ByteArray)]) ?_ 1 _ rfl; (with_reducible repeat (first | refine blk_drewN ?_ _ | refine blk_drew ?_ | refine blk_alloc ?_ _)); refine blk_put (cs := #[.int .i64 0, .int .u64 0, .int .u64 0, .string (⟨#[]⟩ : ByteArray)]) ?_ 0 _ rfl; (with_reducible repeat (first | refine blk_drewN ?_ _ | refine blk_drew ?_ | refine blk_alloc ?_ _)); exact BK139.out⟩
                 have n7_ : Aside0 (Below w.heap.size w ((((w61.setCell ⟨gb139, 0, none⟩ (.int .i64 t134)).setCell ⟨gb139, 1, none⟩ (.int .u64 t135)).setCell ⟨gb139, 2, none⟩ (.int .u64 t136)).setCell ⟨gb139, 3, none⟩ (.string t137))) := blt HB
                 (try clear HO_9)
                 (try clear BK107)
                 (try clear BK108)
                 (try clear BK116)
                 (try clear BK122)
                 (try clear BK132)
                 (try clear BK139)
                 (try clear HB)
                 generalize ((((w61.setCell ⟨gb139, 0, none⟩ (.int .i64 t134)).setCell ⟨gb139, 1, none⟩ (.int .u64 t135)).setCell ⟨gb139, 2, none⟩ (.int .u64 t136)).setCell ⟨gb139, 3, none⟩ (.string t137)) = w66 at n0_ n1_ n2_ n3_ n4_ n5_ n6_ n7_ ⊢
                 have HO_9 := n0_
                 have BK107 := n1_
                 have BK108 := n2_
                 have BK116 := n3_
                 have BK122 := n4_
                 have BK132 := n5_
                 have BK139 := n6_
                 have HB := n7_
                 clear n0_ n1_ n2_ n3_ n4_ n5_ n6_ n7_
                 replace HO_9 := Aside0.mk (Kd.R_drew HO_9.out)
                 replace BK107 := Aside0.mk (blk_drew BK107.out)
                 replace BK108 := Aside0.mk (blk_drew BK108.out)
                 replace BK116 := Aside0.mk (blk_drew BK116.out)
                 replace BK122 := Aside0.mk (blk_drew BK122.out)
                 replace BK132 := Aside0.mk (blk_drew BK132.out)
                 replace BK139 := Aside0.mk (blk_drew BK139.out)
                 replace HB := Aside0.mk (below_drew1 HB.out)
                 have p140 : 0 ≤ (x10_2 : Int) := of_decide_eq_true (by first | (with_reducible assumption) | assumption)
                 have q140 : x10_2 < (y123.length : Int) := of_decide_eq_true (by first | (with_reducible assumption) | assumption)
                 obtain ⟨ad140, e140, hx140_0⟩ := Kd.at_int (Kd.R_reads' HO_9.out).2.2 x10_2 p140 q140
                 obtain rfl : ad126 = ad140 := (by injection e140)
                 replace p140 := eq_true p140
                 replace q140 := eq_true q140
                 refine start_ (n := 13) (S := fun w' => w'.cell? ⟨gb116, 0, none⟩ = some (.int .i64 t111) ∧ w'.cell? ⟨gb116, 1, none⟩ = some (.int .u64 t112) ∧ w'.cell? ⟨gb116, 2, none⟩ = some (.int .u64 t113) ∧ w'.cell? ⟨gb116, 3, none⟩ = some (.string t114) ∧ w'.cell? ⟨gb122, 0, none⟩ = some (.int .i64 t117) ∧ w'.cell? ⟨gb122, 1, none⟩ = some (.int .u64 t118) ∧ w'.cell? ⟨gb122, 2, none⟩ = some (.int .u64 t119) ∧ w'.cell? ⟨gb122, 3, none⟩ = some (.string t120) ∧ w'.cell? (ad126.add (x10_2).toNat) = some (.int .i64 (rd y123 x10_2))) (ds := []) #[false, false, false, false, false, false, false, false, false, false, false, false, false] (by kernel_rfl) rfl rfl ⟨(blk_cell BK116.out 0).trans rfl, (blk_cell BK116.out 1).trans rfl, (blk_cell BK116.out 2).trans rfl, (blk_cell BK116.out 3).trans rfl, (blk_cell BK122.out 0).trans rfl, (blk_cell BK122.out 1).trans rfl, (blk_cell BK122.out 2).trans rfl, (blk_cell BK122.out 3).trans rfl, hx140_0⟩ (fun hHeld => ?_); refine with_tabW l10_ComplexesSymmetries.tab15 l10_ComplexesSymmetries.bits15 (fun HT_ HW_ => ?_)
                 generalize w66.drew = w67 at HO_9 BK107 BK108 BK116 BK122 BK132 BK139 HB hx140_0 hHeld ⊢
                 refine pu 0 74 HT_ ?_
                 refine pu 1 75 HT_ ?_
                 refine pu 2 76 HT_ ?_
                 refine tk 3 77 HT_ HW_ hHeld ?_
                 refine tk 4 78 HT_ HW_ hHeld ?_
                 refine tk 5 79 HT_ HW_ hHeld ?_
                 refine join_ (σ := Nat) 2 #[true, true, true, true, true, true, true, true, true, true, true, false, false] (fun s_ => [(80, .tuple #[.agg #[.int .i64 t141, .int .u64 t142, .int .u64 t143, .string t144], .int .i64 t145]), (15, .pointer (some ⟨s_, 0, none⟩)), (73, .tuple #[.agg #[.int .i64 t141, .int .u64 t142, .int .u64 t143, .string t144], .int .i64 t145]), (81, .agg #[.int .i64 t141, .int .u64 t142, .int .u64 t143, .string t144]), (82, .int .i64 t145)]) (fun s_ w' => (w'.cell? ⟨gb116, 0, none⟩ = some (.int .i64 t111) ∧ w'.cell? ⟨gb116, 1, none⟩ = some (.int .u64 t112) ∧ w'.cell? ⟨gb116, 2, none⟩ = some (.int .u64 t113) ∧ w'.cell? ⟨gb116, 3, none⟩ = some (.string t114) ∧ w'.cell? ⟨gb122, 0, none⟩ = some (.int .i64 t117) ∧ w'.cell? ⟨gb122, 1, none⟩ = some (.int .u64 t118) ∧ w'.cell? ⟨gb122, 2, none⟩ = some (.int .u64 t119) ∧ w'.cell? ⟨gb122, 3, none⟩ = some (.string t120) ∧ w'.cell? (ad126.add (x10_2).toNat) = some (.int .i64 (rd y123 x10_2))) ∧ (Kd.R (Kd.int .i64) 3 w' w.heap.size (fun _ => True) (.slice (some ad126) y123.length co49) y123) ∧ (w'.heap[gb107]? = some (.cells #[.int .i64 a0_0, .int .u64 a0_1, .int .u64 a0_2, .string a0_3] 24 (0, 0))) ∧ (w'.heap[gb108]? = some (.cells #[.int .i64 a1_0, .int .u64 a1_1, .int .u64 a1_2, .string a1_3] 24 (0, 0))) ∧ (w'.heap[gb116]? = some (.cells #[.int .i64 t111, .int .u64 t112, .int .u64 t113, .string t114] 24 (0, 0))) ∧ (w'.heap[gb122]? = some (.cells #[.int .i64 t117, .int .u64 t118, .int .u64 t119, .string t120] 24 (0, 0))) ∧ (w'.heap[gb132]? = some (.cells #[.int .i64 t127, .int .u64 t128, .int .u64 t129, .string t130] 24 (0, 0))) ∧ (w'.heap[gb139]? = some (.cells #[.int .i64 t134, .int .u64 t135, .int .u64 t136, .string t137] 24 (0, 0))) ∧ (w'.heap[s_]? = some (.cells #[.int .i64 0, .int .u64 0, .int .u64 0, .string (⟨#[]⟩ : ByteArray)] 24 (0, 0))) ∧ (w.heap.size ≤ s_) ∧ (w.heap.size ≤ s_) ∧ (gb107 ≠ s_) ∧ (s_ ≠ gb107) ∧ (gb108 ≠ s_) ∧ (s_ ≠ gb108) ∧ (gb116 ≠ s_) ∧ (s_ ≠ gb116) ∧ (gb122 ≠ s_) ∧ (s_ ≠ gb122) ∧ (gb132 ≠ s_) ∧ (s_ ≠ gb132) ∧ (gb139 ≠ s_) ∧ (s_ ≠ gb139) ∧ (Below w.heap.size w w')) ?_ ?_
                 rotate_left
                 ·intro hCont
                  refine two_ (i := 6) (j := 10) (Ni := some 80) (Nj := some 15) #[true, true, true, true, true, true, true, false, false, false, false, false, false] #[true, true, true, true, true, true, false, false, false, false, true, false, false] rfl rfl rfl rfl (two_of HT_.out (by kernel_rfl)) (by decide) (by decide) (fun K hK => ?_) (fun K hK => ?_)
                  ·skip
                   refine goes_ Tryz.func12 (by kernel_rfl) rfl #[.int .i64 (rd y123 x10_2), .agg #[.int .i64 t111, .int .u64 t112, .int .u64 t113, .string t114], .agg #[.int .i64 t117, .int .u64 t118, .int .u64 t119, .string t120]] (by rfl) rfl rfl (by (try simp only [List.map_toArray, List.map_cons, List.map_nil]); first | done | rfl | (simp only [List.length_drop, List.length_take]; rfl)) ?_
                   with_reducible refine (cx_Apply.calls (rd y123 x10_2) t111 t112 t113 t114 t117 t118 t119 t120 t141 t142 t143 t144 t145 _ A39.out).mono ?_
                   rintro e w68 ⟨rfl, hb⟩
                   have HS8_ := (hb.cell (World.block_lt_of_cell? _ _ (hHeld.2.2.2.2.2.2.2.2))).trans (hHeld.2.2.2.2.2.2.2.2)
                   refine ⟨_, rfl, ?_⟩
                   replace HO_9 := Aside0.mk (Kd.R_below (by (with_reducible repeat (first | apply Kd.R_alloc | apply Kd.R_drewN | apply Kd.R_drew)); exact HO_9.out) hb)
                   replace BK107 := bkb BK107 hb
                   replace BK108 := bkb BK108 hb
                   replace BK116 := bkb BK116 hb
                   replace BK122 := bkb BK122 hb
                   replace BK132 := bkb BK132 hb
                   replace BK139 := bkb BK139 hb
                   replace HB := bls HB hb
                   (try clear hb)
                   (try clear hb2)
                   (try clear hk)
                   (try clear hi)
                   refine hK.out _ _ ⟨(blk_cell BK116.out 0).trans rfl, (blk_cell BK116.out 1).trans rfl, (blk_cell BK116.out 2).trans rfl, (blk_cell BK116.out 3).trans rfl, (blk_cell BK122.out 0).trans rfl, (blk_cell BK122.out 1).trans rfl, (blk_cell BK122.out 2).trans rfl, (blk_cell BK122.out 3).trans rfl, HS8_⟩ (fun hHeld => ?_)
                   clear hK K
                   refine norm_ (a' := ?_) ?_ ?_
                   rotate_left
                   ·show Act.put _ (some 80) _ = _
                    simp only [Act.put, List.setIfInBounds_toArray, List.set_cons_zero, List.set_cons_succ, i64_w, i32_w]
                    rfl
                   refine pu 7 73 HT_ ?_
                   refine pu 8 81 HT_ ?_
                   refine pu 9 82 HT_ ?_
                   refine one_ (i := 10) (N := some 15) #[true, true, true, true, true, true, true, true, true, true, true, false, false] rfl rfl (one_of HT_.out (by kernel_rfl)) (by decide) (fun K hK => ?_)
                   refine box_step ?hg (N := 15) ?hd (cs := #[.int .i64 0, .int .u64 0, .int .u64 0, .string (⟨#[]⟩ : ByteArray)]) (t := 24) ?hr ?_; (case hd => rfl); (case hg => rfl); (case hr => first | (go_simp; done) | (go_simp; rfl))
                   intro gb146 hg w69 hbox hb
                   have HS8_ := (hb.cell (World.block_lt_of_cell? _ _ (hHeld.2.2.2.2.2.2.2.2))).trans (hHeld.2.2.2.2.2.2.2.2)
                   have BK146 := Aside0.mk hbox
                   have GW146 := bsz HB hg
                   have GE146 := bsz HB hg
                   have NB107_146 := bnl BK107 hg
                   have NB146_107 := bng BK107 hg
                   have NB108_146 := bnl BK108 hg
                   have NB146_108 := bng BK108 hg
                   have NB116_146 := bnl BK116 hg
                   have NB146_116 := bng BK116 hg
                   have NB122_146 := bnl BK122 hg
                   have NB146_122 := bng BK122 hg
                   have NB132_146 := bnl BK132 hg
                   have NB146_132 := bng BK132 hg
                   have NB139_146 := bnl BK139 hg
                   have NB146_139 := bng BK139 hg
                   replace HO_9 := Aside0.mk (Kd.R_below (by (with_reducible repeat (first | apply Kd.R_alloc | apply Kd.R_drewN | apply Kd.R_drew)); exact HO_9.out) hb)
                   replace BK107 := bkb BK107 hb
                   replace BK108 := bkb BK108 hb
                   replace BK116 := bkb BK116 hb
                   replace BK122 := bkb BK122 hb
                   replace BK132 := bkb BK132 hb
                   replace BK139 := bkb BK139 hb
                   replace HB := bls HB hb
                   clear hb hbox hg
                   refine hK.out _ _ ⟨(blk_cell BK116.out 0).trans rfl, (blk_cell BK116.out 1).trans rfl, (blk_cell BK116.out 2).trans rfl, (blk_cell BK116.out 3).trans rfl, (blk_cell BK122.out 0).trans rfl, (blk_cell BK122.out 1).trans rfl, (blk_cell BK122.out 2).trans rfl, (blk_cell BK122.out 3).trans rfl, HS8_⟩ (fun hHeld => ?_)
                   clear hK K
                   refine norm_ (a' := ?_) ?_ ?_
                   rotate_left
                   ·show Act.put _ (some 15) _ = _
                    simp only [Act.put, List.setIfInBounds_toArray, List.set_cons_zero, List.set_cons_succ, i64_w, i32_w]
                    rfl
                   exact norm_ (by simp only [putAll, Act.put, List.setIfInBounds_toArray, List.set_cons_zero, List.set_cons_succ]) (hCont (gb146) _ ⟨hHeld, (by (with_reducible repeat (first | apply Kd.R_alloc | apply Kd.R_drewN | apply Kd.R_drew)); exact HO_9.out), (bks BK107).out, (bks BK108).out, (bks BK116).out, (bks BK122).out, (bks BK132).out, (bks BK139).out, (bks BK146).out, GW146.out, GE146.out, NB107_146.out, NB146_107.out, NB108_146.out, NB146_108.out, NB116_146.out, NB146_116.out, NB122_146.out, NB146_122.out, NB132_146.out, NB146_132.out, NB139_146.out, NB146_139.out, (blt HB).out⟩)
                  ·skip
                   refine box_step ?hg (N := 15) ?hd (cs := #[.int .i64 0, .int .u64 0, .int .u64 0, .string (⟨#[]⟩ : ByteArray)]) (t := 24) ?hr ?_; (case hd => rfl); (case hg => rfl); (case hr => first | (go_simp; done) | (go_simp; rfl))
                   intro gb146 hg w68 hbox hb
                   have HS8_ := (hb.cell (World.block_lt_of_cell? _ _ (hHeld.2.2.2.2.2.2.2.2))).trans (hHeld.2.2.2.2.2.2.2.2)
                   have BK146 := Aside0.mk hbox
                   have GW146 := bsz HB hg
                   have GE146 := bsz HB hg
                   have NB107_146 := bnl BK107 hg
                   have NB146_107 := bng BK107 hg
                   have NB108_146 := bnl BK108 hg
                   have NB146_108 := bng BK108 hg
                   have NB116_146 := bnl BK116 hg
                   have NB146_116 := bng BK116 hg
                   have NB122_146 := bnl BK122 hg
                   have NB146_122 := bng BK122 hg
                   have NB132_146 := bnl BK132 hg
                   have NB146_132 := bng BK132 hg
                   have NB139_146 := bnl BK139 hg
                   have NB146_139 := bng BK139 hg
                   replace HO_9 := Aside0.mk (Kd.R_below (by (with_reducible repeat (first | apply Kd.R_alloc | apply Kd.R_drewN | apply Kd.R_drew)); exact HO_9.out) hb)
                   replace BK107 := bkb BK107 hb
                   replace BK108 := bkb BK108 hb
                   replace BK116 := bkb BK116 hb
                   replace BK122 := bkb BK122 hb
                   replace BK132 := bkb BK132 hb
                   replace BK139 := bkb BK139 hb
                   replace HB := bls HB hb
                   clear hb hbox hg
                   refine hK.out _ _ ⟨(blk_cell BK116.out 0).trans rfl, (blk_cell BK116.out 1).trans rfl, (blk_cell BK116.out 2).trans rfl, (blk_cell BK116.out 3).trans rfl, (blk_cell BK122.out 0).trans rfl, (blk_cell BK122.out 1).trans rfl, (blk_cell BK122.out 2).trans rfl, (blk_cell BK122.out 3).trans rfl, HS8_⟩ (fun hHeld => ?_)
                   clear hK K
                   refine norm_ (a' := ?_) ?_ ?_
                   rotate_left
                   ·show Act.put _ (some 15) _ = _
                    simp only [Act.put, List.setIfInBounds_toArray, List.set_cons_zero, List.set_cons_succ, i64_w, i32_w]
                    rfl
                   refine one_ (i := 6) (N := some 80) #[true, true, true, true, true, true, true, false, false, false, true, false, false] rfl rfl (one_of HT_.out (by kernel_rfl)) (by decide) (fun K hK => ?_)
                   refine goes_ Tryz.func12 (by kernel_rfl) rfl #[.int .i64 (rd y123 x10_2), .agg #[.int .i64 t111, .int .u64 t112, .int .u64 t113, .string t114], .agg #[.int .i64 t117, .int .u64 t118, .int .u64 t119, .string t120]] (by rfl) rfl rfl (by (try simp only [List.map_toArray, List.map_cons, List.map_nil]); first | done | rfl | (simp only [List.length_drop, List.length_take]; rfl)) ?_
                   with_reducible refine (cx_Apply.calls (rd y123 x10_2) t111 t112 t113 t114 t117 t118 t119 t120 t141 t142 t143 t144 t145 _ A39.out).mono ?_
                   rintro e w69 ⟨rfl, hb⟩
                   have HS8_ := (hb.cell (World.block_lt_of_cell? _ _ (hHeld.2.2.2.2.2.2.2.2))).trans (hHeld.2.2.2.2.2.2.2.2)
                   refine ⟨_, rfl, ?_⟩
                   replace HO_9 := Aside0.mk (Kd.R_below (by (with_reducible repeat (first | apply Kd.R_alloc | apply Kd.R_drewN | apply Kd.R_drew)); exact HO_9.out) hb)
                   replace BK107 := bkb BK107 hb
                   replace BK108 := bkb BK108 hb
                   replace BK116 := bkb BK116 hb
                   replace BK122 := bkb BK122 hb
                   replace BK132 := bkb BK132 hb
                   replace BK139 := bkb BK139 hb
                   replace BK146 := bkb BK146 hb
                   replace HB := bls HB hb
                   (try clear hb)
                   (try clear hb2)
                   (try clear hk)
                   (try clear hi)
                   refine hK.out _ _ ⟨(blk_cell BK116.out 0).trans rfl, (blk_cell BK116.out 1).trans rfl, (blk_cell BK116.out 2).trans rfl, (blk_cell BK116.out 3).trans rfl, (blk_cell BK122.out 0).trans rfl, (blk_cell BK122.out 1).trans rfl, (blk_cell BK122.out 2).trans rfl, (blk_cell BK122.out 3).trans rfl, HS8_⟩ (fun hHeld => ?_)
                   clear hK K
                   refine norm_ (a' := ?_) ?_ ?_
                   rotate_left
                   ·show Act.put _ (some 80) _ = _
                    simp only [Act.put, List.setIfInBounds_toArray, List.set_cons_zero, List.set_cons_succ, i64_w, i32_w]
                    rfl
                   refine pu 7 73 HT_ ?_
                   refine pu 8 81 HT_ ?_
                   refine pu 9 82 HT_ ?_
                   exact norm_ (by simp only [putAll, Act.put, List.setIfInBounds_toArray, List.set_cons_zero, List.set_cons_succ]) (hCont (gb146) _ ⟨hHeld, (by (with_reducible repeat (first | apply Kd.R_alloc | apply Kd.R_drewN | apply Kd.R_drew)); exact HO_9.out), (bks BK107).out, (bks BK108).out, (bks BK116).out, (bks BK122).out, (bks BK132).out, (bks BK139).out, (bks BK146).out, GW146.out, GE146.out, NB107_146.out, NB146_107.out, NB108_146.out, NB146_108.out, NB116_146.out, NB146_116.out, NB122_146.out, NB146_122.out, NB132_146.out, NB146_132.out, NB139_146.out, NB146_139.out, (blt HB).out⟩)
                 rintro gb146 w70 ⟨hS_, h0_, h1_, h2_, h3_, h4_, h5_, h6_, h7_, h8_, h9_, h10_, h11_, h12_, h13_, h14_, h15_, h16_, h17_, h18_, h19_, h20_, h21_, h22_⟩
                 have n0_ : Aside0 (Kd.R (Kd.int .i64) 3 w70 w.heap.size (fun _ => True) (.slice (some ad126) y123.length co49) y123) := ⟨h0_⟩
                 have n1_ : Aside0 (w70.heap[gb107]? = some (.cells #[.int .i64 a0_0, .int .u64 a0_1, .int .u64 a0_2, .string a0_3] 24 (0, 0))) := ⟨h1_⟩
                 have n2_ : Aside0 (w70.heap[gb108]? = some (.cells #[.int .i64 a1_0, .int .u64 a1_1, .int .u64 a1_2, .string a1_3] 24 (0, 0))) := ⟨h2_⟩
                 have n3_ : Aside0 (w70.heap[gb116]? = some (.cells #[.int .i64 t111, .int .u64 t112, .int .u64 t113, .string t114] 24 (0, 0))) := ⟨h3_⟩
                 have n4_ : Aside0 (w70.heap[gb122]? = some (.cells #[.int .i64 t117, .int .u64 t118, .int .u64 t119, .string t120] 24 (0, 0))) := ⟨h4_⟩
                 have n5_ : Aside0 (w70.heap[gb132]? = some (.cells #[.int .i64 t127, .int .u64 t128, .int .u64 t129, .string t130] 24 (0, 0))) := ⟨h5_⟩
                 have n6_ : Aside0 (w70.heap[gb139]? = some (.cells #[.int .i64 t134, .int .u64 t135, .int .u64 t136, .string t137] 24 (0, 0))) := ⟨h6_⟩
                 have n7_ : Aside0 (w70.heap[gb146]? = some (.cells #[.int .i64 0, .int .u64 0, .int .u64 0, .string (⟨#[]⟩ : ByteArray)] 24 (0, 0))) := ⟨h7_⟩
                 have n8_ : Aside0 (w.heap.size ≤ gb146) := ⟨h8_⟩
                 have n9_ : Aside0 (w.heap.size ≤ gb146) := ⟨h9_⟩
                 have n10_ : Aside0 (gb107 ≠ gb146) := ⟨h10_⟩
                 have n11_ : Aside0 (gb146 ≠ gb107) := ⟨h11_⟩
                 have n12_ : Aside0 (gb108 ≠ gb146) := ⟨h12_⟩
                 have n13_ : Aside0 (gb146 ≠ gb108) := ⟨h13_⟩
                 have n14_ : Aside0 (gb116 ≠ gb146) := ⟨h14_⟩
                 have n15_ : Aside0 (gb146 ≠ gb116) := ⟨h15_⟩
                 have n16_ : Aside0 (gb122 ≠ gb146) := ⟨h16_⟩
                 have n17_ : Aside0 (gb146 ≠ gb122) := ⟨h17_⟩
                 have n18_ : Aside0 (gb132 ≠ gb146) := ⟨h18_⟩
                 have n19_ : Aside0 (gb146 ≠ gb132) := ⟨h19_⟩
                 have n20_ : Aside0 (gb139 ≠ gb146) := ⟨h20_⟩
                 have n21_ : Aside0 (gb146 ≠ gb139) := ⟨h21_⟩
                 have n22_ : Aside0 (Below w.heap.size w w70) := ⟨h22_⟩
                 clear HO_9
                 clear BK107
                 clear BK108
                 clear BK116
                 clear BK122
                 clear BK132
                 clear BK139
                 clear HB
                 clear h0_ h1_ h2_ h3_ h4_ h5_ h6_ h7_ h8_ h9_ h10_ h11_ h12_ h13_ h14_ h15_ h16_ h17_ h18_ h19_ h20_ h21_ h22_
                 have HO_9 := n0_
                 have BK107 := n1_
                 have BK108 := n2_
                 have BK116 := n3_
                 have BK122 := n4_
                 have BK132 := n5_
                 have BK139 := n6_
                 have BK146 := n7_
                 have GW146 := n8_
                 have GE146 := n9_
                 have NB107_146 := n10_
                 have NB146_107 := n11_
                 have NB108_146 := n12_
                 have NB146_108 := n13_
                 have NB116_146 := n14_
                 have NB146_116 := n15_
                 have NB122_146 := n16_
                 have NB146_122 := n17_
                 have NB132_146 := n18_
                 have NB146_132 := n19_
                 have NB139_146 := n20_
                 have NB146_139 := n21_
                 have HB := n22_
                 clear n0_ n1_ n2_ n3_ n4_ n5_ n6_ n7_ n8_ n9_ n10_ n11_ n12_ n13_ n14_ n15_ n16_ n17_ n18_ n19_ n20_ n21_ n22_
                 have hHeld : w70.cell? ⟨gb116, 0, none⟩ = some (.int .i64 t111) ∧ w70.cell? ⟨gb116, 1, none⟩ = some (.int .u64 t112) ∧ w70.cell? ⟨gb116, 2, none⟩ = some (.int .u64 t113) ∧ w70.cell? ⟨gb116, 3, none⟩ = some (.string t114) ∧ w70.cell? ⟨gb122, 0, none⟩ = some (.int .i64 t117) ∧ w70.cell? ⟨gb122, 1, none⟩ = some (.int .u64 t118) ∧ w70.cell? ⟨gb122, 2, none⟩ = some (.int .u64 t119) ∧ w70.cell? ⟨gb122, 3, none⟩ = some (.string t120) ∧ w70.cell? (ad126.add (x10_2).toNat) = some (.int .i64 (rd y123 x10_2)) := hS_
                 refine norm_ (a' := ?_) ?_ ?_
                 rotate_left
                 ·simp only [putAll, Act.put, List.setIfInBounds_toArray, List.set_cons_zero, List.set_cons_succ]
                  rfl
                 refine one_ (i := 11) (N := none) #[true, true, true, true, true, true, true, true, true, true, true, true, false] rfl rfl (one_of HT_.out (by kernel_rfl)) (by decide) (fun K hK => ?_)
                 have hs71 : w70.cell? ⟨gb146, 0, none⟩ = some (.int .i64 0) := (blk_cell BK146.out 0).trans rfl
                 have hfs71 := blk_frozen BK146.out 0
                 have hns71_0 := NB107_146.out
                 have hns71_1 := NB108_146.out
                 have hns71_2 := NB116_146.out
                 have hns71_3 := NB122_146.out
                 have hns71_4 := NB132_146.out
                 have hns71_5 := NB139_146.out
                 have hms71_0 := NB146_107.out
                 have hms71_1 := NB146_108.out
                 have hms71_2 := NB146_116.out
                 have hms71_3 := NB146_122.out
                 have hms71_4 := NB146_132.out
                 have hms71_5 := NB146_139.out
                 have hs72 : w70.cell? ⟨gb146, 1, none⟩ = some (.int .u64 0) := (blk_cell BK146.out 1).trans rfl
                 have hfs72 := blk_frozen BK146.out 1
                 have hns72_0 := NB107_146.out
                 have hns72_1 := NB108_146.out
                 have hns72_2 := NB116_146.out
                 have hns72_3 := NB122_146.out
                 have hns72_4 := NB132_146.out
                 have hns72_5 := NB139_146.out
                 have hms72_0 := NB146_107.out
                 have hms72_1 := NB146_108.out
                 have hms72_2 := NB146_116.out
                 have hms72_3 := NB146_122.out
                 have hms72_4 := NB146_132.out
                 have hms72_5 := NB146_139.out
                 have hs73 : w70.cell? ⟨gb146, 2, none⟩ = some (.int .u64 0) := (blk_cell BK146.out 2).trans rfl
                 have hfs73 := blk_frozen BK146.out 2
                 have hns73_0 := NB107_146.out
                 have hns73_1 := NB108_146.out
                 have hns73_2 := NB116_146.out
                 have hns73_3 := NB122_146.out
                 have hns73_4 := NB132_146.out
                 have hns73_5 := NB139_146.out
                 have hms73_0 := NB146_107.out
                 have hms73_1 := NB146_108.out
                 have hms73_2 := NB146_116.out
                 have hms73_3 := NB146_122.out
                 have hms73_4 := NB146_132.out
                 have hms73_5 := NB146_139.out
                 have hs74 : w70.cell? ⟨gb146, 3, none⟩ = some (.string (⟨#[]⟩ : ByteArray)) := (blk_cell BK146.out 3).trans rfl
                 have hfs74 := blk_frozen BK146.out 3
                 have hns74_0 := NB107_146.out
                 have hns74_1 := NB108_146.out
                 have hns74_2 := NB116_146.out
                 have hns74_3 := NB122_146.out
                 have hns74_4 := NB132_146.out
                 have hns74_5 := NB139_146.out
                 have hms74_0 := NB146_107.out
                 have hms74_1 := NB146_108.out
                 have hms74_2 := NB146_116.out
                 have hms74_3 := NB146_122.out
                 have hms74_4 := NB146_132.out
                 have hms74_5 := NB146_139.out
                 refine skip_ (w1 := ?_) (by rfl) rfl ?_ ?_
                 rotate_left
                 ·go_simp
                  rfl
                 refine hK.out _ _ ⟨((cell_far (p := ⟨gb146, _, none⟩) NB116_146.out _).trans (((cell_far (p := ⟨gb146, _, none⟩) NB116_146.out _).trans (((cell_far (p := ⟨gb146, _, none⟩) NB116_146.out _).trans (((cell_far (p := ⟨gb146, _, none⟩) NB116_146.out _).trans (hHeld.1)))))))), ((cell_far (p := ⟨gb146, _, none⟩) NB116_146.out _).trans (((cell_far (p := ⟨gb146, _, none⟩) NB116_146.out _).trans (((cell_far (p := ⟨gb146, _, none⟩) NB116_146.out _).trans (((cell_far (p := ⟨gb146, _, none⟩) NB116_146.out _).trans (hHeld.2.1)))))))), ((cell_far (p := ⟨gb146, _, none⟩) NB116_146.out _).trans (((cell_far (p := ⟨gb146, _, none⟩) NB116_146.out _).trans (((cell_far (p := ⟨gb146, _, none⟩) NB116_146.out _).trans (((cell_far (p := ⟨gb146, _, none⟩) NB116_146.out _).trans (hHeld.2.2.1)))))))), ((cell_far (p := ⟨gb146, _, none⟩) NB116_146.out _).trans (((cell_far (p := ⟨gb146, _, none⟩) NB116_146.out _).trans (((cell_far (p := ⟨gb146, _, none⟩) NB116_146.out _).trans (((cell_far (p := ⟨gb146, _, none⟩) NB116_146.out _).trans (hHeld.2.2.2.1)))))))), ((cell_far (p := ⟨gb146, _, none⟩) NB122_146.out _).trans (((cell_far (p := ⟨gb146, _, none⟩) NB122_146.out _).trans (((cell_far (p := ⟨gb146, _, none⟩) NB122_146.out _).trans (((cell_far (p := ⟨gb146, _, none⟩) NB122_146.out _).trans (hHeld.2.2.2.2.1)))))))), ((cell_far (p := ⟨gb146, _, none⟩) NB122_146.out _).trans (((cell_far (p := ⟨gb146, _, none⟩) NB122_146.out _).trans (((cell_far (p := ⟨gb146, _, none⟩) NB122_146.out _).trans (((cell_far (p := ⟨gb146, _, none⟩) NB122_146.out _).trans (hHeld.2.2.2.2.2.1)))))))), ((cell_far (p := ⟨gb146, _, none⟩) NB122_146.out _).trans (((cell_far (p := ⟨gb146, _, none⟩) NB122_146.out _).trans (((cell_far (p := ⟨gb146, _, none⟩) NB122_146.out _).trans (((cell_far (p := ⟨gb146, _, none⟩) NB122_146.out _).trans (hHeld.2.2.2.2.2.2.1)))))))), ((cell_far (p := ⟨gb146, _, none⟩) NB122_146.out _).trans (((cell_far (p := ⟨gb146, _, none⟩) NB122_146.out _).trans (((cell_far (p := ⟨gb146, _, none⟩) NB122_146.out _).trans (((cell_far (p := ⟨gb146, _, none⟩) NB122_146.out _).trans (hHeld.2.2.2.2.2.2.2.1)))))))), ((cell_far (p := ⟨gb146, _, none⟩) (by first | exact Kd.own_blk (Kd.R_ne HO_9.out BK146.out (by decide)) | (rw [add_block]; exact Kd.own_blk (Kd.R_ne HO_9.out BK146.out (by decide))) | (show (Addr.add _ _).block ≠ _; rw [add_block]; exact Kd.own_blk (Kd.R_ne HO_9.out BK146.out (by decide))) | (dsimp only; exact Kd.own_blk (Kd.R_ne HO_9.out BK146.out (by decide)))) _).trans (((cell_far (p := ⟨gb146, _, none⟩) (by first | exact Kd.own_blk (Kd.R_ne HO_9.out BK146.out (by decide)) | (rw [add_block]; exact Kd.own_blk (Kd.R_ne HO_9.out BK146.out (by decide))) | (show (Addr.add _ _).block ≠ _; rw [add_block]; exact Kd.own_blk (Kd.R_ne HO_9.out BK146.out (by decide))) | (dsimp only; exact Kd.own_blk (Kd.R_ne HO_9.out BK146.out (by decide)))) _).trans (((cell_far (p := ⟨gb146, _, none⟩) (by first | exact Kd.own_blk (Kd.R_ne HO_9.out BK146.out (by decide)) | (rw [add_block]; exact Kd.own_blk (Kd.R_ne HO_9.out BK146.out (by decide))) | (show (Addr.add _ _).block ≠ _; rw [add_block]; exact Kd.own_blk (Kd.R_ne HO_9.out BK146.out (by decide))) | (dsimp only; exact Kd.own_blk (Kd.R_ne HO_9.out BK146.out (by decide)))) _).trans (((cell_far (p := ⟨gb146, _, none⟩) (by first | exact Kd.own_blk (Kd.R_ne HO_9.out BK146.out (by decide)) | (rw [add_block]; exact Kd.own_blk (Kd.R_ne HO_9.out BK146.out (by decide))) | (show (Addr.add _ _).block ≠ _; rw [add_block]; exact Kd.own_blk (Kd.R_ne HO_9.out BK146.out (by decide))) | (dsimp only; exact Kd.own_blk (Kd.R_ne HO_9.out BK146.out (by decide)))) _).trans (hHeld.2.2.2.2.2.2.2.2))))))))⟩ (fun hHeld => ?_)
                 clear hK K
                 refine pu 12 16 HT_ ?_
                 refine done_ (done_of HT_.out (by kernel_rfl)) ?_
                 have hnb75 := NB132_107.out
                 have hnc75 := NB107_132.out
                 have hnb76 := NB132_108.out
                 have hnc76 := NB108_132.out
                 have hnb77 := NB132_116.out
                 have hnc77 := NB116_132.out
                 have hnb78 := NB132_122.out
                 have hnc78 := NB122_132.out
                 have hnb79 := NB132_139.out
                 have hnc79 := NB139_132.out
                 have hnb80 := NB132_146.out
                 have hnc80 := NB146_132.out
                 obtain ⟨hcz81_0, hcz81_1, hcz81_2, hcz81_3, hfz81_0, hfz81_1, hfz81_2, hfz81_3⟩ := cf4 BK132
                 try go_wp2_with (first | ((with_reducible refine gate_callee (f := 25) rfl ?_); refine gL 85 Tryz.func25 #[.agg #[.int .i64 t127, .int .u64 t128, .int .u64 t129, .string t130]] ?_; (with_reducible refine (cx_Conjugate.calls t127 t128 t129 t130 t147 t148 t149 t150 t151 _ A40.out).mono ?_); rintro e w82 ⟨rfl, hb⟩; refine ⟨_, rfl, ?_⟩; replace HO_9 := Aside0.mk (Kd.R_below (by (with_reducible repeat (first | apply Kd.R_alloc | apply Kd.R_drewN | apply Kd.R_drew)); exact (Kd.R_mono (Kd.R_far (p := ⟨gb146, 3, none⟩) (Kd.R_far (p := ⟨gb146, 2, none⟩) (Kd.R_far (p := ⟨gb146, 1, none⟩) (Kd.R_far (p := ⟨gb146, 0, none⟩) (Kd.R_types HO_9.out BK146.out (by decide)) (fun _ hk => hk.2) (.int .i64 t141)) (fun _ hk => hk.2) (.int .u64 t142)) (fun _ hk => hk.2) (.int .u64 t143)) (fun _ hk => hk.2) (.string t144)) (fun _ h_ => h_.1))) hb); replace BK107 := Aside0.mk (blk_below (g := gb107) (o := .cells #[.int .i64 a0_0, .int .u64 a0_1, .int .u64 a0_2, .string a0_3] 24 (0, 0)) (bkf BK107).out hb); replace BK108 := Aside0.mk (blk_below (g := gb108) (o := .cells #[.int .i64 a1_0, .int .u64 a1_1, .int .u64 a1_2, .string a1_3] 24 (0, 0)) (bkf BK108).out hb); replace BK116 := Aside0.mk (blk_below (g := gb116) (o := .cells #[.int .i64 t111, .int .u64 t112, .int .u64 t113, .string t114] 24 (0, 0)) (bkf BK116).out hb); replace BK122 := Aside0.mk (blk_below (g := gb122) (o := .cells #[.int .i64 t117, .int .u64 t118, .int .u64 t119, .string t120] 24 (0, 0)) (bkf BK122).out hb); replace BK132 := Aside0.mk (blk_below (g := gb132) (o := .cells #[.int .i64 t127, .int .u64 t128, .int .u64 t129, .string t130] 24 (0, 0)) (bkf BK132).out hb); replace BK139 := Aside0.mk (blk_below (g := gb139) (o := .cells #[.int .i64 t134, .int .u64 t135, .int .u64 t136, .string t137] 24 (0, 0)) (bkf BK139).out hb); replace BK146 := Aside0.mk (blk_below (g := gb146) (o := .cells #[.int .i64 t141, .int .u64 t142, .int .u64 t143, .string t144] 24 (0, 0)) (by (with_reducible repeat (first | refine blk_drewN ?_ _ | refine blk_drew ?_ | refine blk_alloc ?_ _)); refine blk_put (cs := #[.int .i64 t141, .int .u64 t142, .int .u64 t143, .string (⟨#[]⟩ : ByteArray)]) ?_ 3 _ rfl; (with_reducible repeat (first | refine blk_drewN ?_ _ | refine blk_drew ?_ | refine blk_alloc ?_ _)); refine blk_put (cs := #[.int .i64 t141, .int .u64 t142, .int .u64 0, .string (⟨#[]⟩ : ByteArray)]) ?_ 2 _ rfl; (with_reducible repeat (first | refine blk_drewN ?_ _ | refine blk_drew ?_ | refine blk_alloc ?_ _)); refine blk_put (cs := #[.int .i64 t141, .int .u64 0, .int .u64 0, .string (⟨#[]⟩ : ByteArray)]) ?_ 1 _ rfl; (with_reducible repeat (first | refine blk_drewN ?_ _ | refine blk_drew ?_ | refine blk_alloc ?_ _)); refine blk_put (cs := #[.int .i64 0, .int .u64 0, .int .u64 0, .string (⟨#[]⟩ : ByteArray)]) ?_ 0 _ rfl; (with_reducible repeat (first | refine blk_drewN ?_ _ | refine blk_drew ?_ | refine blk_alloc ?_ _)); exact BK146.out) hb); replace HB := bls HB hb; clear hb) | ((with_reducible refine gate_dst (N := 17) rfl ?_); refine bxe 17 (cs := #[.int .i64 0, .int .u64 0, .int .u64 0, .string (⟨#[]⟩ : ByteArray)]) (t := 24) ?_; intro gb152 hg w83 hbox hb; have BK152 := Aside0.mk hbox; have GW152 := bsz HB hg; have GE152 := bsz HB hg; have NB107_152 := bnl BK107 hg; have NB152_107 := bng BK107 hg; have NB108_152 := bnl BK108 hg; have NB152_108 := bng BK108 hg; have NB116_152 := bnl BK116 hg; have NB152_116 := bng BK116 hg; have NB122_152 := bnl BK122 hg; have NB152_122 := bng BK122 hg; have NB132_152 := bnl BK132 hg; have NB152_132 := bng BK132 hg; have NB139_152 := bnl BK139 hg; have NB152_139 := bng BK139 hg; have NB146_152 := bnl BK146 hg; have NB152_146 := bng BK146 hg; replace HO_9 := Aside0.mk (Kd.R_below (by (with_reducible repeat (first | apply Kd.R_alloc | apply Kd.R_drewN | apply Kd.R_drew)); exact HO_9.out) hb); replace BK107 := bkb BK107 hb; replace BK108 := bkb BK108 hb; replace BK116 := bkb BK116 hb; replace BK122 := bkb BK122 hb; replace BK132 := bkb BK132 hb; replace BK139 := bkb BK139 hb; replace BK146 := bkb BK146 hb; replace HB := bls HB hb; clear hb hbox hg; have hnb84 := NB152_107.out; have hnc84 := NB107_152.out; have hnb85 := NB152_108.out; have hnc85 := NB108_152.out; have hnb86 := NB152_116.out; have hnc86 := NB116_152.out; have hnb87 := NB152_122.out; have hnc87 := NB122_152.out; have hnb88 := NB152_132.out; have hnc88 := NB132_152.out; have hnb89 := NB152_139.out; have hnc89 := NB139_152.out; have hnb90 := NB152_146.out; have hnc90 := NB146_152.out; obtain ⟨hcz91_0, hcz91_1, hcz91_2, hcz91_3, hfz91_0, hfz91_1, hfz91_2, hfz91_3⟩ := cf4 BK152; obtain ⟨hcz92_0, hcz92_1, hcz92_2, hcz92_3, hfz92_0, hfz92_1, hfz92_2, hfz92_3⟩ := cf4 BK132; have hnb93 := NB139_107.out; have hnc93 := NB107_139.out; have hnb94 := NB139_108.out; have hnc94 := NB108_139.out; have hnb95 := NB139_116.out; have hnc95 := NB116_139.out; have hnb96 := NB139_122.out; have hnc96 := NB122_139.out; have hnb97 := NB139_146.out; have hnc97 := NB146_139.out; obtain ⟨hcz98_0, hcz98_1, hcz98_2, hcz98_3, hfz98_0, hfz98_1, hfz98_2, hfz98_3⟩ := cf4 BK139; have hnb99 := NB146_107.out; have hnc99 := NB107_146.out; have hnb100 := NB146_108.out; have hnc100 := NB108_146.out; have hnb101 := NB146_116.out; have hnc101 := NB116_146.out; have hnb102 := NB146_122.out; have hnc102 := NB122_146.out; have hcz103_0 : w83.cell? ⟨gb146, 0, none⟩ = some (.int .i64 t141) := (blk_cell BK146.out 0).trans rfl; have hcz103_1 : w83.cell? ⟨gb146, 1, none⟩ = some (.int .u64 t142) := (blk_cell BK146.out 1).trans rfl; have hcz103_2 : w83.cell? ⟨gb146, 2, none⟩ = some (.int .u64 t143) := (blk_cell BK146.out 2).trans rfl; have hcz103_3 : w83.cell? ⟨gb146, 3, none⟩ = some (.string t144) := (blk_cell BK146.out 3).trans rfl; have hfz103_0 := blk_frozen BK146.out 0; have hfz103_1 := blk_frozen BK146.out 1; have hfz103_2 := blk_frozen BK146.out 2; have hfz103_3 := blk_frozen BK146.out 3) | (go_at_call 24; (with_reducible refine (l10_near.calls t141 t142 t143 t144 t147 t148 t149 t150 true _ A46.out).mono ?_); rintro e w104 ⟨rfl, hb⟩; replace HO_9 := Aside0.mk (Kd.R_below (by (with_reducible repeat (first | apply Kd.R_alloc | apply Kd.R_drewN | apply Kd.R_drew)); exact (Kd.R_mono (Kd.R_far (p := ⟨gb152, 3, none⟩) (Kd.R_far (p := ⟨gb152, 2, none⟩) (Kd.R_far (p := ⟨gb152, 1, none⟩) (Kd.R_far (p := ⟨gb152, 0, none⟩) (Kd.R_types HO_9.out BK152.out (by decide)) (fun _ hk => hk.2) (.int .i64 t147)) (fun _ hk => hk.2) (.int .u64 t148)) (fun _ hk => hk.2) (.int .u64 t149)) (fun _ hk => hk.2) (.string t150)) (fun _ h_ => h_.1))) hb); replace BK107 := Aside0.mk (blk_below (g := gb107) (o := .cells #[.int .i64 a0_0, .int .u64 a0_1, .int .u64 a0_2, .string a0_3] 24 (0, 0)) (bkf BK107).out hb); replace BK108 := Aside0.mk (blk_below (g := gb108) (o := .cells #[.int .i64 a1_0, .int .u64 a1_1, .int .u64 a1_2, .string a1_3] 24 (0, 0)) (bkf BK108).out hb); replace BK116 := Aside0.mk (blk_below (g := gb116) (o := .cells #[.int .i64 t111, .int .u64 t112, .int .u64 t113, .string t114] 24 (0, 0)) (bkf BK116).out hb); replace BK122 := Aside0.mk (blk_below (g := gb122) (o := .cells #[.int .i64 t117, .int .u64 t118, .int .u64 t119, .string t120] 24 (0, 0)) (bkf BK122).out hb); replace BK132 := Aside0.mk (blk_below (g := gb132) (o := .cells #[.int .i64 t127, .int .u64 t128, .int .u64 t129, .string t130] 24 (0, 0)) (bkf BK132).out hb); replace BK139 := Aside0.mk (blk_below (g := gb139) (o := .cells #[.int .i64 t134, .int .u64 t135, .int .u64 t136, .string t137] 24 (0, 0)) (bkf BK139).out hb); replace BK146 := Aside0.mk (blk_below (g := gb146) (o := .cells #[.int .i64 t141, .int .u64 t142, .int .u64 t143, .string t144] 24 (0, 0)) (bkf BK146).out hb); replace BK152 := Aside0.mk (blk_below (g := gb152) (o := .cells #[.int .i64 t147, .int .u64 t148, .int .u64 t149, .string t150] 24 (0, 0)) (by (with_reducible repeat (first | refine blk_drewN ?_ _ | refine blk_drew ?_ | refine blk_alloc ?_ _)); refine blk_put (cs := #[.int .i64 t147, .int .u64 t148, .int .u64 t149, .string (⟨#[]⟩ : ByteArray)]) ?_ 3 _ rfl; (with_reducible repeat (first | refine blk_drewN ?_ _ | refine blk_drew ?_ | refine blk_alloc ?_ _)); refine blk_put (cs := #[.int .i64 t147, .int .u64 t148, .int .u64 0, .string (⟨#[]⟩ : ByteArray)]) ?_ 2 _ rfl; (with_reducible repeat (first | refine blk_drewN ?_ _ | refine blk_drew ?_ | refine blk_alloc ?_ _)); refine blk_put (cs := #[.int .i64 t147, .int .u64 0, .int .u64 0, .string (⟨#[]⟩ : ByteArray)]) ?_ 1 _ rfl; (with_reducible repeat (first | refine blk_drewN ?_ _ | refine blk_drew ?_ | refine blk_alloc ?_ _)); refine blk_put (cs := #[.int .i64 0, .int .u64 0, .int .u64 0, .string (⟨#[]⟩ : ByteArray)]) ?_ 0 _ rfl; (with_reducible repeat (first | refine blk_drewN ?_ _ | refine blk_drew ?_ | refine blk_alloc ?_ _)); exact BK152.out) hb); replace HB := bls HB hb; clear hb))
                 go_roundg k2
                 case measure => have := HJ8.out; have := HK2.out; omega
                 case rel => exact ⟨(wrap64 (x10_2 + 1)), (by first | rfl | (simp; done) | (simp [*]; done)), H', ⟨by have := HJ8.out; have := HK2.out; omega⟩, ⟨by (with_reducible repeat (first | apply Kd.R_alloc | apply Kd.R_drewN | apply Kd.R_drew)); exact HO_9.out⟩, bks BK107, bks BK108, bks BK116, bks BK122, blt HB⟩
                ·replace c47 := Bool.eq_false_iff.mpr c47
                 subst c47
                 have H1 : (some false) = some true := by first | (rw [if_neg (show ¬ (false = true) by decide)] at H; exact H) | rfl
                 clear H
                 have H := H1
                 clear H1
                 exact absurd H (by first | decide | (cases k2 <;> simp [l10_ComplexesSymmetries.j0, l10_ComplexesSymmetries.l0]))
               ·rw [if_neg c45] at H
                have c45b0 : (t151 == 0) = false := beq_eq_false_iff_ne.mpr c45
                have c45b1 : (t151 != 0) = true := bne_iff_ne.mpr c45
                exact absurd H (by first | decide | (cases k2 <;> simp [l10_ComplexesSymmetries.j0, l10_ComplexesSymmetries.l0]))
              ·rw [if_neg c44] at H
               have c44b0 : (t145 == 0) = false := beq_eq_false_iff_ne.mpr c44
               have c44b1 : (t145 != 0) = true := bne_iff_ne.mpr c44
               exact absurd H (by first | decide | (cases k2 <;> simp [l10_ComplexesSymmetries.j0, l10_ComplexesSymmetries.l0]))
            ·rw [if_neg c42] at H
             have c42b0 : (t138 == 0) = false := beq_eq_false_iff_ne.mpr c42
             have c42b1 : (t138 != 0) = true := bne_iff_ne.mpr c42
             exact absurd H (by first | decide | (cases k2 <;> simp [l10_ComplexesSymmetries.j0, l10_ComplexesSymmetries.l0]))
           ·rw [if_neg c41] at H
            have c41b0 : (t131 == 0) = false := beq_eq_false_iff_ne.mpr c41
            have c41b1 : (t131 != 0) = true := bne_iff_ne.mpr c41
            exact absurd H (by first | decide | (cases k2 <;> simp [l10_ComplexesSymmetries.j0, l10_ComplexesSymmetries.l0]))
          ·rw [if_neg c36] at H
           exact absurd H (by simp)
         ·rw [if_neg c35] at H
          exact absurd H (by simp)
        ·rw [if_neg c34] at H
         have c34b0 : decide (x10_2 < 2) = false := decide_eq_false c34
         clear c34
         replace H := Option.bind_eq_some_iff.mp H
         obtain ⟨⟨t154, t155, t156, t157, t158⟩, A105, H⟩ := H
         try dsimp only at H
         replace A105 := Aside0.mk A105
         replace H := Option.bind_eq_some_iff.mp H
         obtain ⟨⟨t160, t161, t162, t163, t164⟩, A106, H⟩ := H
         try dsimp only at H
         replace A106 := Aside0.mk A106
         replace H := Option.bind_eq_some_iff.mp H
         obtain ⟨⟨t166, t167, t168, t169, t170⟩, A107, H⟩ := H
         try dsimp only at H
         replace A107 := Aside0.mk A107
         replace H := Option.bind_eq_some_iff.mp H
         obtain ⟨⟨t172, t173, t174, t175⟩, A108, H⟩ := H
         try dsimp only at H
         replace A108 := Aside0.mk A108
         replace H := Option.bind_eq_some_iff.mp H
         obtain ⟨⟨t176, t177, t178, t179, t180⟩, A109, H⟩ := H
         try dsimp only at H
         replace A109 := Aside0.mk A109
         replace H := Option.bind_eq_some_iff.mp H
         obtain ⟨t182, A110, H⟩ := H
         try dsimp only at H
         replace A110 := Aside0.mk A110
         replace H := Option.bind_eq_some_iff.mp H
         obtain ⟨⟨t183, t184, t185, t186⟩, A111, H⟩ := H
         try dsimp only at H
         replace A111 := Aside0.mk A111
         by_cases c112 : t158 = 0
         ·rw [if_pos c112] at H
          have c112b0 : (t158 == 0) = true := beq_iff_eq.mpr c112
          have c112b1 : (t158 != 0) = false := bne_eq_false_iff_eq.mpr c112
          clear c112
          by_cases c113 : (t154 == a0_0 && (t155 == a0_1 && (t156 == a0_2 && (t157.toList == a0_3.toList)))) = true
          ·rw [if_pos c113] at H
           have c113b0 : (t154 == a0_0 && (t155 == a0_1 && (t156 == a0_2 && (t157.toList == a0_3.toList)))) = true := c113
           (try (have c113b1 : decide (t154 = a0_0 && (t155 == a0_1 && (t156 == a0_2 && (t157.toList == a0_3.toList)))) = true := by simpa using c113))
           (try (have c113b2 : (t154 == a0_0 && (t155 == a0_1 && (t156 == a0_2 && (t157.toList == a0_3.toList)))) = true := by simpa using c113))
           clear c113
           by_cases c114 : t164 = 0
           ·rw [if_pos c114] at H
            have c114b0 : (t164 == 0) = true := beq_iff_eq.mpr c114
            have c114b1 : (t164 != 0) = false := bne_eq_false_iff_eq.mpr c114
            clear c114
            by_cases c115 : t170 = 0
            ·rw [if_pos c115] at H
             have c115b0 : (t170 == 0) = true := beq_iff_eq.mpr c115
             have c115b1 : (t170 != 0) = false := bne_eq_false_iff_eq.mpr c115
             clear c115
             by_cases c116 : t180 = 0
             ·rw [if_pos c116] at H
              have c116b0 : (t180 == 0) = true := beq_iff_eq.mpr c116
              have c116b1 : (t180 != 0) = false := bne_eq_false_iff_eq.mpr c116
              clear c116
              by_cases c117 : (t160 == t166 && (t161 == t167 && (t162 == t168 && (t163.toList == t169.toList)))) = true
              ·rw [if_pos c117] at H
               have c117b0 : (t160 == t166 && (t161 == t167 && (t162 == t168 && (t163.toList == t169.toList)))) = true := c117
               (try (have c117b1 : decide (t160 = t166 && (t161 == t167 && (t162 == t168 && (t163.toList == t169.toList)))) = true := by simpa using c117))
               (try (have c117b2 : (t160 == t166 && (t161 == t167 && (t162 == t168 && (t163.toList == t169.toList)))) = true := by simpa using c117))
               clear c117
               have HR_ := Option.some.inj H
               clear H
               have hnb118 := NB116_107.out
               have hnc118 := NB107_116.out
               have hnb119 := NB116_108.out
               have hnc119 := NB108_116.out
               have hnb120 := NB116_122.out
               have hnc120 := NB122_116.out
               obtain ⟨hcz121_0, hcz121_1, hcz121_2, hcz121_3, hfz121_0, hfz121_1, hfz121_2, hfz121_3⟩ := cf4 BK116
               try go_wp2_with (first | ((with_reducible refine gate_callee (f := 25) rfl ?_); refine gL 115 Tryz.func25 #[.agg #[.int .i64 t111, .int .u64 t112, .int .u64 t113, .string t114]] ?_; (with_reducible refine (cx_Conjugate.calls t111 t112 t113 t114 t154 t155 t156 t157 t158 _ A105.out).mono ?_); rintro e w122 ⟨rfl, hb⟩; refine ⟨_, rfl, ?_⟩; replace HO_9 := Aside0.mk (Kd.R_below (by (with_reducible repeat (first | apply Kd.R_alloc | apply Kd.R_drewN | apply Kd.R_drew)); exact HO_9.out) hb); replace BK107 := bkb BK107 hb; replace BK108 := bkb BK108 hb; replace BK116 := bkb BK116 hb; replace BK122 := bkb BK122 hb; replace HB := bls HB hb; clear hb) | ((with_reducible refine gate_dst (N := 19) rfl ?_); refine bxe 19 (cs := #[.int .i64 0, .int .u64 0, .int .u64 0, .string (⟨#[]⟩ : ByteArray)]) (t := 24) ?_; intro gb159 hg w123 hbox hb; have BK159 := Aside0.mk hbox; have GW159 := bsz HB hg; have GE159 := bsz HB hg; have NB107_159 := bnl BK107 hg; have NB159_107 := bng BK107 hg; have NB108_159 := bnl BK108 hg; have NB159_108 := bng BK108 hg; have NB116_159 := bnl BK116 hg; have NB159_116 := bng BK116 hg; have NB122_159 := bnl BK122 hg; have NB159_122 := bng BK122 hg; replace HO_9 := Aside0.mk (Kd.R_below (by (with_reducible repeat (first | apply Kd.R_alloc | apply Kd.R_drewN | apply Kd.R_drew)); exact HO_9.out) hb); replace BK107 := bkb BK107 hb; replace BK108 := bkb BK108 hb; replace BK116 := bkb BK116 hb; replace BK122 := bkb BK122 hb; replace HB := bls HB hb; clear hb hbox hg; have hnb124 := NB159_107.out; have hnc124 := NB107_159.out; have hnb125 := NB159_108.out; have hnc125 := NB108_159.out; have hnb126 := NB159_116.out; have hnc126 := NB116_159.out; have hnb127 := NB159_122.out; have hnc127 := NB122_159.out; obtain ⟨hcz128_0, hcz128_1, hcz128_2, hcz128_3, hfz128_0, hfz128_1, hfz128_2, hfz128_3⟩ := cf4 BK159; have hnb129 := NB107_108.out; have hnc129 := NB108_107.out; have hnb130 := NB107_122.out; have hnc130 := NB122_107.out; have hcz131_0 : w123.cell? ⟨gb107, 0, none⟩ = some (.int .i64 a0_0) := (blk_cell BK107.out 0).trans rfl; have hcz131_1 : w123.cell? ⟨gb107, 1, none⟩ = some (.int .u64 a0_1) := (blk_cell BK107.out 1).trans rfl; have hcz131_2 : w123.cell? ⟨gb107, 2, none⟩ = some (.int .u64 a0_2) := (blk_cell BK107.out 2).trans rfl; have hcz131_3 : w123.cell? ⟨gb107, 3, none⟩ = some (.string a0_3) := (blk_cell BK107.out 3).trans rfl; have hfz131_0 := blk_frozen BK107.out 0; have hfz131_1 := blk_frozen BK107.out 1; have hfz131_2 := blk_frozen BK107.out 2; have hfz131_3 := blk_frozen BK107.out 3) | ((with_reducible refine gate_callee (f := 26) rfl ?_); refine gL 120 Tryz.func26 #[.agg #[.int .i64 a0_0, .int .u64 a0_1, .int .u64 a0_2, .string a0_3]] ?_; (with_reducible refine (cx_SizeOf.calls k2 a0_0 a0_1 a0_2 a0_3 t160 t161 t162 t163 t164 _ A106.out).mono ?_); rintro e w132 ⟨rfl, hb⟩; refine ⟨_, rfl, ?_⟩; replace HO_9 := Aside0.mk (Kd.R_below (by (with_reducible repeat (first | apply Kd.R_alloc | apply Kd.R_drewN | apply Kd.R_drew)); exact (Kd.R_mono (Kd.R_far (p := ⟨gb159, 3, none⟩) (Kd.R_far (p := ⟨gb159, 2, none⟩) (Kd.R_far (p := ⟨gb159, 1, none⟩) (Kd.R_far (p := ⟨gb159, 0, none⟩) (Kd.R_types HO_9.out BK159.out (by decide)) (fun _ hk => hk.2) (.int .i64 t154)) (fun _ hk => hk.2) (.int .u64 t155)) (fun _ hk => hk.2) (.int .u64 t156)) (fun _ hk => hk.2) (.string t157)) (fun _ h_ => h_.1))) hb); replace BK107 := Aside0.mk (blk_below (g := gb107) (o := .cells #[.int .i64 a0_0, .int .u64 a0_1, .int .u64 a0_2, .string a0_3] 24 (0, 0)) (bkf BK107).out hb); replace BK108 := Aside0.mk (blk_below (g := gb108) (o := .cells #[.int .i64 a1_0, .int .u64 a1_1, .int .u64 a1_2, .string a1_3] 24 (0, 0)) (bkf BK108).out hb); replace BK116 := Aside0.mk (blk_below (g := gb116) (o := .cells #[.int .i64 t111, .int .u64 t112, .int .u64 t113, .string t114] 24 (0, 0)) (bkf BK116).out hb); replace BK122 := Aside0.mk (blk_below (g := gb122) (o := .cells #[.int .i64 t117, .int .u64 t118, .int .u64 t119, .string t120] 24 (0, 0)) (bkf BK122).out hb); replace BK159 := Aside0.mk (blk_below (g := gb159) (o := .cells #[.int .i64 t154, .int .u64 t155, .int .u64 t156, .string t157] 24 (0, 0)) (by (with_reducible repeat (first | refine blk_drewN ?_ _ | refine blk_drew ?_ | refine blk_alloc ?_ _)); refine blk_put (cs := #[.int .i64 t154, .int .u64 t155, .int .u64 t156, .string (⟨#[]⟩ : ByteArray)]) ?_ 3 _ rfl; (with_reducible repeat (first | refine blk_drewN ?_ _ | refine blk_drew ?_ | refine blk_alloc ?_ _)); refine blk_put (cs := #[.int .i64 t154, .int .u64 t155, .int .u64 0, .string (⟨#[]⟩ : ByteArray)]) ?_ 2 _ rfl; (with_reducible repeat (first | refine blk_drewN ?_ _ | refine blk_drew ?_ | refine blk_alloc ?_ _)); refine blk_put (cs := #[.int .i64 t154, .int .u64 0, .int .u64 0, .string (⟨#[]⟩ : ByteArray)]) ?_ 1 _ rfl; (with_reducible repeat (first | refine blk_drewN ?_ _ | refine blk_drew ?_ | refine blk_alloc ?_ _)); refine blk_put (cs := #[.int .i64 0, .int .u64 0, .int .u64 0, .string (⟨#[]⟩ : ByteArray)]) ?_ 0 _ rfl; (with_reducible repeat (first | refine blk_drewN ?_ _ | refine blk_drew ?_ | refine blk_alloc ?_ _)); exact BK159.out) hb); replace HB := bls HB hb; clear hb) | ((with_reducible refine gate_dst (N := 20) rfl ?_); refine bxe 20 (cs := #[.int .i64 0, .int .u64 0, .int .u64 0, .string (⟨#[]⟩ : ByteArray)]) (t := 24) ?_; intro gb165 hg w133 hbox hb; have BK165 := Aside0.mk hbox; have GW165 := bsz HB hg; have GE165 := bsz HB hg; have NB107_165 := bnl BK107 hg; have NB165_107 := bng BK107 hg; have NB108_165 := bnl BK108 hg; have NB165_108 := bng BK108 hg; have NB116_165 := bnl BK116 hg; have NB165_116 := bng BK116 hg; have NB122_165 := bnl BK122 hg; have NB165_122 := bng BK122 hg; have NB159_165 := bnl BK159 hg; have NB165_159 := bng BK159 hg; replace HO_9 := Aside0.mk (Kd.R_below (by (with_reducible repeat (first | apply Kd.R_alloc | apply Kd.R_drewN | apply Kd.R_drew)); exact HO_9.out) hb); replace BK107 := bkb BK107 hb; replace BK108 := bkb BK108 hb; replace BK116 := bkb BK116 hb; replace BK122 := bkb BK122 hb; replace BK159 := bkb BK159 hb; replace HB := bls HB hb; clear hb hbox hg; have hnb134 := NB165_107.out; have hnc134 := NB107_165.out; have hnb135 := NB165_108.out; have hnc135 := NB108_165.out; have hnb136 := NB165_116.out; have hnc136 := NB116_165.out; have hnb137 := NB165_122.out; have hnc137 := NB122_165.out; have hnb138 := NB165_159.out; have hnc138 := NB159_165.out; obtain ⟨hcz139_0, hcz139_1, hcz139_2, hcz139_3, hfz139_0, hfz139_1, hfz139_2, hfz139_3⟩ := cf4 BK165; have hcz140_0 : w133.cell? ⟨gb116, 0, none⟩ = some (.int .i64 t111) := (blk_cell BK116.out 0).trans rfl; have hcz140_1 : w133.cell? ⟨gb116, 1, none⟩ = some (.int .u64 t112) := (blk_cell BK116.out 1).trans rfl; have hcz140_2 : w133.cell? ⟨gb116, 2, none⟩ = some (.int .u64 t113) := (blk_cell BK116.out 2).trans rfl; have hcz140_3 : w133.cell? ⟨gb116, 3, none⟩ = some (.string t114) := (blk_cell BK116.out 3).trans rfl; have hfz140_0 := blk_frozen BK116.out 0; have hfz140_1 := blk_frozen BK116.out 1; have hfz140_2 := blk_frozen BK116.out 2; have hfz140_3 := blk_frozen BK116.out 3) | ((with_reducible refine gate_callee (f := 26) rfl ?_); refine gL 125 Tryz.func26 #[.agg #[.int .i64 t111, .int .u64 t112, .int .u64 t113, .string t114]] ?_; (with_reducible refine (cx_SizeOf.calls k2 t111 t112 t113 t114 t166 t167 t168 t169 t170 _ A107.out).mono ?_); rintro e w141 ⟨rfl, hb⟩; refine ⟨_, rfl, ?_⟩; replace HO_9 := Aside0.mk (Kd.R_below (by (with_reducible repeat (first | apply Kd.R_alloc | apply Kd.R_drewN | apply Kd.R_drew)); exact (Kd.R_mono (Kd.R_far (p := ⟨gb165, 3, none⟩) (Kd.R_far (p := ⟨gb165, 2, none⟩) (Kd.R_far (p := ⟨gb165, 1, none⟩) (Kd.R_far (p := ⟨gb165, 0, none⟩) (Kd.R_types HO_9.out BK165.out (by decide)) (fun _ hk => hk.2) (.int .i64 t160)) (fun _ hk => hk.2) (.int .u64 t161)) (fun _ hk => hk.2) (.int .u64 t162)) (fun _ hk => hk.2) (.string t163)) (fun _ h_ => h_.1))) hb); replace BK107 := Aside0.mk (blk_below (g := gb107) (o := .cells #[.int .i64 a0_0, .int .u64 a0_1, .int .u64 a0_2, .string a0_3] 24 (0, 0)) (bkf BK107).out hb); replace BK108 := Aside0.mk (blk_below (g := gb108) (o := .cells #[.int .i64 a1_0, .int .u64 a1_1, .int .u64 a1_2, .string a1_3] 24 (0, 0)) (bkf BK108).out hb); replace BK116 := Aside0.mk (blk_below (g := gb116) (o := .cells #[.int .i64 t111, .int .u64 t112, .int .u64 t113, .string t114] 24 (0, 0)) (bkf BK116).out hb); replace BK122 := Aside0.mk (blk_below (g := gb122) (o := .cells #[.int .i64 t117, .int .u64 t118, .int .u64 t119, .string t120] 24 (0, 0)) (bkf BK122).out hb); replace BK159 := Aside0.mk (blk_below (g := gb159) (o := .cells #[.int .i64 t154, .int .u64 t155, .int .u64 t156, .string t157] 24 (0, 0)) (bkf BK159).out hb); replace BK165 := Aside0.mk (blk_below (g := gb165) (o := .cells #[.int .i64 t160, .int .u64 t161, .int .u64 t162, .string t163] 24 (0, 0)) (by (with_reducible repeat (first | refine blk_drewN ?_ _ | refine blk_drew ?_ | refine blk_alloc ?_ _)); refine blk_put (cs := #[.int .i64 t160, .int .u64 t161, .int .u64 t162, .string (⟨#[]⟩ : ByteArray)]) ?_ 3 _ rfl; (with_reducible repeat (first | refine blk_drewN ?_ _ | refine blk_drew ?_ | refine blk_alloc ?_ _)); refine blk_put (cs := #[.int .i64 t160, .int .u64 t161, .int .u64 0, .string (⟨#[]⟩ : ByteArray)]) ?_ 2 _ rfl; (with_reducible repeat (first | refine blk_drewN ?_ _ | refine blk_drew ?_ | refine blk_alloc ?_ _)); refine blk_put (cs := #[.int .i64 t160, .int .u64 0, .int .u64 0, .string (⟨#[]⟩ : ByteArray)]) ?_ 1 _ rfl; (with_reducible repeat (first | refine blk_drewN ?_ _ | refine blk_drew ?_ | refine blk_alloc ?_ _)); refine blk_put (cs := #[.int .i64 0, .int .u64 0, .int .u64 0, .string (⟨#[]⟩ : ByteArray)]) ?_ 0 _ rfl; (with_reducible repeat (first | refine blk_drewN ?_ _ | refine blk_drew ?_ | refine blk_alloc ?_ _)); exact BK165.out) hb); replace HB := bls HB hb; clear hb) | ((with_reducible refine gate_dst (N := 21) rfl ?_); refine bxe 21 (cs := #[.int .i64 0, .int .u64 0, .int .u64 0, .string (⟨#[]⟩ : ByteArray)]) (t := 24) ?_; intro gb171 hg w142 hbox hb; have BK171 := Aside0.mk hbox; have GW171 := bsz HB hg; have GE171 := bsz HB hg; have NB107_171 := bnl BK107 hg; have NB171_107 := bng BK107 hg; have NB108_171 := bnl BK108 hg; have NB171_108 := bng BK108 hg; have NB116_171 := bnl BK116 hg; have NB171_116 := bng BK116 hg; have NB122_171 := bnl BK122 hg; have NB171_122 := bng BK122 hg; have NB159_171 := bnl BK159 hg; have NB171_159 := bng BK159 hg; have NB165_171 := bnl BK165 hg; have NB171_165 := bng BK165 hg; replace HO_9 := Aside0.mk (Kd.R_below (by (with_reducible repeat (first | apply Kd.R_alloc | apply Kd.R_drewN | apply Kd.R_drew)); exact HO_9.out) hb); replace BK107 := bkb BK107 hb; replace BK108 := bkb BK108 hb; replace BK116 := bkb BK116 hb; replace BK122 := bkb BK122 hb; replace BK159 := bkb BK159 hb; replace BK165 := bkb BK165 hb; replace HB := bls HB hb; clear hb hbox hg; have hnb143 := NB171_107.out; have hnc143 := NB107_171.out; have hnb144 := NB171_108.out; have hnc144 := NB108_171.out; have hnb145 := NB171_116.out; have hnc145 := NB116_171.out; have hnb146 := NB171_122.out; have hnc146 := NB122_171.out; have hnb147 := NB171_159.out; have hnc147 := NB159_171.out; have hnb148 := NB171_165.out; have hnc148 := NB165_171.out; obtain ⟨hcz149_0, hcz149_1, hcz149_2, hcz149_3, hfz149_0, hfz149_1, hfz149_2, hfz149_3⟩ := cf4 BK171; have hcz150_0 : w142.cell? ⟨gb107, 0, none⟩ = some (.int .i64 a0_0) := (blk_cell BK107.out 0).trans rfl; have hcz150_1 : w142.cell? ⟨gb107, 1, none⟩ = some (.int .u64 a0_1) := (blk_cell BK107.out 1).trans rfl; have hcz150_2 : w142.cell? ⟨gb107, 2, none⟩ = some (.int .u64 a0_2) := (blk_cell BK107.out 2).trans rfl; have hcz150_3 : w142.cell? ⟨gb107, 3, none⟩ = some (.string a0_3) := (blk_cell BK107.out 3).trans rfl; have hfz150_0 := blk_frozen BK107.out 0; have hfz150_1 := blk_frozen BK107.out 1; have hfz150_2 := blk_frozen BK107.out 2; have hfz150_3 := blk_frozen BK107.out 3) | ((with_reducible refine gate_callee (f := 18) rfl ?_); refine gL 135 Tryz.func18 #[.int .i64 a0_0, .int .u64 a0_2, .int .u64 a0_1] ?_; (with_reducible refine (r10_Made.calls a0_0 a0_2 a0_1 t172 t173 t174 t175 _ A108.out).mono ?_); rintro e w151 ⟨rfl, hb⟩; refine ⟨_, rfl, ?_⟩; replace HO_9 := Aside0.mk (Kd.R_below (by (with_reducible repeat (first | apply Kd.R_alloc | apply Kd.R_drewN | apply Kd.R_drew)); exact (Kd.R_mono (Kd.R_far (p := ⟨gb171, 3, none⟩) (Kd.R_far (p := ⟨gb171, 2, none⟩) (Kd.R_far (p := ⟨gb171, 1, none⟩) (Kd.R_far (p := ⟨gb171, 0, none⟩) (Kd.R_types HO_9.out BK171.out (by decide)) (fun _ hk => hk.2) (.int .i64 t166)) (fun _ hk => hk.2) (.int .u64 t167)) (fun _ hk => hk.2) (.int .u64 t168)) (fun _ hk => hk.2) (.string t169)) (fun _ h_ => h_.1))) hb); replace BK107 := Aside0.mk (blk_below (g := gb107) (o := .cells #[.int .i64 a0_0, .int .u64 a0_1, .int .u64 a0_2, .string a0_3] 24 (0, 0)) (bkf BK107).out hb); replace BK108 := Aside0.mk (blk_below (g := gb108) (o := .cells #[.int .i64 a1_0, .int .u64 a1_1, .int .u64 a1_2, .string a1_3] 24 (0, 0)) (bkf BK108).out hb); replace BK116 := Aside0.mk (blk_below (g := gb116) (o := .cells #[.int .i64 t111, .int .u64 t112, .int .u64 t113, .string t114] 24 (0, 0)) (bkf BK116).out hb); replace BK122 := Aside0.mk (blk_below (g := gb122) (o := .cells #[.int .i64 t117, .int .u64 t118, .int .u64 t119, .string t120] 24 (0, 0)) (bkf BK122).out hb); replace BK159 := Aside0.mk (blk_below (g := gb159) (o := .cells #[.int .i64 t154, .int .u64 t155, .int .u64 t156, .string t157] 24 (0, 0)) (bkf BK159).out hb); replace BK165 := Aside0.mk (blk_below (g := gb165) (o := .cells #[.int .i64 t160, .int .u64 t161, .int .u64 t162, .string t163] 24 (0, 0)) (bkf BK165).out hb); replace BK171 := Aside0.mk (blk_below (g := gb171) (o := .cells #[.int .i64 t166, .int .u64 t167, .int .u64 t168, .string t169] 24 (0, 0)) (by (with_reducible repeat (first | refine blk_drewN ?_ _ | refine blk_drew ?_ | refine blk_alloc ?_ _)); refine blk_put (cs := #[.int .i64 t166, .int .u64 t167, .int .u64 t168, .string (⟨#[]⟩ : ByteArray)]) ?_ 3 _ rfl; (with_reducible repeat (first | refine blk_drewN ?_ _ | refine blk_drew ?_ | refine blk_alloc ?_ _)); refine blk_put (cs := #[.int .i64 t166, .int .u64 t167, .int .u64 0, .string (⟨#[]⟩ : ByteArray)]) ?_ 2 _ rfl; (with_reducible repeat (first | refine blk_drewN ?_ _ | refine blk_drew ?_ | refine blk_alloc ?_ _)); refine blk_put (cs := #[.int .i64 t166, .int .u64 0, .int .u64 0, .string (⟨#[]⟩ : ByteArray)]) ?_ 1 _ rfl; (with_reducible repeat (first | refine blk_drewN ?_ _ | refine blk_drew ?_ | refine blk_alloc ?_ _)); refine blk_put (cs := #[.int .i64 0, .int .u64 0, .int .u64 0, .string (⟨#[]⟩ : ByteArray)]) ?_ 0 _ rfl; (with_reducible repeat (first | refine blk_drewN ?_ _ | refine blk_drew ?_ | refine blk_alloc ?_ _)); exact BK171.out) hb); replace HB := bls HB hb; clear hb) | ((with_reducible refine gate_callee (f := 26) rfl ?_); refine gL 136 Tryz.func26 #[.agg #[.int .i64 t172, .int .u64 t173, .int .u64 t174, .string t175]] ?_; (with_reducible refine (cx_SizeOf.calls k2 t172 t173 t174 t175 t176 t177 t178 t179 t180 _ A109.out).mono ?_); rintro e w152 ⟨rfl, hb⟩; refine ⟨_, rfl, ?_⟩; replace HO_9 := Aside0.mk (Kd.R_below (by (with_reducible repeat (first | apply Kd.R_alloc | apply Kd.R_drewN | apply Kd.R_drew)); exact HO_9.out) hb); replace BK107 := bkb BK107 hb; replace BK108 := bkb BK108 hb; replace BK116 := bkb BK116 hb; replace BK122 := bkb BK122 hb; replace BK159 := bkb BK159 hb; replace BK165 := bkb BK165 hb; replace BK171 := bkb BK171 hb; replace HB := bls HB hb; clear hb) | ((with_reducible refine gate_dst (N := 23) rfl ?_); refine bxe 23 (cs := #[.int .i64 0, .int .u64 0, .int .u64 0, .string (⟨#[]⟩ : ByteArray)]) (t := 24) ?_; intro gb181 hg w153 hbox hb; have BK181 := Aside0.mk hbox; have GW181 := bsz HB hg; have GE181 := bsz HB hg; have NB107_181 := bnl BK107 hg; have NB181_107 := bng BK107 hg; have NB108_181 := bnl BK108 hg; have NB181_108 := bng BK108 hg; have NB116_181 := bnl BK116 hg; have NB181_116 := bng BK116 hg; have NB122_181 := bnl BK122 hg; have NB181_122 := bng BK122 hg; have NB159_181 := bnl BK159 hg; have NB181_159 := bng BK159 hg; have NB165_181 := bnl BK165 hg; have NB181_165 := bng BK165 hg; have NB171_181 := bnl BK171 hg; have NB181_171 := bng BK171 hg; replace HO_9 := Aside0.mk (Kd.R_below (by (with_reducible repeat (first | apply Kd.R_alloc | apply Kd.R_drewN | apply Kd.R_drew)); exact HO_9.out) hb); replace BK107 := bkb BK107 hb; replace BK108 := bkb BK108 hb; replace BK116 := bkb BK116 hb; replace BK122 := bkb BK122 hb; replace BK159 := bkb BK159 hb; replace BK165 := bkb BK165 hb; replace BK171 := bkb BK171 hb; replace HB := bls HB hb; clear hb hbox hg; have hnb154 := NB181_107.out; have hnc154 := NB107_181.out; have hnb155 := NB181_108.out; have hnc155 := NB108_181.out; have hnb156 := NB181_116.out; have hnc156 := NB116_181.out; have hnb157 := NB181_122.out; have hnc157 := NB122_181.out; have hnb158 := NB181_159.out; have hnc158 := NB159_181.out; have hnb159 := NB181_165.out; have hnc159 := NB165_181.out; have hnb160 := NB181_171.out; have hnc160 := NB171_181.out; have hcz161_0 : w153.cell? ⟨gb181, 0, none⟩ = some (.int .i64 0) := (blk_cell BK181.out 0).trans rfl; have hcz161_1 : w153.cell? ⟨gb181, 1, none⟩ = some (.int .u64 0) := (blk_cell BK181.out 1).trans rfl; have hcz161_2 : w153.cell? ⟨gb181, 2, none⟩ = some (.int .u64 0) := (blk_cell BK181.out 2).trans rfl; have hcz161_3 : w153.cell? ⟨gb181, 3, none⟩ = some (.string (⟨#[]⟩ : ByteArray)) := (blk_cell BK181.out 3).trans rfl; have hfz161_0 := blk_frozen BK181.out 0; have hfz161_1 := blk_frozen BK181.out 1; have hfz161_2 := blk_frozen BK181.out 2; have hfz161_3 := blk_frozen BK181.out 3))
               have n0_ : Aside0 (Kd.R (Kd.int .i64) 3 ((((w153.setCell ⟨gb181, 0, none⟩ (.int .i64 t176)).setCell ⟨gb181, 1, none⟩ (.int .u64 t177)).setCell ⟨gb181, 2, none⟩ (.int .u64 t178)).setCell ⟨gb181, 3, none⟩ (.string t179)) w.heap.size (fun _ => True) v124 y123) := ⟨by (with_reducible repeat (first | apply Kd.R_alloc | apply Kd.R_drewN | apply Kd.R_drew)); exact Kd.R_mono (Kd.R_far (p := ⟨gb181, 3, none⟩) (Kd.R_far (p := ⟨gb181, 2, none⟩) (Kd.R_far (p := ⟨gb181, 1, none⟩) (Kd.R_far (p := ⟨gb181, 0, none⟩) (Kd.R_types HO_9.out BK181.out (by decide)) (fun _ hk => hk.2) (.int .i64 t176)) (fun _ hk => hk.2) (.int .u64 t177)) (fun _ hk => hk.2) (.int .u64 t178)) (fun _ hk => hk.2) (.string t179)) (fun _ hk => trivial)⟩
               have n1_ : Aside0 (((((w153.setCell ⟨gb181, 0, none⟩ (.int .i64 t176)).setCell ⟨gb181, 1, none⟩ (.int .u64 t177)).setCell ⟨gb181, 2, none⟩ (.int .u64 t178)).setCell ⟨gb181, 3, none⟩ (.string t179)).heap[gb107]? = some (.cells #[.int .i64 a0_0, .int .u64 a0_1, .int .u64 a0_2, .string a0_3] 24 (0, 0))) := bkf BK107
               have n2_ : Aside0 (((((w153.setCell ⟨gb181, 0, none⟩ (.int .i64 t176)).setCell ⟨gb181, 1, none⟩ (.int .u64 t177)).setCell ⟨gb181, 2, none⟩ (.int .u64 t178)).setCell ⟨gb181, 3, none⟩ (.string t179)).heap[gb108]? = some (.cells #[.int .i64 a1_0, .int .u64 a1_1, .int .u64 a1_2, .string a1_3] 24 (0, 0))) := bkf BK108
               have n3_ : Aside0 (((((w153.setCell ⟨gb181, 0, none⟩ (.int .i64 t176)).setCell ⟨gb181, 1, none⟩ (.int .u64 t177)).setCell ⟨gb181, 2, none⟩ (.int .u64 t178)).setCell ⟨gb181, 3, none⟩ (.string t179)).heap[gb116]? = some (.cells #[.int .i64 t111, .int .u64 t112, .int .u64 t113, .string t114] 24 (0, 0))) := bkf BK116
               have n4_ : Aside0 (((((w153.setCell ⟨gb181, 0, none⟩ (.int .i64 t176)).setCell ⟨gb181, 1, none⟩ (.int .u64 t177)).setCell ⟨gb181, 2, none⟩ (.int .u64 t178)).setCell ⟨gb181, 3, none⟩ (.string t179)).heap[gb122]? = some (.cells #[.int .i64 t117, .int .u64 t118, .int .u64 t119, .string t120] 24 (0, 0))) := bkf BK122
               have n5_ : Aside0 (((((w153.setCell ⟨gb181, 0, none⟩ (.int .i64 t176)).setCell ⟨gb181, 1, none⟩ (.int .u64 t177)).setCell ⟨gb181, 2, none⟩ (.int .u64 t178)).setCell ⟨gb181, 3, none⟩ (.string t179)).heap[gb159]? = some (.cells #[.int .i64 t154, .int .u64 t155, .int .u64 t156, .string t157] 24 (0, 0))) := bkf BK159
               have n6_ : Aside0 (((((w153.setCell ⟨gb181, 0, none⟩ (.int .i64 t176)).setCell ⟨gb181, 1, none⟩ (.int .u64 t177)).setCell ⟨gb181, 2, none⟩ (.int .u64 t178)).setCell ⟨gb181, 3, none⟩ (.string t179)).heap[gb165]? = some (.cells #[.int .i64 t160, .int .u64 t161, .int .u64 t162, .string t163] 24 (0, 0))) := bkf BK165
               have n7_ : Aside0 (((((w153.setCell ⟨gb181, 0, none⟩ (.int .i64 t176)).setCell ⟨gb181, 1, none⟩ (.int .u64 t177)).setCell ⟨gb181, 2, none⟩ (.int .u64 t178)).setCell ⟨gb181, 3, none⟩ (.string t179)).heap[gb171]? = some (.cells #[.int .i64 t166, .int .u64 t167, .int .u64 t168, .string t169] 24 (0, 0))) := bkf BK171
               have n8_ : Aside0 (((((w153.setCell ⟨gb181, 0, none⟩ (.int .i64 t176)).setCell ⟨gb181, 1, none⟩ (.int .u64 t177)).setCell ⟨gb181, 2, none⟩ (.int .u64 t178)).setCell ⟨gb181, 3, none⟩ (.string t179)).heap[gb181]? = some (.cells #[.int .i64 t176, .int .u64 t177, .int .u64 t178, .string t179] 24 (0, 0))) := ⟨by (with_reducible repeat (first | refine blk_drewN ?_ _ | refine blk_drew ?_ | refine blk_alloc ?_ _)); refine blk_put (cs := #[.int .i64 t176, .int .u64 t177, .int .u64 t178, .string (⟨#[]⟩ : ByteArray)]) ?_ 3 _ rfl; (with_reducible repeat (first | refine blk_drewN ?_ _ | refine blk_drew ?_ | refine blk_alloc ?_ _)); refine blk_put (cs := #[.int .i64 t176, .int .u64 t177, .int .u64 0, .string (⟨#[]⟩ : ByteArray)]) ?_ 2 _ rfl; (with_reducible repeat (first | refine blk_drewN ?_ _ | refine blk_drew ?_ | refine blk_alloc ?_ _)); refine blk_put (cs := #[.int .i64 t176, .int .u64 0, .int .u64 0, .string (⟨#[]⟩ : ByteArray)]) ?_ 1 _ rfl; (with_reducible repeat (first | refine blk_drewN ?_ _ | refine blk_drew ?_ | refine blk_alloc ?_ _)); refine blk_put (cs := #[.int .i64 0, .int .u64 0, .int .u64 0, .string (⟨#[]⟩ : ByteArray)]) ?_ 0 _ rfl; (with_reducible repeat (first | refine blk_drewN ?_ _ | refine blk_drew ?_ | refine blk_alloc ?_ _)); exact BK181.out⟩
               have n9_ : Aside0 (Below w.heap.size w ((((w153.setCell ⟨gb181, 0, none⟩ (.int .i64 t176)).setCell ⟨gb181, 1, none⟩ (.int .u64 t177)).setCell ⟨gb181, 2, none⟩ (.int .u64 t178)).setCell ⟨gb181, 3, none⟩ (.string t179))) := blt HB
               (try clear HO_9)
               (try clear BK107)
               (try clear BK108)
               (try clear BK116)
               (try clear BK122)
               (try clear BK159)
               (try clear BK165)
               (try clear BK171)
               (try clear BK181)
               (try clear HB)
               generalize ((((w153.setCell ⟨gb181, 0, none⟩ (.int .i64 t176)).setCell ⟨gb181, 1, none⟩ (.int .u64 t177)).setCell ⟨gb181, 2, none⟩ (.int .u64 t178)).setCell ⟨gb181, 3, none⟩ (.string t179)) = w162 at n0_ n1_ n2_ n3_ n4_ n5_ n6_ n7_ n8_ n9_ ⊢
               have HO_9 := n0_
               have BK107 := n1_
               have BK108 := n2_
               have BK116 := n3_
               have BK122 := n4_
               have BK159 := n5_
               have BK165 := n6_
               have BK171 := n7_
               have BK181 := n8_
               have HB := n9_
               clear n0_ n1_ n2_ n3_ n4_ n5_ n6_ n7_ n8_ n9_
               replace HO_9 := Aside0.mk (Kd.R_drew HO_9.out)
               replace BK107 := Aside0.mk (blk_drew BK107.out)
               replace BK108 := Aside0.mk (blk_drew BK108.out)
               replace BK116 := Aside0.mk (blk_drew BK116.out)
               replace BK122 := Aside0.mk (blk_drew BK122.out)
               replace BK159 := Aside0.mk (blk_drew BK159.out)
               replace BK165 := Aside0.mk (blk_drew BK165.out)
               replace BK171 := Aside0.mk (blk_drew BK171.out)
               replace BK181 := Aside0.mk (blk_drew BK181.out)
               replace HB := Aside0.mk (below_drew1 HB.out)
               refine start_ (n := 9) (S := fun w' => w'.cell? ⟨gb107, 0, none⟩ = some (.int .i64 a0_0) ∧ w'.cell? ⟨gb107, 1, none⟩ = some (.int .u64 a0_1) ∧ w'.cell? ⟨gb107, 2, none⟩ = some (.int .u64 a0_2) ∧ w'.cell? ⟨gb107, 3, none⟩ = some (.string a0_3)) (ds := []) #[false, false, false, false, false, false, false, false, false] (by kernel_rfl) rfl rfl ⟨(blk_cell BK107.out 0).trans rfl, (blk_cell BK107.out 1).trans rfl, (blk_cell BK107.out 2).trans rfl, (blk_cell BK107.out 3).trans rfl⟩ (fun hHeld => ?_); refine with_tabW l10_ComplexesSymmetries.tab23 l10_ComplexesSymmetries.bits23 (fun HT_ HW_ => ?_)
               generalize w162.drew = w163 at HO_9 BK107 BK108 BK116 BK122 BK159 BK165 BK171 BK181 HB hHeld ⊢
               refine pu 0 139 HT_ ?_
               refine pu 3 142 HT_ ?_
               refine tk 1 140 HT_ HW_ hHeld ?_
               refine tk 4 143 HT_ HW_ hHeld ?_
               refine one_ (i := 2) (N := some 141) #[true, true, true, true, true, false, false, false, false] rfl rfl (one_of HT_.out (by kernel_rfl)) (by decide) (fun K hK => ?_)
               refine goes_ Tryz.func16 (by kernel_rfl) rfl #[.int .i64 a0_0] (by rfl) rfl rfl (by (try simp only [List.map_toArray, List.map_cons, List.map_nil]); first | done | rfl | (simp only [List.length_drop, List.length_take]; rfl)) ?_
               with_reducible refine (r10_PartType.calls a0_0 t182 _ A110.out).mono ?_
               rintro e w' ⟨rfl, ⟨nd, rfl⟩⟩
               refine ⟨_, rfl, ?_⟩
               refine hK.out _ _ ⟨(blk_cell BK107.out 0).trans rfl, (blk_cell BK107.out 1).trans rfl, (blk_cell BK107.out 2).trans rfl, (blk_cell BK107.out 3).trans rfl⟩ (fun hHeld => ?_)
               clear hK K
               refine norm_ (a' := ?_) ?_ ?_
               rotate_left
               ·show Act.put _ (some 141) _ = _
                simp only [Act.put, List.setIfInBounds_toArray, List.set_cons_zero, List.set_cons_succ, i64_w, i32_w]
                rfl
               refine one_ (i := 5) (N := some 144) #[true, true, true, true, true, true, false, false, false] rfl rfl (one_of HT_.out (by kernel_rfl)) (by decide) (fun K hK => ?_)
               refine goes_ Tryz.func21 (by kernel_rfl) rfl #[.int .i64 t182, .int .u64 a0_2] (by rfl) rfl rfl (by (try simp only [List.map_toArray, List.map_cons, List.map_nil]); first | done | rfl | (simp only [List.length_drop, List.length_take]; rfl)) ?_
               with_reducible refine (r8_Parts.calls t182 a0_2 t183 t184 t185 t186 _ A111.out).mono ?_
               rintro e w164 ⟨rfl, hb⟩
               refine ⟨_, rfl, ?_⟩
               replace HO_9 := Aside0.mk (Kd.R_below (by (with_reducible repeat (first | apply Kd.R_alloc | apply Kd.R_drewN | apply Kd.R_drew)); exact HO_9.out) hb)
               replace BK107 := bkb BK107 hb
               replace BK108 := bkb BK108 hb
               replace BK116 := bkb BK116 hb
               replace BK122 := bkb BK122 hb
               replace BK159 := bkb BK159 hb
               replace BK165 := bkb BK165 hb
               replace BK171 := bkb BK171 hb
               replace BK181 := bkb BK181 hb
               replace HB := bls HB hb
               (try clear hb)
               (try clear hb2)
               (try clear hk)
               (try clear hi)
               refine hK.out _ _ ⟨(blk_cell BK107.out 0).trans rfl, (blk_cell BK107.out 1).trans rfl, (blk_cell BK107.out 2).trans rfl, (blk_cell BK107.out 3).trans rfl⟩ (fun hHeld => ?_)
               clear hK K
               refine norm_ (a' := ?_) ?_ ?_
               rotate_left
               ·show Act.put _ (some 144) _ = _
                simp only [Act.put, List.setIfInBounds_toArray, List.set_cons_zero, List.set_cons_succ, i64_w, i32_w]
                rfl
               refine pu 6 145 HT_ ?_
               refine pu 7 146 HT_ ?_
               refine pu 8 25 HT_ ?_
               refine done_ (done_of HT_.out (by kernel_rfl)) ?_
               obtain ⟨hcz165_0, hcz165_1, hcz165_2, hcz165_3, hfz165_0, hfz165_1, hfz165_2, hfz165_3⟩ := cf4 BK159
               obtain ⟨hcz166_0, hcz166_1, hcz166_2, hcz166_3, hfz166_0, hfz166_1, hfz166_2, hfz166_3⟩ := cf4 BK107
               obtain ⟨hcz167_0, hcz167_1, hcz167_2, hcz167_3, hfz167_0, hfz167_1, hfz167_2, hfz167_3⟩ := cf4 BK165
               obtain ⟨hcz168_0, hcz168_1, hcz168_2, hcz168_3, hfz168_0, hfz168_1, hfz168_2, hfz168_3⟩ := cf4 BK171
               obtain ⟨hcz169_0, hcz169_1, hcz169_2, hcz169_3, hfz169_0, hfz169_1, hfz169_2, hfz169_3⟩ := cf4 BK181
               try go_wp2
               go_ret
               exact ⟨by first | rfl | (rw [HR_]; done) | (simp only [HR_]; done) | (simp [errW_none, errW_some] <;> rfl) | (simp [*, errW_none, errW_some] <;> rfl), (blt HB).out⟩
              ·rw [if_neg c117] at H
               have c117b0 : (t160 == t166 && (t161 == t167 && (t162 == t168 && (t163.toList == t169.toList)))) = false := by simpa using c117
               (try (have c117b1 : decide (t160 = t166 && (t161 == t167 && (t162 == t168 && (t163.toList == t169.toList)))) = false := by simpa using c117))
               (try (have c117b2 : (t160 == t166 && (t161 == t167 && (t162 == t168 && (t163.toList == t169.toList)))) = false := by simpa using c117))
               (try (have c117b3 : ¬ (t160 = t166 && (t161 == t167 && (t162 == t168 && (t163.toList == t169.toList)))) := by simpa using c117))
               clear c117
               exact absurd H (by first | decide | (cases k2 <;> simp [l10_ComplexesSymmetries.j0, l10_ComplexesSymmetries.l0]))
             ·rw [if_neg c116] at H
              have c116b0 : (t180 == 0) = false := beq_eq_false_iff_ne.mpr c116
              have c116b1 : (t180 != 0) = true := bne_iff_ne.mpr c116
              exact absurd H (by first | decide | (cases k2 <;> simp [l10_ComplexesSymmetries.j0, l10_ComplexesSymmetries.l0]))
            ·rw [if_neg c115] at H
             have c115b0 : (t170 == 0) = false := beq_eq_false_iff_ne.mpr c115
             have c115b1 : (t170 != 0) = true := bne_iff_ne.mpr c115
             exact absurd H (by first | decide | (cases k2 <;> simp [l10_ComplexesSymmetries.j0, l10_ComplexesSymmetries.l0]))
           ·rw [if_neg c114] at H
            have c114b0 : (t164 == 0) = false := beq_eq_false_iff_ne.mpr c114
            have c114b1 : (t164 != 0) = true := bne_iff_ne.mpr c114
            exact absurd H (by first | decide | (cases k2 <;> simp [l10_ComplexesSymmetries.j0, l10_ComplexesSymmetries.l0]))
          ·rw [if_neg c113] at H
           have c113b0 : (t154 == a0_0 && (t155 == a0_1 && (t156 == a0_2 && (t157.toList == a0_3.toList)))) = false := by simpa using c113
           (try (have c113b1 : decide (t154 = a0_0 && (t155 == a0_1 && (t156 == a0_2 && (t157.toList == a0_3.toList)))) = false := by simpa using c113))
           (try (have c113b2 : (t154 == a0_0 && (t155 == a0_1 && (t156 == a0_2 && (t157.toList == a0_3.toList)))) = false := by simpa using c113))
           (try (have c113b3 : ¬ (t154 = a0_0 && (t155 == a0_1 && (t156 == a0_2 && (t157.toList == a0_3.toList)))) := by simpa using c113))
           clear c113
           by_cases c170 : t183 = 3
           ·rw [if_pos c170] at H
            have c170b0 : (t183 == 3) = true := beq_iff_eq.mpr c170
            have c170b1 : (t183 != 3) = false := bne_eq_false_iff_eq.mpr c170
            clear c170
            by_cases c171 : t164 = 0
            ·rw [if_pos c171] at H
             have c171b0 : (t164 == 0) = true := beq_iff_eq.mpr c171
             have c171b1 : (t164 != 0) = false := bne_eq_false_iff_eq.mpr c171
             clear c171
             by_cases c172 : t170 = 0
             ·rw [if_pos c172] at H
              have c172b0 : (t170 == 0) = true := beq_iff_eq.mpr c172
              have c172b1 : (t170 != 0) = false := bne_eq_false_iff_eq.mpr c172
              clear c172
              by_cases c173 : t180 = 0
              ·rw [if_pos c173] at H
               have c173b0 : (t180 == 0) = true := beq_iff_eq.mpr c173
               have c173b1 : (t180 != 0) = false := bne_eq_false_iff_eq.mpr c173
               clear c173
               by_cases c174 : (t160 == t166 && (t161 == t167 && (t162 == t168 && (t163.toList == t169.toList)))) = true
               ·rw [if_pos c174] at H
                have c174b0 : (t160 == t166 && (t161 == t167 && (t162 == t168 && (t163.toList == t169.toList)))) = true := c174
                (try (have c174b1 : decide (t160 = t166 && (t161 == t167 && (t162 == t168 && (t163.toList == t169.toList)))) = true := by simpa using c174))
                (try (have c174b2 : (t160 == t166 && (t161 == t167 && (t162 == t168 && (t163.toList == t169.toList)))) = true := by simpa using c174))
                clear c174
                have HR_ := Option.some.inj H
                clear H
                have hnb175 := NB116_107.out
                have hnc175 := NB107_116.out
                have hnb176 := NB116_108.out
                have hnc176 := NB108_116.out
                have hnb177 := NB116_122.out
                have hnc177 := NB122_116.out
                obtain ⟨hcz178_0, hcz178_1, hcz178_2, hcz178_3, hfz178_0, hfz178_1, hfz178_2, hfz178_3⟩ := cf4 BK116
                try go_wp2_with (first | ((with_reducible refine gate_callee (f := 25) rfl ?_); refine gL 115 Tryz.func25 #[.agg #[.int .i64 t111, .int .u64 t112, .int .u64 t113, .string t114]] ?_; (with_reducible refine (cx_Conjugate.calls t111 t112 t113 t114 t154 t155 t156 t157 t158 _ A105.out).mono ?_); rintro e w179 ⟨rfl, hb⟩; refine ⟨_, rfl, ?_⟩; replace HO_9 := Aside0.mk (Kd.R_below (by (with_reducible repeat (first | apply Kd.R_alloc | apply Kd.R_drewN | apply Kd.R_drew)); exact HO_9.out) hb); replace BK107 := bkb BK107 hb; replace BK108 := bkb BK108 hb; replace BK116 := bkb BK116 hb; replace BK122 := bkb BK122 hb; replace HB := bls HB hb; clear hb) | ((with_reducible refine gate_dst (N := 19) rfl ?_); refine bxe 19 (cs := #[.int .i64 0, .int .u64 0, .int .u64 0, .string (⟨#[]⟩ : ByteArray)]) (t := 24) ?_; intro gb159 hg w180 hbox hb; have BK159 := Aside0.mk hbox; have GW159 := bsz HB hg; have GE159 := bsz HB hg; have NB107_159 := bnl BK107 hg; have NB159_107 := bng BK107 hg; have NB108_159 := bnl BK108 hg; have NB159_108 := bng BK108 hg; have NB116_159 := bnl BK116 hg; have NB159_116 := bng BK116 hg; have NB122_159 := bnl BK122 hg; have NB159_122 := bng BK122 hg; replace HO_9 := Aside0.mk (Kd.R_below (by (with_reducible repeat (first | apply Kd.R_alloc | apply Kd.R_drewN | apply Kd.R_drew)); exact HO_9.out) hb); replace BK107 := bkb BK107 hb; replace BK108 := bkb BK108 hb; replace BK116 := bkb BK116 hb; replace BK122 := bkb BK122 hb; replace HB := bls HB hb; clear hb hbox hg; have hnb181 := NB159_107.out; have hnc181 := NB107_159.out; have hnb182 := NB159_108.out; have hnc182 := NB108_159.out; have hnb183 := NB159_116.out; have hnc183 := NB116_159.out; have hnb184 := NB159_122.out; have hnc184 := NB122_159.out; obtain ⟨hcz185_0, hcz185_1, hcz185_2, hcz185_3, hfz185_0, hfz185_1, hfz185_2, hfz185_3⟩ := cf4 BK159; have hnb186 := NB107_108.out; have hnc186 := NB108_107.out; have hnb187 := NB107_122.out; have hnc187 := NB122_107.out; have hcz188_0 : w180.cell? ⟨gb107, 0, none⟩ = some (.int .i64 a0_0) := (blk_cell BK107.out 0).trans rfl; have hcz188_1 : w180.cell? ⟨gb107, 1, none⟩ = some (.int .u64 a0_1) := (blk_cell BK107.out 1).trans rfl; have hcz188_2 : w180.cell? ⟨gb107, 2, none⟩ = some (.int .u64 a0_2) := (blk_cell BK107.out 2).trans rfl; have hcz188_3 : w180.cell? ⟨gb107, 3, none⟩ = some (.string a0_3) := (blk_cell BK107.out 3).trans rfl; have hfz188_0 := blk_frozen BK107.out 0; have hfz188_1 := blk_frozen BK107.out 1; have hfz188_2 := blk_frozen BK107.out 2; have hfz188_3 := blk_frozen BK107.out 3) | ((with_reducible refine gate_callee (f := 26) rfl ?_); refine gL 120 Tryz.func26 #[.agg #[.int .i64 a0_0, .int .u64 a0_1, .int .u64 a0_2, .string a0_3]] ?_; (with_reducible refine (cx_SizeOf.calls k2 a0_0 a0_1 a0_2 a0_3 t160 t161 t162 t163 t164 _ A106.out).mono ?_); rintro e w189 ⟨rfl, hb⟩; refine ⟨_, rfl, ?_⟩; replace HO_9 := Aside0.mk (Kd.R_below (by (with_reducible repeat (first | apply Kd.R_alloc | apply Kd.R_drewN | apply Kd.R_drew)); exact (Kd.R_mono (Kd.R_far (p := ⟨gb159, 3, none⟩) (Kd.R_far (p := ⟨gb159, 2, none⟩) (Kd.R_far (p := ⟨gb159, 1, none⟩) (Kd.R_far (p := ⟨gb159, 0, none⟩) (Kd.R_types HO_9.out BK159.out (by decide)) (fun _ hk => hk.2) (.int .i64 t154)) (fun _ hk => hk.2) (.int .u64 t155)) (fun _ hk => hk.2) (.int .u64 t156)) (fun _ hk => hk.2) (.string t157)) (fun _ h_ => h_.1))) hb); replace BK107 := Aside0.mk (blk_below (g := gb107) (o := .cells #[.int .i64 a0_0, .int .u64 a0_1, .int .u64 a0_2, .string a0_3] 24 (0, 0)) (bkf BK107).out hb); replace BK108 := Aside0.mk (blk_below (g := gb108) (o := .cells #[.int .i64 a1_0, .int .u64 a1_1, .int .u64 a1_2, .string a1_3] 24 (0, 0)) (bkf BK108).out hb); replace BK116 := Aside0.mk (blk_below (g := gb116) (o := .cells #[.int .i64 t111, .int .u64 t112, .int .u64 t113, .string t114] 24 (0, 0)) (bkf BK116).out hb); replace BK122 := Aside0.mk (blk_below (g := gb122) (o := .cells #[.int .i64 t117, .int .u64 t118, .int .u64 t119, .string t120] 24 (0, 0)) (bkf BK122).out hb); replace BK159 := Aside0.mk (blk_below (g := gb159) (o := .cells #[.int .i64 t154, .int .u64 t155, .int .u64 t156, .string t157] 24 (0, 0)) (by (with_reducible repeat (first | refine blk_drewN ?_ _ | refine blk_drew ?_ | refine blk_alloc ?_ _)); refine blk_put (cs := #[.int .i64 t154, .int .u64 t155, .int .u64 t156, .string (⟨#[]⟩ : ByteArray)]) ?_ 3 _ rfl; (with_reducible repeat (first | refine blk_drewN ?_ _ | refine blk_drew ?_ | refine blk_alloc ?_ _)); refine blk_put (cs := #[.int .i64 t154, .int .u64 t155, .int .u64 0, .string (⟨#[]⟩ : ByteArray)]) ?_ 2 _ rfl; (with_reducible repeat (first | refine blk_drewN ?_ _ | refine blk_drew ?_ | refine blk_alloc ?_ _)); refine blk_put (cs := #[.int .i64 t154, .int .u64 0, .int .u64 0, .string (⟨#[]⟩ : ByteArray)]) ?_ 1 _ rfl; (with_reducible repeat (first | refine blk_drewN ?_ _ | refine blk_drew ?_ | refine blk_alloc ?_ _)); refine blk_put (cs := #[.int .i64 0, .int .u64 0, .int .u64 0, .string (⟨#[]⟩ : ByteArray)]) ?_ 0 _ rfl; (with_reducible repeat (first | refine blk_drewN ?_ _ | refine blk_drew ?_ | refine blk_alloc ?_ _)); exact BK159.out) hb); replace HB := bls HB hb; clear hb) | ((with_reducible refine gate_dst (N := 20) rfl ?_); refine bxe 20 (cs := #[.int .i64 0, .int .u64 0, .int .u64 0, .string (⟨#[]⟩ : ByteArray)]) (t := 24) ?_; intro gb165 hg w190 hbox hb; have BK165 := Aside0.mk hbox; have GW165 := bsz HB hg; have GE165 := bsz HB hg; have NB107_165 := bnl BK107 hg; have NB165_107 := bng BK107 hg; have NB108_165 := bnl BK108 hg; have NB165_108 := bng BK108 hg; have NB116_165 := bnl BK116 hg; have NB165_116 := bng BK116 hg; have NB122_165 := bnl BK122 hg; have NB165_122 := bng BK122 hg; have NB159_165 := bnl BK159 hg; have NB165_159 := bng BK159 hg; replace HO_9 := Aside0.mk (Kd.R_below (by (with_reducible repeat (first | apply Kd.R_alloc | apply Kd.R_drewN | apply Kd.R_drew)); exact HO_9.out) hb); replace BK107 := bkb BK107 hb; replace BK108 := bkb BK108 hb; replace BK116 := bkb BK116 hb; replace BK122 := bkb BK122 hb; replace BK159 := bkb BK159 hb; replace HB := bls HB hb; clear hb hbox hg; have hnb191 := NB165_107.out; have hnc191 := NB107_165.out; have hnb192 := NB165_108.out; have hnc192 := NB108_165.out; have hnb193 := NB165_116.out; have hnc193 := NB116_165.out; have hnb194 := NB165_122.out; have hnc194 := NB122_165.out; have hnb195 := NB165_159.out; have hnc195 := NB159_165.out; obtain ⟨hcz196_0, hcz196_1, hcz196_2, hcz196_3, hfz196_0, hfz196_1, hfz196_2, hfz196_3⟩ := cf4 BK165; have hcz197_0 : w190.cell? ⟨gb116, 0, none⟩ = some (.int .i64 t111) := (blk_cell BK116.out 0).trans rfl; have hcz197_1 : w190.cell? ⟨gb116, 1, none⟩ = some (.int .u64 t112) := (blk_cell BK116.out 1).trans rfl; have hcz197_2 : w190.cell? ⟨gb116, 2, none⟩ = some (.int .u64 t113) := (blk_cell BK116.out 2).trans rfl; have hcz197_3 : w190.cell? ⟨gb116, 3, none⟩ = some (.string t114) := (blk_cell BK116.out 3).trans rfl; have hfz197_0 := blk_frozen BK116.out 0; have hfz197_1 := blk_frozen BK116.out 1; have hfz197_2 := blk_frozen BK116.out 2; have hfz197_3 := blk_frozen BK116.out 3) | ((with_reducible refine gate_callee (f := 26) rfl ?_); refine gL 125 Tryz.func26 #[.agg #[.int .i64 t111, .int .u64 t112, .int .u64 t113, .string t114]] ?_; (with_reducible refine (cx_SizeOf.calls k2 t111 t112 t113 t114 t166 t167 t168 t169 t170 _ A107.out).mono ?_); rintro e w198 ⟨rfl, hb⟩; refine ⟨_, rfl, ?_⟩; replace HO_9 := Aside0.mk (Kd.R_below (by (with_reducible repeat (first | apply Kd.R_alloc | apply Kd.R_drewN | apply Kd.R_drew)); exact (Kd.R_mono (Kd.R_far (p := ⟨gb165, 3, none⟩) (Kd.R_far (p := ⟨gb165, 2, none⟩) (Kd.R_far (p := ⟨gb165, 1, none⟩) (Kd.R_far (p := ⟨gb165, 0, none⟩) (Kd.R_types HO_9.out BK165.out (by decide)) (fun _ hk => hk.2) (.int .i64 t160)) (fun _ hk => hk.2) (.int .u64 t161)) (fun _ hk => hk.2) (.int .u64 t162)) (fun _ hk => hk.2) (.string t163)) (fun _ h_ => h_.1))) hb); replace BK107 := Aside0.mk (blk_below (g := gb107) (o := .cells #[.int .i64 a0_0, .int .u64 a0_1, .int .u64 a0_2, .string a0_3] 24 (0, 0)) (bkf BK107).out hb); replace BK108 := Aside0.mk (blk_below (g := gb108) (o := .cells #[.int .i64 a1_0, .int .u64 a1_1, .int .u64 a1_2, .string a1_3] 24 (0, 0)) (bkf BK108).out hb); replace BK116 := Aside0.mk (blk_below (g := gb116) (o := .cells #[.int .i64 t111, .int .u64 t112, .int .u64 t113, .string t114] 24 (0, 0)) (bkf BK116).out hb); replace BK122 := Aside0.mk (blk_below (g := gb122) (o := .cells #[.int .i64 t117, .int .u64 t118, .int .u64 t119, .string t120] 24 (0, 0)) (bkf BK122).out hb); replace BK159 := Aside0.mk (blk_below (g := gb159) (o := .cells #[.int .i64 t154, .int .u64 t155, .int .u64 t156, .string t157] 24 (0, 0)) (bkf BK159).out hb); replace BK165 := Aside0.mk (blk_below (g := gb165) (o := .cells #[.int .i64 t160, .int .u64 t161, .int .u64 t162, .string t163] 24 (0, 0)) (by (with_reducible repeat (first | refine blk_drewN ?_ _ | refine blk_drew ?_ | refine blk_alloc ?_ _)); refine blk_put (cs := #[.int .i64 t160, .int .u64 t161, .int .u64 t162, .string (⟨#[]⟩ : ByteArray)]) ?_ 3 _ rfl; (with_reducible repeat (first | refine blk_drewN ?_ _ | refine blk_drew ?_ | refine blk_alloc ?_ _)); refine blk_put (cs := #[.int .i64 t160, .int .u64 t161, .int .u64 0, .string (⟨#[]⟩ : ByteArray)]) ?_ 2 _ rfl; (with_reducible repeat (first | refine blk_drewN ?_ _ | refine blk_drew ?_ | refine blk_alloc ?_ _)); refine blk_put (cs := #[.int .i64 t160, .int .u64 0, .int .u64 0, .string (⟨#[]⟩ : ByteArray)]) ?_ 1 _ rfl; (with_reducible repeat (first | refine blk_drewN ?_ _ | refine blk_drew ?_ | refine blk_alloc ?_ _)); refine blk_put (cs := #[.int .i64 0, .int .u64 0, .int .u64 0, .string (⟨#[]⟩ : ByteArray)]) ?_ 0 _ rfl; (with_reducible repeat (first | refine blk_drewN ?_ _ | refine blk_drew ?_ | refine blk_alloc ?_ _)); exact BK165.out) hb); replace HB := bls HB hb; clear hb) | ((with_reducible refine gate_dst (N := 21) rfl ?_); refine bxe 21 (cs := #[.int .i64 0, .int .u64 0, .int .u64 0, .string (⟨#[]⟩ : ByteArray)]) (t := 24) ?_; intro gb171 hg w199 hbox hb; have BK171 := Aside0.mk hbox; have GW171 := bsz HB hg; have GE171 := bsz HB hg; have NB107_171 := bnl BK107 hg; have NB171_107 := bng BK107 hg; have NB108_171 := bnl BK108 hg; have NB171_108 := bng BK108 hg; have NB116_171 := bnl BK116 hg; have NB171_116 := bng BK116 hg; have NB122_171 := bnl BK122 hg; have NB171_122 := bng BK122 hg; have NB159_171 := bnl BK159 hg; have NB171_159 := bng BK159 hg; have NB165_171 := bnl BK165 hg; have NB171_165 := bng BK165 hg; replace HO_9 := Aside0.mk (Kd.R_below (by (with_reducible repeat (first | apply Kd.R_alloc | apply Kd.R_drewN | apply Kd.R_drew)); exact HO_9.out) hb); replace BK107 := bkb BK107 hb; replace BK108 := bkb BK108 hb; replace BK116 := bkb BK116 hb; replace BK122 := bkb BK122 hb; replace BK159 := bkb BK159 hb; replace BK165 := bkb BK165 hb; replace HB := bls HB hb; clear hb hbox hg; have hnb200 := NB171_107.out; have hnc200 := NB107_171.out; have hnb201 := NB171_108.out; have hnc201 := NB108_171.out; have hnb202 := NB171_116.out; have hnc202 := NB116_171.out; have hnb203 := NB171_122.out; have hnc203 := NB122_171.out; have hnb204 := NB171_159.out; have hnc204 := NB159_171.out; have hnb205 := NB171_165.out; have hnc205 := NB165_171.out; obtain ⟨hcz206_0, hcz206_1, hcz206_2, hcz206_3, hfz206_0, hfz206_1, hfz206_2, hfz206_3⟩ := cf4 BK171; have hcz207_0 : w199.cell? ⟨gb107, 0, none⟩ = some (.int .i64 a0_0) := (blk_cell BK107.out 0).trans rfl; have hcz207_1 : w199.cell? ⟨gb107, 1, none⟩ = some (.int .u64 a0_1) := (blk_cell BK107.out 1).trans rfl; have hcz207_2 : w199.cell? ⟨gb107, 2, none⟩ = some (.int .u64 a0_2) := (blk_cell BK107.out 2).trans rfl; have hcz207_3 : w199.cell? ⟨gb107, 3, none⟩ = some (.string a0_3) := (blk_cell BK107.out 3).trans rfl; have hfz207_0 := blk_frozen BK107.out 0; have hfz207_1 := blk_frozen BK107.out 1; have hfz207_2 := blk_frozen BK107.out 2; have hfz207_3 := blk_frozen BK107.out 3) | ((with_reducible refine gate_callee (f := 18) rfl ?_); refine gL 135 Tryz.func18 #[.int .i64 a0_0, .int .u64 a0_2, .int .u64 a0_1] ?_; (with_reducible refine (r10_Made.calls a0_0 a0_2 a0_1 t172 t173 t174 t175 _ A108.out).mono ?_); rintro e w208 ⟨rfl, hb⟩; refine ⟨_, rfl, ?_⟩; replace HO_9 := Aside0.mk (Kd.R_below (by (with_reducible repeat (first | apply Kd.R_alloc | apply Kd.R_drewN | apply Kd.R_drew)); exact (Kd.R_mono (Kd.R_far (p := ⟨gb171, 3, none⟩) (Kd.R_far (p := ⟨gb171, 2, none⟩) (Kd.R_far (p := ⟨gb171, 1, none⟩) (Kd.R_far (p := ⟨gb171, 0, none⟩) (Kd.R_types HO_9.out BK171.out (by decide)) (fun _ hk => hk.2) (.int .i64 t166)) (fun _ hk => hk.2) (.int .u64 t167)) (fun _ hk => hk.2) (.int .u64 t168)) (fun _ hk => hk.2) (.string t169)) (fun _ h_ => h_.1))) hb); replace BK107 := Aside0.mk (blk_below (g := gb107) (o := .cells #[.int .i64 a0_0, .int .u64 a0_1, .int .u64 a0_2, .string a0_3] 24 (0, 0)) (bkf BK107).out hb); replace BK108 := Aside0.mk (blk_below (g := gb108) (o := .cells #[.int .i64 a1_0, .int .u64 a1_1, .int .u64 a1_2, .string a1_3] 24 (0, 0)) (bkf BK108).out hb); replace BK116 := Aside0.mk (blk_below (g := gb116) (o := .cells #[.int .i64 t111, .int .u64 t112, .int .u64 t113, .string t114] 24 (0, 0)) (bkf BK116).out hb); replace BK122 := Aside0.mk (blk_below (g := gb122) (o := .cells #[.int .i64 t117, .int .u64 t118, .int .u64 t119, .string t120] 24 (0, 0)) (bkf BK122).out hb); replace BK159 := Aside0.mk (blk_below (g := gb159) (o := .cells #[.int .i64 t154, .int .u64 t155, .int .u64 t156, .string t157] 24 (0, 0)) (bkf BK159).out hb); replace BK165 := Aside0.mk (blk_below (g := gb165) (o := .cells #[.int .i64 t160, .int .u64 t161, .int .u64 t162, .string t163] 24 (0, 0)) (bkf BK165).out hb); replace BK171 := Aside0.mk (blk_below (g := gb171) (o := .cells #[.int .i64 t166, .int .u64 t167, .int .u64 t168, .string t169] 24 (0, 0)) (by (with_reducible repeat (first | refine blk_drewN ?_ _ | refine blk_drew ?_ | refine blk_alloc ?_ _)); refine blk_put (cs := #[.int .i64 t166, .int .u64 t167, .int .u64 t168, .string (⟨#[]⟩ : ByteArray)]) ?_ 3 _ rfl; (with_reducible repeat (first | refine blk_drewN ?_ _ | refine blk_drew ?_ | refine blk_alloc ?_ _)); refine blk_put (cs := #[.int .i64 t166, .int .u64 t167, .int .u64 0, .string (⟨#[]⟩ : ByteArray)]) ?_ 2 _ rfl; (with_reducible repeat (first | refine blk_drewN ?_ _ | refine blk_drew ?_ | refine blk_alloc ?_ _)); refine blk_put (cs := #[.int .i64 t166, .int .u64 0, .int .u64 0, .string (⟨#[]⟩ : ByteArray)]) ?_ 1 _ rfl; (with_reducible repeat (first | refine blk_drewN ?_ _ | refine blk_drew ?_ | refine blk_alloc ?_ _)); refine blk_put (cs := #[.int .i64 0, .int .u64 0, .int .u64 0, .string (⟨#[]⟩ : ByteArray)]) ?_ 0 _ rfl; (with_reducible repeat (first | refine blk_drewN ?_ _ | refine blk_drew ?_ | refine blk_alloc ?_ _)); exact BK171.out) hb); replace HB := bls HB hb; clear hb) | ((with_reducible refine gate_callee (f := 26) rfl ?_); refine gL 136 Tryz.func26 #[.agg #[.int .i64 t172, .int .u64 t173, .int .u64 t174, .string t175]] ?_; (with_reducible refine (cx_SizeOf.calls k2 t172 t173 t174 t175 t176 t177 t178 t179 t180 _ A109.out).mono ?_); rintro e w209 ⟨rfl, hb⟩; refine ⟨_, rfl, ?_⟩; replace HO_9 := Aside0.mk (Kd.R_below (by (with_reducible repeat (first | apply Kd.R_alloc | apply Kd.R_drewN | apply Kd.R_drew)); exact HO_9.out) hb); replace BK107 := bkb BK107 hb; replace BK108 := bkb BK108 hb; replace BK116 := bkb BK116 hb; replace BK122 := bkb BK122 hb; replace BK159 := bkb BK159 hb; replace BK165 := bkb BK165 hb; replace BK171 := bkb BK171 hb; replace HB := bls HB hb; clear hb) | ((with_reducible refine gate_dst (N := 23) rfl ?_); refine bxe 23 (cs := #[.int .i64 0, .int .u64 0, .int .u64 0, .string (⟨#[]⟩ : ByteArray)]) (t := 24) ?_; intro gb181 hg w210 hbox hb; have BK181 := Aside0.mk hbox; have GW181 := bsz HB hg; have GE181 := bsz HB hg; have NB107_181 := bnl BK107 hg; have NB181_107 := bng BK107 hg; have NB108_181 := bnl BK108 hg; have NB181_108 := bng BK108 hg; have NB116_181 := bnl BK116 hg; have NB181_116 := bng BK116 hg; have NB122_181 := bnl BK122 hg; have NB181_122 := bng BK122 hg; have NB159_181 := bnl BK159 hg; have NB181_159 := bng BK159 hg; have NB165_181 := bnl BK165 hg; have NB181_165 := bng BK165 hg; have NB171_181 := bnl BK171 hg; have NB181_171 := bng BK171 hg; replace HO_9 := Aside0.mk (Kd.R_below (by (with_reducible repeat (first | apply Kd.R_alloc | apply Kd.R_drewN | apply Kd.R_drew)); exact HO_9.out) hb); replace BK107 := bkb BK107 hb; replace BK108 := bkb BK108 hb; replace BK116 := bkb BK116 hb; replace BK122 := bkb BK122 hb; replace BK159 := bkb BK159 hb; replace BK165 := bkb BK165 hb; replace BK171 := bkb BK171 hb; replace HB := bls HB hb; clear hb hbox hg; have hnb211 := NB181_107.out; have hnc211 := NB107_181.out; have hnb212 := NB181_108.out; have hnc212 := NB108_181.out; have hnb213 := NB181_116.out; have hnc213 := NB116_181.out; have hnb214 := NB181_122.out; have hnc214 := NB122_181.out; have hnb215 := NB181_159.out; have hnc215 := NB159_181.out; have hnb216 := NB181_165.out; have hnc216 := NB165_181.out; have hnb217 := NB181_171.out; have hnc217 := NB171_181.out; have hcz218_0 : w210.cell? ⟨gb181, 0, none⟩ = some (.int .i64 0) := (blk_cell BK181.out 0).trans rfl; have hcz218_1 : w210.cell? ⟨gb181, 1, none⟩ = some (.int .u64 0) := (blk_cell BK181.out 1).trans rfl; have hcz218_2 : w210.cell? ⟨gb181, 2, none⟩ = some (.int .u64 0) := (blk_cell BK181.out 2).trans rfl; have hcz218_3 : w210.cell? ⟨gb181, 3, none⟩ = some (.string (⟨#[]⟩ : ByteArray)) := (blk_cell BK181.out 3).trans rfl; have hfz218_0 := blk_frozen BK181.out 0; have hfz218_1 := blk_frozen BK181.out 1; have hfz218_2 := blk_frozen BK181.out 2; have hfz218_3 := blk_frozen BK181.out 3))
                have n0_ : Aside0 (Kd.R (Kd.int .i64) 3 ((((w210.setCell ⟨gb181, 0, none⟩ (.int .i64 t176)).setCell ⟨gb181, 1, none⟩ (.int .u64 t177)).setCell ⟨gb181, 2, none⟩ (.int .u64 t178)).setCell ⟨gb181, 3, none⟩ (.string t179)) w.heap.size (fun _ => True) v124 y123) := ⟨by (with_reducible repeat (first | apply Kd.R_alloc | apply Kd.R_drewN | apply Kd.R_drew)); exact Kd.R_mono (Kd.R_far (p := ⟨gb181, 3, none⟩) (Kd.R_far (p := ⟨gb181, 2, none⟩) (Kd.R_far (p := ⟨gb181, 1, none⟩) (Kd.R_far (p := ⟨gb181, 0, none⟩) (Kd.R_types HO_9.out BK181.out (by decide)) (fun _ hk => hk.2) (.int .i64 t176)) (fun _ hk => hk.2) (.int .u64 t177)) (fun _ hk => hk.2) (.int .u64 t178)) (fun _ hk => hk.2) (.string t179)) (fun _ hk => trivial)⟩
                have n1_ : Aside0 (((((w210.setCell ⟨gb181, 0, none⟩ (.int .i64 t176)).setCell ⟨gb181, 1, none⟩ (.int .u64 t177)).setCell ⟨gb181, 2, none⟩ (.int .u64 t178)).setCell ⟨gb181, 3, none⟩ (.string t179)).heap[gb107]? = some (.cells #[.int .i64 a0_0, .int .u64 a0_1, .int .u64 a0_2, .string a0_3] 24 (0, 0))) := bkf BK107
                have n2_ : Aside0 (((((w210.setCell ⟨gb181, 0, none⟩ (.int .i64 t176)).setCell ⟨gb181, 1, none⟩ (.int .u64 t177)).setCell ⟨gb181, 2, none⟩ (.int .u64 t178)).setCell ⟨gb181, 3, none⟩ (.string t179)).heap[gb108]? = some (.cells #[.int .i64 a1_0, .int .u64 a1_1, .int .u64 a1_2, .string a1_3] 24 (0, 0))) := bkf BK108
                have n3_ : Aside0 (((((w210.setCell ⟨gb181, 0, none⟩ (.int .i64 t176)).setCell ⟨gb181, 1, none⟩ (.int .u64 t177)).setCell ⟨gb181, 2, none⟩ (.int .u64 t178)).setCell ⟨gb181, 3, none⟩ (.string t179)).heap[gb116]? = some (.cells #[.int .i64 t111, .int .u64 t112, .int .u64 t113, .string t114] 24 (0, 0))) := bkf BK116
                have n4_ : Aside0 (((((w210.setCell ⟨gb181, 0, none⟩ (.int .i64 t176)).setCell ⟨gb181, 1, none⟩ (.int .u64 t177)).setCell ⟨gb181, 2, none⟩ (.int .u64 t178)).setCell ⟨gb181, 3, none⟩ (.string t179)).heap[gb122]? = some (.cells #[.int .i64 t117, .int .u64 t118, .int .u64 t119, .string t120] 24 (0, 0))) := bkf BK122
                have n5_ : Aside0 (((((w210.setCell ⟨gb181, 0, none⟩ (.int .i64 t176)).setCell ⟨gb181, 1, none⟩ (.int .u64 t177)).setCell ⟨gb181, 2, none⟩ (.int .u64 t178)).setCell ⟨gb181, 3, none⟩ (.string t179)).heap[gb159]? = some (.cells #[.int .i64 t154, .int .u64 t155, .int .u64 t156, .string t157] 24 (0, 0))) := bkf BK159
                have n6_ : Aside0 (((((w210.setCell ⟨gb181, 0, none⟩ (.int .i64 t176)).setCell ⟨gb181, 1, none⟩ (.int .u64 t177)).setCell ⟨gb181, 2, none⟩ (.int .u64 t178)).setCell ⟨gb181, 3, none⟩ (.string t179)).heap[gb165]? = some (.cells #[.int .i64 t160, .int .u64 t161, .int .u64 t162, .string t163] 24 (0, 0))) := bkf BK165
                have n7_ : Aside0 (((((w210.setCell ⟨gb181, 0, none⟩ (.int .i64 t176)).setCell ⟨gb181, 1, none⟩ (.int .u64 t177)).setCell ⟨gb181, 2, none⟩ (.int .u64 t178)).setCell ⟨gb181, 3, none⟩ (.string t179)).heap[gb171]? = some (.cells #[.int .i64 t166, .int .u64 t167, .int .u64 t168, .string t169] 24 (0, 0))) := bkf BK171
                have n8_ : Aside0 (((((w210.setCell ⟨gb181, 0, none⟩ (.int .i64 t176)).setCell ⟨gb181, 1, none⟩ (.int .u64 t177)).setCell ⟨gb181, 2, none⟩ (.int .u64 t178)).setCell ⟨gb181, 3, none⟩ (.string t179)).heap[gb181]? = some (.cells #[.int .i64 t176, .int .u64 t177, .int .u64 t178, .string t179] 24 (0, 0))) := ⟨by (with_reducible repeat (first | refine blk_drewN ?_ _ | refine blk_drew ?_ | refine blk_alloc ?_ _)); refine blk_put (cs := #[.int .i64 t176, .int .u64 t177, .int .u64 t178, .string (⟨#[]⟩ : ByteArray)]) ?_ 3 _ rfl; (with_reducible repeat (first | refine blk_drewN ?_ _ | refine blk_drew ?_ | refine blk_alloc ?_ _)); refine blk_put (cs := #[.int .i64 t176, .int .u64 t177, .int .u64 0, .string (⟨#[]⟩ : ByteArray)]) ?_ 2 _ rfl; (with_reducible repeat (first | refine blk_drewN ?_ _ | refine blk_drew ?_ | refine blk_alloc ?_ _)); refine blk_put (cs := #[.int .i64 t176, .int .u64 0, .int .u64 0, .string (⟨#[]⟩ : ByteArray)]) ?_ 1 _ rfl; (with_reducible repeat (first | refine blk_drewN ?_ _ | refine blk_drew ?_ | refine blk_alloc ?_ _)); refine blk_put (cs := #[.int .i64 0, .int .u64 0, .int .u64 0, .string (⟨#[]⟩ : ByteArray)]) ?_ 0 _ rfl; (with_reducible repeat (first | refine blk_drewN ?_ _ | refine blk_drew ?_ | refine blk_alloc ?_ _)); exact BK181.out⟩
                have n9_ : Aside0 (Below w.heap.size w ((((w210.setCell ⟨gb181, 0, none⟩ (.int .i64 t176)).setCell ⟨gb181, 1, none⟩ (.int .u64 t177)).setCell ⟨gb181, 2, none⟩ (.int .u64 t178)).setCell ⟨gb181, 3, none⟩ (.string t179))) := blt HB
                (try clear HO_9)
                (try clear BK107)
                (try clear BK108)
                (try clear BK116)
                (try clear BK122)
                (try clear BK159)
                (try clear BK165)
                (try clear BK171)
                (try clear BK181)
                (try clear HB)
                generalize ((((w210.setCell ⟨gb181, 0, none⟩ (.int .i64 t176)).setCell ⟨gb181, 1, none⟩ (.int .u64 t177)).setCell ⟨gb181, 2, none⟩ (.int .u64 t178)).setCell ⟨gb181, 3, none⟩ (.string t179)) = w219 at n0_ n1_ n2_ n3_ n4_ n5_ n6_ n7_ n8_ n9_ ⊢
                have HO_9 := n0_
                have BK107 := n1_
                have BK108 := n2_
                have BK116 := n3_
                have BK122 := n4_
                have BK159 := n5_
                have BK165 := n6_
                have BK171 := n7_
                have BK181 := n8_
                have HB := n9_
                clear n0_ n1_ n2_ n3_ n4_ n5_ n6_ n7_ n8_ n9_
                replace HO_9 := Aside0.mk (Kd.R_drew HO_9.out)
                replace BK107 := Aside0.mk (blk_drew BK107.out)
                replace BK108 := Aside0.mk (blk_drew BK108.out)
                replace BK116 := Aside0.mk (blk_drew BK116.out)
                replace BK122 := Aside0.mk (blk_drew BK122.out)
                replace BK159 := Aside0.mk (blk_drew BK159.out)
                replace BK165 := Aside0.mk (blk_drew BK165.out)
                replace BK171 := Aside0.mk (blk_drew BK171.out)
                replace BK181 := Aside0.mk (blk_drew BK181.out)
                replace HB := Aside0.mk (below_drew1 HB.out)
                refine start_ (n := 9) (S := fun w' => w'.cell? ⟨gb107, 0, none⟩ = some (.int .i64 a0_0) ∧ w'.cell? ⟨gb107, 1, none⟩ = some (.int .u64 a0_1) ∧ w'.cell? ⟨gb107, 2, none⟩ = some (.int .u64 a0_2) ∧ w'.cell? ⟨gb107, 3, none⟩ = some (.string a0_3)) (ds := []) #[false, false, false, false, false, false, false, false, false] (by kernel_rfl) rfl rfl ⟨(blk_cell BK107.out 0).trans rfl, (blk_cell BK107.out 1).trans rfl, (blk_cell BK107.out 2).trans rfl, (blk_cell BK107.out 3).trans rfl⟩ (fun hHeld => ?_); refine with_tabW l10_ComplexesSymmetries.tab23 l10_ComplexesSymmetries.bits23 (fun HT_ HW_ => ?_)
                generalize w219.drew = w220 at HO_9 BK107 BK108 BK116 BK122 BK159 BK165 BK171 BK181 HB hHeld ⊢
                refine pu 0 139 HT_ ?_
                refine pu 3 142 HT_ ?_
                refine tk 1 140 HT_ HW_ hHeld ?_
                refine tk 4 143 HT_ HW_ hHeld ?_
                refine one_ (i := 2) (N := some 141) #[true, true, true, true, true, false, false, false, false] rfl rfl (one_of HT_.out (by kernel_rfl)) (by decide) (fun K hK => ?_)
                refine goes_ Tryz.func16 (by kernel_rfl) rfl #[.int .i64 a0_0] (by rfl) rfl rfl (by (try simp only [List.map_toArray, List.map_cons, List.map_nil]); first | done | rfl | (simp only [List.length_drop, List.length_take]; rfl)) ?_
                with_reducible refine (r10_PartType.calls a0_0 t182 _ A110.out).mono ?_
                rintro e w' ⟨rfl, ⟨nd, rfl⟩⟩
                refine ⟨_, rfl, ?_⟩
                refine hK.out _ _ ⟨(blk_cell BK107.out 0).trans rfl, (blk_cell BK107.out 1).trans rfl, (blk_cell BK107.out 2).trans rfl, (blk_cell BK107.out 3).trans rfl⟩ (fun hHeld => ?_)
                clear hK K
                refine norm_ (a' := ?_) ?_ ?_
                rotate_left
                ·show Act.put _ (some 141) _ = _
                 simp only [Act.put, List.setIfInBounds_toArray, List.set_cons_zero, List.set_cons_succ, i64_w, i32_w]
                 rfl
                refine one_ (i := 5) (N := some 144) #[true, true, true, true, true, true, false, false, false] rfl rfl (one_of HT_.out (by kernel_rfl)) (by decide) (fun K hK => ?_)
                refine goes_ Tryz.func21 (by kernel_rfl) rfl #[.int .i64 t182, .int .u64 a0_2] (by rfl) rfl rfl (by (try simp only [List.map_toArray, List.map_cons, List.map_nil]); first | done | rfl | (simp only [List.length_drop, List.length_take]; rfl)) ?_
                with_reducible refine (r8_Parts.calls t182 a0_2 t183 t184 t185 t186 _ A111.out).mono ?_
                rintro e w221 ⟨rfl, hb⟩
                refine ⟨_, rfl, ?_⟩
                replace HO_9 := Aside0.mk (Kd.R_below (by (with_reducible repeat (first | apply Kd.R_alloc | apply Kd.R_drewN | apply Kd.R_drew)); exact HO_9.out) hb)
                replace BK107 := bkb BK107 hb
                replace BK108 := bkb BK108 hb
                replace BK116 := bkb BK116 hb
                replace BK122 := bkb BK122 hb
                replace BK159 := bkb BK159 hb
                replace BK165 := bkb BK165 hb
                replace BK171 := bkb BK171 hb
                replace BK181 := bkb BK181 hb
                replace HB := bls HB hb
                (try clear hb)
                (try clear hb2)
                (try clear hk)
                (try clear hi)
                refine hK.out _ _ ⟨(blk_cell BK107.out 0).trans rfl, (blk_cell BK107.out 1).trans rfl, (blk_cell BK107.out 2).trans rfl, (blk_cell BK107.out 3).trans rfl⟩ (fun hHeld => ?_)
                clear hK K
                refine norm_ (a' := ?_) ?_ ?_
                rotate_left
                ·show Act.put _ (some 144) _ = _
                 simp only [Act.put, List.setIfInBounds_toArray, List.set_cons_zero, List.set_cons_succ, i64_w, i32_w]
                 rfl
                refine pu 6 145 HT_ ?_
                refine pu 7 146 HT_ ?_
                refine pu 8 25 HT_ ?_
                refine done_ (done_of HT_.out (by kernel_rfl)) ?_
                obtain ⟨hcz222_0, hcz222_1, hcz222_2, hcz222_3, hfz222_0, hfz222_1, hfz222_2, hfz222_3⟩ := cf4 BK159
                obtain ⟨hcz223_0, hcz223_1, hcz223_2, hcz223_3, hfz223_0, hfz223_1, hfz223_2, hfz223_3⟩ := cf4 BK107
                obtain ⟨hcz224_0, hcz224_1, hcz224_2, hcz224_3, hfz224_0, hfz224_1, hfz224_2, hfz224_3⟩ := cf4 BK165
                obtain ⟨hcz225_0, hcz225_1, hcz225_2, hcz225_3, hfz225_0, hfz225_1, hfz225_2, hfz225_3⟩ := cf4 BK171
                obtain ⟨hcz226_0, hcz226_1, hcz226_2, hcz226_3, hfz226_0, hfz226_1, hfz226_2, hfz226_3⟩ := cf4 BK181
                try go_wp2
                go_ret
                exact ⟨by first | rfl | (rw [HR_]; done) | (simp only [HR_]; done) | (simp [errW_none, errW_some] <;> rfl) | (simp [*, errW_none, errW_some] <;> rfl), (blt HB).out⟩
               ·rw [if_neg c174] at H
                have c174b0 : (t160 == t166 && (t161 == t167 && (t162 == t168 && (t163.toList == t169.toList)))) = false := by simpa using c174
                (try (have c174b1 : decide (t160 = t166 && (t161 == t167 && (t162 == t168 && (t163.toList == t169.toList)))) = false := by simpa using c174))
                (try (have c174b2 : (t160 == t166 && (t161 == t167 && (t162 == t168 && (t163.toList == t169.toList)))) = false := by simpa using c174))
                (try (have c174b3 : ¬ (t160 = t166 && (t161 == t167 && (t162 == t168 && (t163.toList == t169.toList)))) := by simpa using c174))
                clear c174
                exact absurd H (by first | decide | (cases k2 <;> simp [l10_ComplexesSymmetries.j0, l10_ComplexesSymmetries.l0]))
              ·rw [if_neg c173] at H
               have c173b0 : (t180 == 0) = false := beq_eq_false_iff_ne.mpr c173
               have c173b1 : (t180 != 0) = true := bne_iff_ne.mpr c173
               exact absurd H (by first | decide | (cases k2 <;> simp [l10_ComplexesSymmetries.j0, l10_ComplexesSymmetries.l0]))
             ·rw [if_neg c172] at H
              have c172b0 : (t170 == 0) = false := beq_eq_false_iff_ne.mpr c172
              have c172b1 : (t170 != 0) = true := bne_iff_ne.mpr c172
              exact absurd H (by first | decide | (cases k2 <;> simp [l10_ComplexesSymmetries.j0, l10_ComplexesSymmetries.l0]))
            ·rw [if_neg c171] at H
             have c171b0 : (t164 == 0) = false := beq_eq_false_iff_ne.mpr c171
             have c171b1 : (t164 != 0) = true := bne_iff_ne.mpr c171
             exact absurd H (by first | decide | (cases k2 <;> simp [l10_ComplexesSymmetries.j0, l10_ComplexesSymmetries.l0]))
           ·rw [if_neg c170] at H
            have c170b0 : (t183 == 3) = false := beq_eq_false_iff_ne.mpr c170
            have c170b1 : (t183 != 3) = true := bne_iff_ne.mpr c170
            exact absurd H (by first | decide | (cases k2 <;> simp [l10_ComplexesSymmetries.j0, l10_ComplexesSymmetries.l0]))
         ·rw [if_neg c112] at H
          have c112b0 : (t158 == 0) = false := beq_eq_false_iff_ne.mpr c112
          have c112b1 : (t158 != 0) = true := bne_iff_ne.mpr c112
          exact absurd H (by first | decide | (cases k2 <;> simp [l10_ComplexesSymmetries.j0, l10_ComplexesSymmetries.l0]))
  ·rw [if_neg c6] at H
   have c6b0 : (t110 == 0) = false := beq_eq_false_iff_ne.mpr c6
   have c6b1 : (t110 != 0) = true := bne_iff_ne.mpr c6
   have HR_ := Option.some.inj H
   clear H
   go_enter Tryz.func5, Tryz.ntmps5
   go_wp2_with (first | ((with_reducible refine gate_dst (N := 2) rfl ?_); refine bxe 2 (cs := #[.int .i64 a0_0, .int .u64 a0_1, .int .u64 a0_2, .string a0_3]) (t := 24) ?_; intro gb107 hg w227 hbox hb; have BK107 := Aside0.mk hbox; have GW107 := bsz HB hg; have GE107 := bsz HB hg; replace HB := bls HB hb; clear hb hbox hg) | ((with_reducible refine gate_dst (N := 3) rfl ?_); refine bxe 3 (cs := #[.int .i64 a1_0, .int .u64 a1_1, .int .u64 a1_2, .string a1_3]) (t := 24) ?_; intro gb108 hg w228 hbox hb; have BK108 := Aside0.mk hbox; have GW108 := bsz HB hg; have GE108 := bsz HB hg; have NB107_108 := bnl BK107 hg; have NB108_107 := bng BK107 hg; replace BK107 := bkb BK107 hb; replace HB := bls HB hb; clear hb hbox hg) | ((with_reducible refine gate_callee (f := 10) rfl ?_); refine gL 26 Tryz.func10 #[] ?_; (with_reducible refine (l10_awake.calls  true _ A3.out).mono ?_); rintro e w229 ⟨rfl, hb⟩; refine ⟨_, rfl, ?_⟩; replace BK107 := bkb BK107 hb; replace BK108 := bkb BK108 hb; replace HB := bls HB hb; clear hb; have hnb230 := NB107_108.out; have hnc230 := NB108_107.out; obtain ⟨hcz231_0, hcz231_1, hcz231_2, hcz231_3, hfz231_0, hfz231_1, hfz231_2, hfz231_3⟩ := cf4 BK107; have hcz232_0 : w229.cell? ⟨gb108, 0, none⟩ = some (.int .i64 a1_0) := (blk_cell BK108.out 0).trans rfl; have hcz232_1 : w229.cell? ⟨gb108, 1, none⟩ = some (.int .u64 a1_1) := (blk_cell BK108.out 1).trans rfl; have hcz232_2 : w229.cell? ⟨gb108, 2, none⟩ = some (.int .u64 a1_2) := (blk_cell BK108.out 2).trans rfl; have hcz232_3 : w229.cell? ⟨gb108, 3, none⟩ = some (.string a1_3) := (blk_cell BK108.out 3).trans rfl; have hfz232_0 := blk_frozen BK108.out 0; have hfz232_1 := blk_frozen BK108.out 1; have hfz232_2 := blk_frozen BK108.out 2; have hfz232_3 := blk_frozen BK108.out 3) | ((with_reducible refine gate_callee (f := 13) rfl ?_); refine gL 30 Tryz.func13 #[.agg #[.int .i64 a0_0, .int .u64 a0_1, .int .u64 a0_2, .string a0_3], .agg #[.int .i64 a1_0, .int .u64 a1_1, .int .u64 a1_2, .string a1_3]] ?_; (with_reducible refine (r10_TwoErr.calls a0_0 a0_1 a0_2 a0_3 a1_0 a1_1 a1_2 a1_3 t110 _ A5.out).mono ?_); rintro e w233 ⟨rfl, hb⟩; refine ⟨_, rfl, ?_⟩; replace BK107 := bkb BK107 hb; replace BK108 := bkb BK108 hb; replace HB := bls HB hb; clear hb))
   go_ret
   exact ⟨by first | rfl | (rw [HR_]; done) | (simp only [HR_]; done) | (simp [errW_none, errW_some] <;> rfl) | (simp [*, errW_none, errW_some] <;> rfl), (blt HB).out⟩
 ·replace c4 := Bool.eq_false_iff.mpr c4
  subst c4
  have H1 : (some false) = some true := by first | (rw [if_neg (show ¬ (false = true) by decide)] at H; exact H) | rfl
  clear H
  have H := H1
  clear H1
  exact absurd H (by first | decide | (cases k <;> simp [l10_ComplexesSymmetries.j0, l10_ComplexesSymmetries.l0]))
end Go.Proofs.YtmoimcblmmcffaaGreat.PLY
