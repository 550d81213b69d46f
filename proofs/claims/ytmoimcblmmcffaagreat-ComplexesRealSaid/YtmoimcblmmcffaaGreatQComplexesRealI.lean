/- Contracts and plain laws that the law ComplexesReal leans on (texts joined by program; what it does not come to is left out). -/
import Derived.Test.YtmoimcblmmcffaaGreatQComplexesRealB
import Derived.Test.YtmoimcblmmcffaaGreatQComplexesRealH
import Derived.Test.YtmoimcblmmcffaaGreatProg
import Derived.Below
import Derived.Deep.Draws
import Derived.Deep.AppendLies
import Derived.Maps.AppendAt
import Derived.OwnWalk
import Derived.Laws.BytesArg
import Derived.Laws.MakeOwn
import Derived.Laws.OwnMore
import Derived.Deep.OwnRows
import Derived.Tactics
import Derived.Lib.ConvBytes
import Derived.Laws.Slices
import Derived.WalkKit
import Derived.KernelRfl
import Derived.RowKit3
import Derived.Deep.LoopGhost
import Derived.Deep.QuietTactic
import Derived.BigQuiet
import Derived.WideLaws
import Derived.Deep.DeepCutAuto
import Derived.Deep.CutBlock
import Derived.Deep.RegionHeld3
import Derived.Laws.Rows
import Derived.Lib.AppendStr
import Derived.ArgAppend
import Derived.Laws.IdiomCopy
import Derived.OrdersHeld
import Derived.Laws.BitsLemmas
import Derived.RowKit
import Derived.Test.YtmoimcblmmcffaaGreatQComplexesRealA

namespace Go.Proofs.YtmoimcblmmcffaaGreat.PPC
open Go.RowKit Go.Proofs.YtmoimcblmmcffaaGreatW.PrintWords Go.Proofs.YtmoimcblmmcffaaGreatW.PrintLast Go.Proofs.YtmoimcblmmcffaaGreatW.PrintMore Go.Proofs.YtmoimcblmmcffaaGreatW.PrintZ
attribute [local go_sem] max2_int min2_int max_two min_two max_three min_three max_four min_four   -- for this text's walks alone
set_option linter.unusedVariables false
set_option linter.unusedSimpArgs false
def fd_times.f (a0 : Int) (a1_0 : Int) (a1_1 : Int) (a2_0 : Int) (a2_1 : Int) : Option (Int × Int) := (fd_mul.f a0 a1_0 a2_0).bind fun t119 => ((fd_mul.f a0 a1_1 a2_1).bind fun t120 => ((fd_sub.f a0 t119 t120).bind fun t121 => ((fd_mul.f a0 a1_0 a2_1).bind fun t122 => ((fd_mul.f a0 a1_1 a2_0).bind fun t123 => ((fd_add.f a0 t122 t123).bind fun t124 => (some (t121, t124)))))))
def fd_times.T1 : Bool × List (List Nat × List Nat) := (true, [([], []), ([], []), ([], []), ([2], [2]), ([], []), ([4], [4]), ([1, 3, 5], [1, 3, 5]), ([], []), ([], []), ([8], [8]), ([], []), ([10], [10]), ([7, 9, 11, 6], [7, 9, 11]), ([0, 6, 12, 12], [0, 6, 12]), ([], []), ([], []), ([], []), ([16], [16]), ([], []), ([18], [18]), ([15, 17, 19, 13], [15, 17, 19]), ([], []), ([], []), ([22], [22]), ([], []), ([24], [24]), ([21, 23, 25, 20], [21, 23, 25]), ([14, 20, 26, 26], [14, 20, 26]), ([13, 27], [13, 27]), ([28, 27, 0, 1, 2, 3, 4, 5, 6, 7, 8, 9, 10, 11, 12, 13, 14, 15, 16, 17, 18, 19, 20, 21, 22, 23, 24, 25, 26, 27, 28], [28])])
def fd_times.B1 : List Nat := [0, 0, 0, 4, 0, 16, 62, 0, 0, 256, 0, 1024, 4094, 8191, 0, 0, 0, 65536, 0, 262144, 1032191, 0, 0, 4194304, 0, 16777216, 67092479, 134217727, 268435455, 536870911]
theorem fd_times.tab1 : rtab .any (opsOf Tryz.f55 1) = fd_times.T1 := by kernel_rfl
theorem fd_times.bits1 : waitsOk fd_times.T1.2 fd_times.B1 = true := by kernel_rfl
set_option maxHeartbeats 8000000 in
set_option maxRecDepth 100000 in
theorem fd_times.calls (a0 : Int) (a1_0 : Int) (a1_1 : Int) (a2_0 : Int) (a2_1 : Int) (r1 : Int) (r2 : Int) (w : World) (h : fd_times.f a0 a1_0 a1_1 a2_0 a2_1 = some (r1, r2)) :
  Calls Tryz.prog 55 #[.int .i64 a0, .agg #[.int .u64 a1_0, .int .u64 a1_1], .agg #[.int .u64 a2_0, .int .u64 a2_1]] w fun e w' => e = .returned (.agg #[.int .u64 r1, .int .u64 r2]) ∧ Below w.heap.size w w' := by
 have hu74 := Tryz.underlying74
 have HB := Aside0.mk (Below.refl w.heap.size w)
 have H : ((fd_mul.f a0 a1_0 a2_0).bind fun t119 => ((fd_mul.f a0 a1_1 a2_1).bind fun t120 => ((fd_sub.f a0 t119 t120).bind fun t121 => ((fd_mul.f a0 a1_0 a2_1).bind fun t122 => ((fd_mul.f a0 a1_1 a2_0).bind fun t123 => ((fd_add.f a0 t122 t123).bind fun t124 => (some (t121, t124)))))))) = some (r1, r2) := h
 clear h
 replace H := Option.bind_eq_some_iff.mp H
 obtain ⟨t119, A4, H⟩ := H
 try dsimp only at H
 replace A4 := Aside0.mk A4
 replace H := Option.bind_eq_some_iff.mp H
 obtain ⟨t120, A5, H⟩ := H
 try dsimp only at H
 replace A5 := Aside0.mk A5
 replace H := Option.bind_eq_some_iff.mp H
 obtain ⟨t121, A6, H⟩ := H
 try dsimp only at H
 replace A6 := Aside0.mk A6
 replace H := Option.bind_eq_some_iff.mp H
 obtain ⟨t122, A7, H⟩ := H
 try dsimp only at H
 replace A7 := Aside0.mk A7
 replace H := Option.bind_eq_some_iff.mp H
 obtain ⟨t123, A8, H⟩ := H
 try dsimp only at H
 replace A8 := Aside0.mk A8
 replace H := Option.bind_eq_some_iff.mp H
 obtain ⟨t124, A9, H⟩ := H
 try dsimp only at H
 replace A9 := Aside0.mk A9
 simp only [Option.some.injEq, Prod.mk.injEq] at H
 obtain ⟨rfl, rfl⟩ := H
 go_enter Tryz.func55, Tryz.ntmps55
 try go_wp2_with (first | ((with_reducible refine gate_dst (N := 4) rfl ?_); refine bxe 4 (cs := #[.int .u64 a1_0, .int .u64 a1_1]) (t := 74) ?_; intro gb116 hg w10 hbox hb; have BK116 := Aside0.mk hbox; have GW116 := bsz HB hg; have GE116 := bsz HB hg; replace HB := bls HB hb; clear hb hbox hg) | ((with_reducible refine gate_dst (N := 5) rfl ?_); refine bxe 5 (cs := #[.int .u64 a2_0, .int .u64 a2_1]) (t := 74) ?_; intro gb117 hg w11 hbox hb; have BK117 := Aside0.mk hbox; have GW117 := bsz HB hg; have GE117 := bsz HB hg; have NB116_117 := bnl BK116 hg; have NB117_116 := bng BK116 hg; replace BK116 := bkb BK116 hb; replace HB := bls HB hb; clear hb hbox hg) | ((with_reducible refine gate_dst (N := 6) rfl ?_); refine bxe 6 (cs := #[.int .u64 0, .int .u64 0]) (t := 74) ?_; intro gb118 hg w12 hbox hb; have BK118 := Aside0.mk hbox; have GW118 := bsz HB hg; have GE118 := bsz HB hg; have NB116_118 := bnl BK116 hg; have NB118_116 := bng BK116 hg; have NB117_118 := bnl BK117 hg; have NB118_117 := bng BK117 hg; replace BK116 := bkb BK116 hb; replace BK117 := bkb BK117 hb; replace HB := bls HB hb; clear hb hbox hg))
 replace BK116 := Aside0.mk (blk_drew BK116.out)
 replace BK117 := Aside0.mk (blk_drew BK117.out)
 replace BK118 := Aside0.mk (blk_drew BK118.out)
 replace HB := Aside0.mk (below_drew1 HB.out)
 refine start_ (n := 30) (S := fun w' => w'.cell? ⟨gb116, 0, none⟩ = some (.int .u64 a1_0) ∧ w'.cell? ⟨gb116, 1, none⟩ = some (.int .u64 a1_1) ∧ w'.cell? ⟨gb117, 0, none⟩ = some (.int .u64 a2_0) ∧ w'.cell? ⟨gb117, 1, none⟩ = some (.int .u64 a2_1)) (ds := []) #[false, false, false, false, false, false, false, false, false, false, false, false, false, false, false, false, false, false, false, false, false, false, false, false, false, false, false, false, false, false] (by kernel_rfl) rfl rfl ⟨(blk_cell BK116.out 0).trans rfl, (blk_cell BK116.out 1).trans rfl, (blk_cell BK117.out 0).trans rfl, (blk_cell BK117.out 1).trans rfl⟩ (fun hHeld => ?_); refine with_tabW fd_times.tab1 fd_times.bits1 (fun HT_ HW_ => ?_)
 generalize w12.drew = w13 at BK116 BK117 BK118 HB hHeld ⊢
 refine pu 0 7 HT_ ?_
 refine pu 1 8 HT_ ?_
 refine pu 2 9 HT_ ?_
 refine pu 4 11 HT_ ?_
 refine pu 7 14 HT_ ?_
 refine pu 8 15 HT_ ?_
 refine pu 10 17 HT_ ?_
 refine pu 14 21 HT_ ?_
 refine pu 15 22 HT_ ?_
 refine pu 16 23 HT_ ?_
 refine pu 18 25 HT_ ?_
 refine pu 21 28 HT_ ?_
 refine pu 22 29 HT_ ?_
 refine pu 24 31 HT_ ?_
 refine tk 3 10 HT_ HW_ hHeld ?_
 refine tk 5 12 HT_ HW_ hHeld ?_
 refine tk 9 16 HT_ HW_ hHeld ?_
 refine tk 11 18 HT_ HW_ hHeld ?_
 refine tk 17 24 HT_ HW_ hHeld ?_
 refine tk 19 26 HT_ HW_ hHeld ?_
 refine tk 23 30 HT_ HW_ hHeld ?_
 refine tk 25 32 HT_ HW_ hHeld ?_
 refine on 6 13 HT_ (fun K hK => ?_)
 refine gsc Tryz.func99 (fd_mul.calls a0 a1_0 a2_0 t119 _ A4.out) (fun w14 hb => ?_)
 replace BK116 := bkb BK116 hb
 replace BK117 := bkb BK117 hb
 replace BK118 := bkb BK118 hb
 replace HB := bls HB hb
 (try clear hb)
 (try clear hb2)
 (try clear hk)
 (try clear hi)
 refine hK.out _ _ ⟨(blk_cell BK116.out 0).trans rfl, (blk_cell BK116.out 1).trans rfl, (blk_cell BK117.out 0).trans rfl, (blk_cell BK117.out 1).trans rfl⟩ (fun hHeld => ?_)
 clear hK K
 refine nm 13 ?_
 refine on 12 19 HT_ (fun K hK => ?_)
 refine gsc Tryz.func99 (fd_mul.calls a0 a1_1 a2_1 t120 _ A5.out) (fun w15 hb => ?_)
 replace BK116 := bkb BK116 hb
 replace BK117 := bkb BK117 hb
 replace BK118 := bkb BK118 hb
 replace HB := bls HB hb
 (try clear hb)
 (try clear hb2)
 (try clear hk)
 (try clear hi)
 refine hK.out _ _ ⟨(blk_cell BK116.out 0).trans rfl, (blk_cell BK116.out 1).trans rfl, (blk_cell BK117.out 0).trans rfl, (blk_cell BK117.out 1).trans rfl⟩ (fun hHeld => ?_)
 clear hK K
 refine nm 19 ?_
 refine on 13 20 HT_ (fun K hK => ?_)
 refine gsc Tryz.func98 (fd_sub.calls a0 t119 t120 t121 _ A6.out) (fun w16 hb => ?_)
 replace BK116 := bkb BK116 hb
 replace BK117 := bkb BK117 hb
 replace BK118 := bkb BK118 hb
 replace HB := bls HB hb
 (try clear hb)
 (try clear hb2)
 (try clear hk)
 (try clear hi)
 refine hK.out _ _ ⟨(blk_cell BK116.out 0).trans rfl, (blk_cell BK116.out 1).trans rfl, (blk_cell BK117.out 0).trans rfl, (blk_cell BK117.out 1).trans rfl⟩ (fun hHeld => ?_)
 clear hK K
 refine nm 20 ?_
 refine on 20 27 HT_ (fun K hK => ?_)
 refine gsc Tryz.func99 (fd_mul.calls a0 a1_0 a2_1 t122 _ A7.out) (fun w17 hb => ?_)
 replace BK116 := bkb BK116 hb
 replace BK117 := bkb BK117 hb
 replace BK118 := bkb BK118 hb
 replace HB := bls HB hb
 (try clear hb)
 (try clear hb2)
 (try clear hk)
 (try clear hi)
 refine hK.out _ _ ⟨(blk_cell BK116.out 0).trans rfl, (blk_cell BK116.out 1).trans rfl, (blk_cell BK117.out 0).trans rfl, (blk_cell BK117.out 1).trans rfl⟩ (fun hHeld => ?_)
 clear hK K
 refine nm 27 ?_
 refine on 26 33 HT_ (fun K hK => ?_)
 refine gsc Tryz.func99 (fd_mul.calls a0 a1_1 a2_0 t123 _ A8.out) (fun w18 hb => ?_)
 replace BK116 := bkb BK116 hb
 replace BK117 := bkb BK117 hb
 replace BK118 := bkb BK118 hb
 replace HB := bls HB hb
 (try clear hb)
 (try clear hb2)
 (try clear hk)
 (try clear hi)
 refine hK.out _ _ ⟨(blk_cell BK116.out 0).trans rfl, (blk_cell BK116.out 1).trans rfl, (blk_cell BK117.out 0).trans rfl, (blk_cell BK117.out 1).trans rfl⟩ (fun hHeld => ?_)
 clear hK K
 refine nm 33 ?_
 refine on 27 34 HT_ (fun K hK => ?_)
 refine gsc Tryz.func97 (fd_add.calls a0 t122 t123 t124 _ A9.out) (fun w19 hb => ?_)
 replace BK116 := bkb BK116 hb
 replace BK117 := bkb BK117 hb
 replace BK118 := bkb BK118 hb
 replace HB := bls HB hb
 (try clear hb)
 (try clear hb2)
 (try clear hk)
 (try clear hi)
 refine hK.out _ _ ⟨(blk_cell BK116.out 0).trans rfl, (blk_cell BK116.out 1).trans rfl, (blk_cell BK117.out 0).trans rfl, (blk_cell BK117.out 1).trans rfl⟩ (fun hHeld => ?_)
 clear hK K
 refine nm 34 ?_
 refine pu 28 35 HT_ ?_
 refine one_ (i := 29) (N := none) #[true, true, true, true, true, true, true, true, true, true, true, true, true, true, true, true, true, true, true, true, true, true, true, true, true, true, true, true, true, true] rfl rfl (one_of HT_.out (by kernel_rfl)) (by decide) (fun K hK => ?_)
 have hs20 : w19.cell? ⟨gb118, 0, none⟩ = some (.int .u64 0) := (blk_cell BK118.out 0).trans rfl
 have hfs20 := blk_frozen BK118.out 0
 have hns20_0 := NB116_118.out
 have hns20_1 := NB117_118.out
 have hms20_0 := NB118_116.out
 have hms20_1 := NB118_117.out
 have hs21 : w19.cell? ⟨gb118, 1, none⟩ = some (.int .u64 0) := (blk_cell BK118.out 1).trans rfl
 have hfs21 := blk_frozen BK118.out 1
 have hns21_0 := NB116_118.out
 have hns21_1 := NB117_118.out
 have hms21_0 := NB118_116.out
 have hms21_1 := NB118_117.out
 refine skip_ (w1 := ?_) (by rfl) rfl ?_ ?_
 rotate_left
 ·go_simp
  rfl
 refine hK.out _ _ ⟨((cell_far (p := ⟨gb118, _, none⟩) NB116_118.out _).trans (((cell_far (p := ⟨gb118, _, none⟩) NB116_118.out _).trans (hHeld.1)))), ((cell_far (p := ⟨gb118, _, none⟩) NB116_118.out _).trans (((cell_far (p := ⟨gb118, _, none⟩) NB116_118.out _).trans (hHeld.2.1)))), ((cell_far (p := ⟨gb118, _, none⟩) NB117_118.out _).trans (((cell_far (p := ⟨gb118, _, none⟩) NB117_118.out _).trans (hHeld.2.2.1)))), ((cell_far (p := ⟨gb118, _, none⟩) NB117_118.out _).trans (((cell_far (p := ⟨gb118, _, none⟩) NB117_118.out _).trans (hHeld.2.2.2))))⟩ (fun hHeld => ?_)
 clear hK K
 refine done_ (done_of HT_.out (by kernel_rfl)) ?_
 try go_wp2
 refine bodyPost_ret (results_cell_row rfl _ _ gb118 74 #[.int .u64 t121, .int .u64 t124] (0, 0) _ rfl (by (with_reducible repeat (first | refine blk_drewN ?_ _ | refine blk_drew ?_ | refine blk_alloc ?_ _)); apply bp2; (with_reducible repeat (first | refine blk_drewN ?_ _ | refine blk_drew ?_ | refine blk_alloc ?_ _)); exact BK118.out) Tryz.underlying74 rfl (by kernel_rfl)) rfl ?_
 exact fin_ (blt HB)
def fd_order.f (a0 : Int) (a1 : Int) (a2 : Int) : Option (Int) := (rl_Compare.f a0 a1 a2).bind fun bt125 => (some bt125.1)
set_option maxHeartbeats 8000000 in
set_option maxRecDepth 100000 in
theorem fd_order.calls (a0 : Int) (a1 : Int) (a2 : Int) (r : Int) (w : World) (h : fd_order.f a0 a1 a2 = some r) :
  Calls Tryz.prog 92 #[.int .i64 a0, .int .u64 a1, .int .u64 a2] w fun e w' => e = .returned (.int .i64 r) ∧ Below w.heap.size w w' := by
 have HB := Aside0.mk (Below.refl w.heap.size w)
 have H : ((rl_Compare.f a0 a1 a2).bind fun bt125 => (some bt125.1)) = some r := h
 clear h
 replace H := Option.bind_eq_some_iff.mp H
 obtain ⟨⟨t125, t126⟩, A4, H⟩ := H
 try dsimp only at H
 replace A4 := Aside0.mk A4
 obtain rfl := Option.some.inj H
 go_enter Tryz.func92, Tryz.ntmps92
 go_wp2_with (first | ((with_reducible refine gate_callee (f := 127) rfl ?_); refine gLc 13 Tryz.func127 (rl_Compare.calls a0 a1 a2 t125 t126 _ A4.out) (fun w5 hb => ?_); replace HB := bls HB hb; clear hb))
 go_ret
 exact fin_ (blt HB)
def fd_size.f (a0 : Int) (a1 : Int) : Option (Int) := (rl_SizeOf.f a0 a1).bind fun bt127 => (some bt127.1)
set_option maxHeartbeats 8000000 in
set_option maxRecDepth 100000 in
theorem fd_size.calls (a0 : Int) (a1 : Int) (r : Int) (w : World) (h : fd_size.f a0 a1 = some r) :
  Calls Tryz.prog 100 #[.int .i64 a0, .int .u64 a1] w fun e w' => e = .returned (.int .u64 r) ∧ Below w.heap.size w w' := by
 have HB := Aside0.mk (Below.refl w.heap.size w)
 have H : ((rl_SizeOf.f a0 a1).bind fun bt127 => (some bt127.1)) = some r := h
 clear h
 replace H := Option.bind_eq_some_iff.mp H
 obtain ⟨⟨t127, t128⟩, A3, H⟩ := H
 try dsimp only at H
 replace A3 := Aside0.mk A3
 obtain rfl := Option.some.inj H
 go_enter Tryz.func100, Tryz.ntmps100
 go_wp2_with (first | ((with_reducible refine gate_callee (f := 136) rfl ?_); refine gLc 10 Tryz.func136 (rl_SizeOf.calls a0 a1 t127 t128 _ A3.out) (fun w4 hb => ?_); replace HB := bls HB hb; clear hb))
 go_ret
 exact fin_ (blt HB)
def fd_div.f (a0 : Int) (a1 : Int) (a2 : Int) : Option (Int) := (fd_operation.f a0 3 a1 a2).bind fun t129 => (some t129)
set_option maxHeartbeats 8000000 in
set_option maxRecDepth 100000 in
theorem fd_div.calls (a0 : Int) (a1 : Int) (a2 : Int) (r : Int) (w : World) (h : fd_div.f a0 a1 a2 = some r) :
  Calls Tryz.prog 101 #[.int .i64 a0, .int .u64 a1, .int .u64 a2] w fun e w' => e = .returned (.int .u64 r) ∧ Below w.heap.size w w' := by
 have HB := Aside0.mk (Below.refl w.heap.size w)
 have H : ((fd_operation.f a0 3 a1 a2).bind fun t129 => (some t129)) = some r := h
 clear h
 replace H := Option.bind_eq_some_iff.mp H
 obtain ⟨t129, A4, H⟩ := H
 try dsimp only at H
 replace A4 := Aside0.mk A4
 obtain rfl := Option.some.inj H
 go_enter Tryz.func101, Tryz.ntmps101
 go_wp2_with (first | ((with_reducible refine gate_callee (f := 120) rfl ?_); refine gLc 10 Tryz.func120 (fd_operation.calls a0 3 a1 a2 t129 _ A4.out) (fun w5 hb => ?_); replace HB := bls HB hb; clear hb))
 go_ret
 exact fin_ (blt HB)
def fd_over.f (a0 : Int) (a1_0 : Int) (a1_1 : Int) (a2_0 : Int) (a2_1 : Int) : Option (Int × Int) := (fd_size.f a0 a2_0).bind fun t133 => ((fd_size.f a0 a2_1).bind fun t134 => ((fd_order.f a0 t133 t134).bind fun t135 => (if t135 ≥ 0 then ((fd_div.f a0 a2_1 a2_0).bind fun t136 => ((fd_mul.f a0 t136 a2_1).bind fun t137 => ((fd_add.f a0 a2_0 t137).bind fun t138 => ((fd_mul.f a0 a1_1 t136).bind fun t139 => ((fd_add.f a0 a1_0 t139).bind fun t140 => ((fd_div.f a0 t140 t138).bind fun t141 => ((fd_mul.f a0 a1_0 t136).bind fun t142 => ((fd_sub.f a0 a1_1 t142).bind fun t143 => ((fd_div.f a0 t143 t138).bind fun t144 => (some (t141, t144))))))))))) else ((fd_div.f a0 a2_0 a2_1).bind fun t145 => ((fd_mul.f a0 t145 a2_0).bind fun t146 => ((fd_add.f a0 a2_1 t146).bind fun t147 => ((fd_mul.f a0 a1_0 t145).bind fun t148 => ((fd_add.f a0 t148 a1_1).bind fun t149 => ((fd_div.f a0 t149 t147).bind fun t150 => ((fd_mul.f a0 a1_1 t145).bind fun t151 => ((fd_sub.f a0 t151 a1_0).bind fun t152 => ((fd_div.f a0 t152 t147).bind fun t153 => (some (t150, t153))))))))))))))
set_option maxHeartbeats 8000000 in
set_option maxRecDepth 100000 in
theorem fd_over.calls (a0 : Int) (a1_0 : Int) (a1_1 : Int) (a2_0 : Int) (a2_1 : Int) (r1 : Int) (r2 : Int) (w : World) (h : fd_over.f a0 a1_0 a1_1 a2_0 a2_1 = some (r1, r2)) :
  Calls Tryz.prog 56 #[.int .i64 a0, .agg #[.int .u64 a1_0, .int .u64 a1_1], .agg #[.int .u64 a2_0, .int .u64 a2_1]] w fun e w' => e = .returned (.agg #[.int .u64 r1, .int .u64 r2]) ∧ Below w.heap.size w w' := by
 have hu74 := Tryz.underlying74
 have HB := Aside0.mk (Below.refl w.heap.size w)
 have H : ((fd_size.f a0 a2_0).bind fun t133 => ((fd_size.f a0 a2_1).bind fun t134 => ((fd_order.f a0 t133 t134).bind fun t135 => (if t135 ≥ 0 then ((fd_div.f a0 a2_1 a2_0).bind fun t136 => ((fd_mul.f a0 t136 a2_1).bind fun t137 => ((fd_add.f a0 a2_0 t137).bind fun t138 => ((fd_mul.f a0 a1_1 t136).bind fun t139 => ((fd_add.f a0 a1_0 t139).bind fun t140 => ((fd_div.f a0 t140 t138).bind fun t141 => ((fd_mul.f a0 a1_0 t136).bind fun t142 => ((fd_sub.f a0 a1_1 t142).bind fun t143 => ((fd_div.f a0 t143 t138).bind fun t144 => (some (t141, t144))))))))))) else ((fd_div.f a0 a2_0 a2_1).bind fun t145 => ((fd_mul.f a0 t145 a2_0).bind fun t146 => ((fd_add.f a0 a2_1 t146).bind fun t147 => ((fd_mul.f a0 a1_0 t145).bind fun t148 => ((fd_add.f a0 t148 a1_1).bind fun t149 => ((fd_div.f a0 t149 t147).bind fun t150 => ((fd_mul.f a0 a1_1 t145).bind fun t151 => ((fd_sub.f a0 t151 a1_0).bind fun t152 => ((fd_div.f a0 t152 t147).bind fun t153 => (some (t150, t153))))))))))))))) = some (r1, r2) := h
 clear h
 replace H := Option.bind_eq_some_iff.mp H
 obtain ⟨t133, A4, H⟩ := H
 try dsimp only at H
 replace A4 := Aside0.mk A4
 replace H := Option.bind_eq_some_iff.mp H
 obtain ⟨t134, A5, H⟩ := H
 try dsimp only at H
 replace A5 := Aside0.mk A5
 replace H := Option.bind_eq_some_iff.mp H
 obtain ⟨t135, A6, H⟩ := H
 try dsimp only at H
 replace A6 := Aside0.mk A6
 by_cases c7 : t135 ≥ 0
 ·rw [if_pos c7] at H
  have c7b0 : decide (0 ≤ t135) = true := decide_eq_true c7
  clear c7
  replace H := Option.bind_eq_some_iff.mp H
  obtain ⟨t136, A8, H⟩ := H
  try dsimp only at H
  replace A8 := Aside0.mk A8
  replace H := Option.bind_eq_some_iff.mp H
  obtain ⟨t137, A9, H⟩ := H
  try dsimp only at H
  replace A9 := Aside0.mk A9
  replace H := Option.bind_eq_some_iff.mp H
  obtain ⟨t138, A10, H⟩ := H
  try dsimp only at H
  replace A10 := Aside0.mk A10
  replace H := Option.bind_eq_some_iff.mp H
  obtain ⟨t139, A11, H⟩ := H
  try dsimp only at H
  replace A11 := Aside0.mk A11
  replace H := Option.bind_eq_some_iff.mp H
  obtain ⟨t140, A12, H⟩ := H
  try dsimp only at H
  replace A12 := Aside0.mk A12
  replace H := Option.bind_eq_some_iff.mp H
  obtain ⟨t141, A13, H⟩ := H
  try dsimp only at H
  replace A13 := Aside0.mk A13
  replace H := Option.bind_eq_some_iff.mp H
  obtain ⟨t142, A14, H⟩ := H
  try dsimp only at H
  replace A14 := Aside0.mk A14
  replace H := Option.bind_eq_some_iff.mp H
  obtain ⟨t143, A15, H⟩ := H
  try dsimp only at H
  replace A15 := Aside0.mk A15
  replace H := Option.bind_eq_some_iff.mp H
  obtain ⟨t144, A16, H⟩ := H
  try dsimp only at H
  replace A16 := Aside0.mk A16
  simp only [Option.some.injEq, Prod.mk.injEq] at H
  obtain ⟨rfl, rfl⟩ := H
  go_enter Tryz.func56, Tryz.ntmps56
  go_wp2_with (first | ((with_reducible refine gate_dst (N := 4) rfl ?_); refine bxe 4 (cs := #[.int .u64 a1_0, .int .u64 a1_1]) (t := 74) ?_; intro gb130 hg w17 hbox hb; have BK130 := Aside0.mk hbox; have GW130 := bsz HB hg; have GE130 := bsz HB hg; replace HB := bls HB hb; clear hb hbox hg) | ((with_reducible refine gate_dst (N := 5) rfl ?_); refine bxe 5 (cs := #[.int .u64 a2_0, .int .u64 a2_1]) (t := 74) ?_; intro gb131 hg w18 hbox hb; have BK131 := Aside0.mk hbox; have GW131 := bsz HB hg; have GE131 := bsz HB hg; have NB130_131 := bnl BK130 hg; have NB131_130 := bng BK130 hg; replace BK130 := bkb BK130 hb; replace HB := bls HB hb; clear hb hbox hg) | ((with_reducible refine gate_dst (N := 6) rfl ?_); refine bxe 6 (cs := #[.int .u64 0, .int .u64 0]) (t := 74) ?_; intro gb132 hg w19 hbox hb; have BK132 := Aside0.mk hbox; have GW132 := bsz HB hg; have GE132 := bsz HB hg; have NB130_132 := bnl BK130 hg; have NB132_130 := bng BK130 hg; have NB131_132 := bnl BK131 hg; have NB132_131 := bng BK131 hg; replace BK130 := bkb BK130 hb; replace BK131 := bkb BK131 hb; replace HB := bls HB hb; clear hb hbox hg; have hnb20 := NB130_131.out; have hnc20 := NB131_130.out; have hnb21 := NB130_132.out; have hnc21 := NB132_130.out; obtain ⟨hcz22_0, hcz22_1, hfz22_0, hfz22_1⟩ := cf2 BK130; have hnb23 := NB131_132.out; have hnc23 := NB132_131.out; obtain ⟨hcz24_0, hcz24_1, hfz24_0, hfz24_1⟩ := cf2 BK131) | (go_at_call 100; (with_reducible refine (fd_size.calls a0 a2_0 t133 _ A4.out).mono ?_); rintro e w25 ⟨rfl, hb⟩; replace BK130 := bkb BK130 hb; replace BK131 := bkb BK131 hb; replace BK132 := bkb BK132 hb; replace HB := bls HB hb; clear hb) | (go_at_call 100; (with_reducible refine (fd_size.calls a0 a2_1 t134 _ A5.out).mono ?_); rintro e w26 ⟨rfl, hb⟩; replace BK130 := bkb BK130 hb; replace BK131 := bkb BK131 hb; replace BK132 := bkb BK132 hb; replace HB := bls HB hb; clear hb) | (go_at_call 92; (with_reducible refine (fd_order.calls a0 t133 t134 t135 _ A6.out).mono ?_); rintro e w27 ⟨rfl, hb⟩; replace BK130 := bkb BK130 hb; replace BK131 := bkb BK131 hb; replace BK132 := bkb BK132 hb; replace HB := bls HB hb; clear hb) | (go_at_call 101; (with_reducible refine (fd_div.calls a0 a2_1 a2_0 t136 _ A8.out).mono ?_); rintro e w28 ⟨rfl, hb⟩; replace BK130 := bkb BK130 hb; replace BK131 := bkb BK131 hb; replace BK132 := bkb BK132 hb; replace HB := bls HB hb; clear hb) | (go_at_call 99; (with_reducible refine (fd_mul.calls a0 t136 a2_1 t137 _ A9.out).mono ?_); rintro e w29 ⟨rfl, hb⟩; replace BK130 := bkb BK130 hb; replace BK131 := bkb BK131 hb; replace BK132 := bkb BK132 hb; replace HB := bls HB hb; clear hb) | (go_at_call 97; (with_reducible refine (fd_add.calls a0 a2_0 t137 t138 _ A10.out).mono ?_); rintro e w30 ⟨rfl, hb⟩; replace BK130 := bkb BK130 hb; replace BK131 := bkb BK131 hb; replace BK132 := bkb BK132 hb; replace HB := bls HB hb; clear hb) | (go_at_call 99; (with_reducible refine (fd_mul.calls a0 a1_1 t136 t139 _ A11.out).mono ?_); rintro e w31 ⟨rfl, hb⟩; replace BK130 := bkb BK130 hb; replace BK131 := bkb BK131 hb; replace BK132 := bkb BK132 hb; replace HB := bls HB hb; clear hb) | (go_at_call 97; (with_reducible refine (fd_add.calls a0 a1_0 t139 t140 _ A12.out).mono ?_); rintro e w32 ⟨rfl, hb⟩; replace BK130 := bkb BK130 hb; replace BK131 := bkb BK131 hb; replace BK132 := bkb BK132 hb; replace HB := bls HB hb; clear hb) | (go_at_call 101; (with_reducible refine (fd_div.calls a0 t140 t138 t141 _ A13.out).mono ?_); rintro e w33 ⟨rfl, hb⟩; replace BK130 := bkb BK130 hb; replace BK131 := bkb BK131 hb; replace BK132 := bkb BK132 hb; replace HB := bls HB hb; clear hb) | (go_at_call 99; (with_reducible refine (fd_mul.calls a0 a1_0 t136 t142 _ A14.out).mono ?_); rintro e w34 ⟨rfl, hb⟩; replace BK130 := bkb BK130 hb; replace BK131 := bkb BK131 hb; replace BK132 := bkb BK132 hb; replace HB := bls HB hb; clear hb) | (go_at_call 98; (with_reducible refine (fd_sub.calls a0 a1_1 t142 t143 _ A15.out).mono ?_); rintro e w35 ⟨rfl, hb⟩; replace BK130 := bkb BK130 hb; replace BK131 := bkb BK131 hb; replace BK132 := bkb BK132 hb; replace HB := bls HB hb; clear hb) | (go_at_call 101; (with_reducible refine (fd_div.calls a0 t143 t138 t144 _ A16.out).mono ?_); rintro e w36 ⟨rfl, hb⟩; replace BK130 := bkb BK130 hb; replace BK131 := bkb BK131 hb; replace BK132 := bkb BK132 hb; replace HB := bls HB hb; clear hb; obtain ⟨hcz37_0, hcz37_1, hfz37_0, hfz37_1⟩ := cf2 BK132))
  repeat (go_quiet (first | ((with_reducible refine gate_dst (N := 4) rfl ?_); refine bxe 4 (cs := #[.int .u64 a1_0, .int .u64 a1_1]) (t := 74) ?_; intro gb130 hg w17 hbox hb; have BK130 := Aside0.mk hbox; have GW130 := bsz HB hg; have GE130 := bsz HB hg; replace HB := bls HB hb; clear hb hbox hg) | ((with_reducible refine gate_dst (N := 5) rfl ?_); refine bxe 5 (cs := #[.int .u64 a2_0, .int .u64 a2_1]) (t := 74) ?_; intro gb131 hg w18 hbox hb; have BK131 := Aside0.mk hbox; have GW131 := bsz HB hg; have GE131 := bsz HB hg; have NB130_131 := bnl BK130 hg; have NB131_130 := bng BK130 hg; replace BK130 := bkb BK130 hb; replace HB := bls HB hb; clear hb hbox hg) | ((with_reducible refine gate_dst (N := 6) rfl ?_); refine bxe 6 (cs := #[.int .u64 0, .int .u64 0]) (t := 74) ?_; intro gb132 hg w19 hbox hb; have BK132 := Aside0.mk hbox; have GW132 := bsz HB hg; have GE132 := bsz HB hg; have NB130_132 := bnl BK130 hg; have NB132_130 := bng BK130 hg; have NB131_132 := bnl BK131 hg; have NB132_131 := bng BK131 hg; replace BK130 := bkb BK130 hb; replace BK131 := bkb BK131 hb; replace HB := bls HB hb; clear hb hbox hg; have hnb20 := NB130_131.out; have hnc20 := NB131_130.out; have hnb21 := NB130_132.out; have hnc21 := NB132_130.out; obtain ⟨hcz22_0, hcz22_1, hfz22_0, hfz22_1⟩ := cf2 BK130; have hnb23 := NB131_132.out; have hnc23 := NB132_131.out; obtain ⟨hcz24_0, hcz24_1, hfz24_0, hfz24_1⟩ := cf2 BK131) | (go_at_call 100; (with_reducible refine (fd_size.calls a0 a2_0 t133 _ A4.out).mono ?_); rintro e w25 ⟨rfl, hb⟩; replace BK130 := bkb BK130 hb; replace BK131 := bkb BK131 hb; replace BK132 := bkb BK132 hb; replace HB := bls HB hb; clear hb) | (go_at_call 100; (with_reducible refine (fd_size.calls a0 a2_1 t134 _ A5.out).mono ?_); rintro e w26 ⟨rfl, hb⟩; replace BK130 := bkb BK130 hb; replace BK131 := bkb BK131 hb; replace BK132 := bkb BK132 hb; replace HB := bls HB hb; clear hb) | (go_at_call 92; (with_reducible refine (fd_order.calls a0 t133 t134 t135 _ A6.out).mono ?_); rintro e w27 ⟨rfl, hb⟩; replace BK130 := bkb BK130 hb; replace BK131 := bkb BK131 hb; replace BK132 := bkb BK132 hb; replace HB := bls HB hb; clear hb) | (go_at_call 101; (with_reducible refine (fd_div.calls a0 a2_1 a2_0 t136 _ A8.out).mono ?_); rintro e w28 ⟨rfl, hb⟩; replace BK130 := bkb BK130 hb; replace BK131 := bkb BK131 hb; replace BK132 := bkb BK132 hb; replace HB := bls HB hb; clear hb) | (go_at_call 99; (with_reducible refine (fd_mul.calls a0 t136 a2_1 t137 _ A9.out).mono ?_); rintro e w29 ⟨rfl, hb⟩; replace BK130 := bkb BK130 hb; replace BK131 := bkb BK131 hb; replace BK132 := bkb BK132 hb; replace HB := bls HB hb; clear hb) | (go_at_call 97; (with_reducible refine (fd_add.calls a0 a2_0 t137 t138 _ A10.out).mono ?_); rintro e w30 ⟨rfl, hb⟩; replace BK130 := bkb BK130 hb; replace BK131 := bkb BK131 hb; replace BK132 := bkb BK132 hb; replace HB := bls HB hb; clear hb) | (go_at_call 99; (with_reducible refine (fd_mul.calls a0 a1_1 t136 t139 _ A11.out).mono ?_); rintro e w31 ⟨rfl, hb⟩; replace BK130 := bkb BK130 hb; replace BK131 := bkb BK131 hb; replace BK132 := bkb BK132 hb; replace HB := bls HB hb; clear hb) | (go_at_call 97; (with_reducible refine (fd_add.calls a0 a1_0 t139 t140 _ A12.out).mono ?_); rintro e w32 ⟨rfl, hb⟩; replace BK130 := bkb BK130 hb; replace BK131 := bkb BK131 hb; replace BK132 := bkb BK132 hb; replace HB := bls HB hb; clear hb) | (go_at_call 101; (with_reducible refine (fd_div.calls a0 t140 t138 t141 _ A13.out).mono ?_); rintro e w33 ⟨rfl, hb⟩; replace BK130 := bkb BK130 hb; replace BK131 := bkb BK131 hb; replace BK132 := bkb BK132 hb; replace HB := bls HB hb; clear hb) | (go_at_call 99; (with_reducible refine (fd_mul.calls a0 a1_0 t136 t142 _ A14.out).mono ?_); rintro e w34 ⟨rfl, hb⟩; replace BK130 := bkb BK130 hb; replace BK131 := bkb BK131 hb; replace BK132 := bkb BK132 hb; replace HB := bls HB hb; clear hb) | (go_at_call 98; (with_reducible refine (fd_sub.calls a0 a1_1 t142 t143 _ A15.out).mono ?_); rintro e w35 ⟨rfl, hb⟩; replace BK130 := bkb BK130 hb; replace BK131 := bkb BK131 hb; replace BK132 := bkb BK132 hb; replace HB := bls HB hb; clear hb) | (go_at_call 101; (with_reducible refine (fd_div.calls a0 t143 t138 t144 _ A16.out).mono ?_); rintro e w36 ⟨rfl, hb⟩; replace BK130 := bkb BK130 hb; replace BK131 := bkb BK131 hb; replace BK132 := bkb BK132 hb; replace HB := bls HB hb; clear hb; obtain ⟨hcz37_0, hcz37_1, hfz37_0, hfz37_1⟩ := cf2 BK132)); try go_wp2_with (first | ((with_reducible refine gate_dst (N := 4) rfl ?_); refine bxe 4 (cs := #[.int .u64 a1_0, .int .u64 a1_1]) (t := 74) ?_; intro gb130 hg w17 hbox hb; have BK130 := Aside0.mk hbox; have GW130 := bsz HB hg; have GE130 := bsz HB hg; replace HB := bls HB hb; clear hb hbox hg) | ((with_reducible refine gate_dst (N := 5) rfl ?_); refine bxe 5 (cs := #[.int .u64 a2_0, .int .u64 a2_1]) (t := 74) ?_; intro gb131 hg w18 hbox hb; have BK131 := Aside0.mk hbox; have GW131 := bsz HB hg; have GE131 := bsz HB hg; have NB130_131 := bnl BK130 hg; have NB131_130 := bng BK130 hg; replace BK130 := bkb BK130 hb; replace HB := bls HB hb; clear hb hbox hg) | ((with_reducible refine gate_dst (N := 6) rfl ?_); refine bxe 6 (cs := #[.int .u64 0, .int .u64 0]) (t := 74) ?_; intro gb132 hg w19 hbox hb; have BK132 := Aside0.mk hbox; have GW132 := bsz HB hg; have GE132 := bsz HB hg; have NB130_132 := bnl BK130 hg; have NB132_130 := bng BK130 hg; have NB131_132 := bnl BK131 hg; have NB132_131 := bng BK131 hg; replace BK130 := bkb BK130 hb; replace BK131 := bkb BK131 hb; replace HB := bls HB hb; clear hb hbox hg; have hnb20 := NB130_131.out; have hnc20 := NB131_130.out; have hnb21 := NB130_132.out; have hnc21 := NB132_130.out; obtain ⟨hcz22_0, hcz22_1, hfz22_0, hfz22_1⟩ := cf2 BK130; have hnb23 := NB131_132.out; have hnc23 := NB132_131.out; obtain ⟨hcz24_0, hcz24_1, hfz24_0, hfz24_1⟩ := cf2 BK131) | (go_at_call 100; (with_reducible refine (fd_size.calls a0 a2_0 t133 _ A4.out).mono ?_); rintro e w25 ⟨rfl, hb⟩; replace BK130 := bkb BK130 hb; replace BK131 := bkb BK131 hb; replace BK132 := bkb BK132 hb; replace HB := bls HB hb; clear hb) | (go_at_call 100; (with_reducible refine (fd_size.calls a0 a2_1 t134 _ A5.out).mono ?_); rintro e w26 ⟨rfl, hb⟩; replace BK130 := bkb BK130 hb; replace BK131 := bkb BK131 hb; replace BK132 := bkb BK132 hb; replace HB := bls HB hb; clear hb) | (go_at_call 92; (with_reducible refine (fd_order.calls a0 t133 t134 t135 _ A6.out).mono ?_); rintro e w27 ⟨rfl, hb⟩; replace BK130 := bkb BK130 hb; replace BK131 := bkb BK131 hb; replace BK132 := bkb BK132 hb; replace HB := bls HB hb; clear hb) | (go_at_call 101; (with_reducible refine (fd_div.calls a0 a2_1 a2_0 t136 _ A8.out).mono ?_); rintro e w28 ⟨rfl, hb⟩; replace BK130 := bkb BK130 hb; replace BK131 := bkb BK131 hb; replace BK132 := bkb BK132 hb; replace HB := bls HB hb; clear hb) | (go_at_call 99; (with_reducible refine (fd_mul.calls a0 t136 a2_1 t137 _ A9.out).mono ?_); rintro e w29 ⟨rfl, hb⟩; replace BK130 := bkb BK130 hb; replace BK131 := bkb BK131 hb; replace BK132 := bkb BK132 hb; replace HB := bls HB hb; clear hb) | (go_at_call 97; (with_reducible refine (fd_add.calls a0 a2_0 t137 t138 _ A10.out).mono ?_); rintro e w30 ⟨rfl, hb⟩; replace BK130 := bkb BK130 hb; replace BK131 := bkb BK131 hb; replace BK132 := bkb BK132 hb; replace HB := bls HB hb; clear hb) | (go_at_call 99; (with_reducible refine (fd_mul.calls a0 a1_1 t136 t139 _ A11.out).mono ?_); rintro e w31 ⟨rfl, hb⟩; replace BK130 := bkb BK130 hb; replace BK131 := bkb BK131 hb; replace BK132 := bkb BK132 hb; replace HB := bls HB hb; clear hb) | (go_at_call 97; (with_reducible refine (fd_add.calls a0 a1_0 t139 t140 _ A12.out).mono ?_); rintro e w32 ⟨rfl, hb⟩; replace BK130 := bkb BK130 hb; replace BK131 := bkb BK131 hb; replace BK132 := bkb BK132 hb; replace HB := bls HB hb; clear hb) | (go_at_call 101; (with_reducible refine (fd_div.calls a0 t140 t138 t141 _ A13.out).mono ?_); rintro e w33 ⟨rfl, hb⟩; replace BK130 := bkb BK130 hb; replace BK131 := bkb BK131 hb; replace BK132 := bkb BK132 hb; replace HB := bls HB hb; clear hb) | (go_at_call 99; (with_reducible refine (fd_mul.calls a0 a1_0 t136 t142 _ A14.out).mono ?_); rintro e w34 ⟨rfl, hb⟩; replace BK130 := bkb BK130 hb; replace BK131 := bkb BK131 hb; replace BK132 := bkb BK132 hb; replace HB := bls HB hb; clear hb) | (go_at_call 98; (with_reducible refine (fd_sub.calls a0 a1_1 t142 t143 _ A15.out).mono ?_); rintro e w35 ⟨rfl, hb⟩; replace BK130 := bkb BK130 hb; replace BK131 := bkb BK131 hb; replace BK132 := bkb BK132 hb; replace HB := bls HB hb; clear hb) | (go_at_call 101; (with_reducible refine (fd_div.calls a0 t143 t138 t144 _ A16.out).mono ?_); rintro e w36 ⟨rfl, hb⟩; replace BK130 := bkb BK130 hb; replace BK131 := bkb BK131 hb; replace BK132 := bkb BK132 hb; replace HB := bls HB hb; clear hb; obtain ⟨hcz37_0, hcz37_1, hfz37_0, hfz37_1⟩ := cf2 BK132)))
  refine bodyPost_ret (results_cell_row rfl _ _ gb132 74 #[.int .u64 t141, .int .u64 t144] (0, 0) _ rfl (by (with_reducible repeat (first | refine blk_drewN ?_ _ | refine blk_drew ?_ | refine blk_alloc ?_ _)); apply bp2; (with_reducible repeat (first | refine blk_drewN ?_ _ | refine blk_drew ?_ | refine blk_alloc ?_ _)); exact BK132.out) Tryz.underlying74 rfl (by kernel_rfl)) rfl ?_
  exact fin_ (blt HB)
 ·rw [if_neg c7] at H
  have c7b0 : decide (0 ≤ t135) = false := decide_eq_false c7
  clear c7
  replace H := Option.bind_eq_some_iff.mp H
  obtain ⟨t145, A38, H⟩ := H
  try dsimp only at H
  replace A38 := Aside0.mk A38
  replace H := Option.bind_eq_some_iff.mp H
  obtain ⟨t146, A39, H⟩ := H
  try dsimp only at H
  replace A39 := Aside0.mk A39
  replace H := Option.bind_eq_some_iff.mp H
  obtain ⟨t147, A40, H⟩ := H
  try dsimp only at H
  replace A40 := Aside0.mk A40
  replace H := Option.bind_eq_some_iff.mp H
  obtain ⟨t148, A41, H⟩ := H
  try dsimp only at H
  replace A41 := Aside0.mk A41
  replace H := Option.bind_eq_some_iff.mp H
  obtain ⟨t149, A42, H⟩ := H
  try dsimp only at H
  replace A42 := Aside0.mk A42
  replace H := Option.bind_eq_some_iff.mp H
  obtain ⟨t150, A43, H⟩ := H
  try dsimp only at H
  replace A43 := Aside0.mk A43
  replace H := Option.bind_eq_some_iff.mp H
  obtain ⟨t151, A44, H⟩ := H
  try dsimp only at H
  replace A44 := Aside0.mk A44
  replace H := Option.bind_eq_some_iff.mp H
  obtain ⟨t152, A45, H⟩ := H
  try dsimp only at H
  replace A45 := Aside0.mk A45
  replace H := Option.bind_eq_some_iff.mp H
  obtain ⟨t153, A46, H⟩ := H
  try dsimp only at H
  replace A46 := Aside0.mk A46
  simp only [Option.some.injEq, Prod.mk.injEq] at H
  obtain ⟨rfl, rfl⟩ := H
  go_enter Tryz.func56, Tryz.ntmps56
  go_wp2_with (first | ((with_reducible refine gate_dst (N := 4) rfl ?_); refine bxe 4 (cs := #[.int .u64 a1_0, .int .u64 a1_1]) (t := 74) ?_; intro gb130 hg w47 hbox hb; have BK130 := Aside0.mk hbox; have GW130 := bsz HB hg; have GE130 := bsz HB hg; replace HB := bls HB hb; clear hb hbox hg) | ((with_reducible refine gate_dst (N := 5) rfl ?_); refine bxe 5 (cs := #[.int .u64 a2_0, .int .u64 a2_1]) (t := 74) ?_; intro gb131 hg w48 hbox hb; have BK131 := Aside0.mk hbox; have GW131 := bsz HB hg; have GE131 := bsz HB hg; have NB130_131 := bnl BK130 hg; have NB131_130 := bng BK130 hg; replace BK130 := bkb BK130 hb; replace HB := bls HB hb; clear hb hbox hg) | ((with_reducible refine gate_dst (N := 6) rfl ?_); refine bxe 6 (cs := #[.int .u64 0, .int .u64 0]) (t := 74) ?_; intro gb132 hg w49 hbox hb; have BK132 := Aside0.mk hbox; have GW132 := bsz HB hg; have GE132 := bsz HB hg; have NB130_132 := bnl BK130 hg; have NB132_130 := bng BK130 hg; have NB131_132 := bnl BK131 hg; have NB132_131 := bng BK131 hg; replace BK130 := bkb BK130 hb; replace BK131 := bkb BK131 hb; replace HB := bls HB hb; clear hb hbox hg; have hnb50 := NB130_131.out; have hnc50 := NB131_130.out; have hnb51 := NB130_132.out; have hnc51 := NB132_130.out; obtain ⟨hcz52_0, hcz52_1, hfz52_0, hfz52_1⟩ := cf2 BK130; have hnb53 := NB131_132.out; have hnc53 := NB132_131.out; obtain ⟨hcz54_0, hcz54_1, hfz54_0, hfz54_1⟩ := cf2 BK131) | (go_at_call 100; (with_reducible refine (fd_size.calls a0 a2_0 t133 _ A4.out).mono ?_); rintro e w55 ⟨rfl, hb⟩; replace BK130 := bkb BK130 hb; replace BK131 := bkb BK131 hb; replace BK132 := bkb BK132 hb; replace HB := bls HB hb; clear hb) | (go_at_call 100; (with_reducible refine (fd_size.calls a0 a2_1 t134 _ A5.out).mono ?_); rintro e w56 ⟨rfl, hb⟩; replace BK130 := bkb BK130 hb; replace BK131 := bkb BK131 hb; replace BK132 := bkb BK132 hb; replace HB := bls HB hb; clear hb) | (go_at_call 92; (with_reducible refine (fd_order.calls a0 t133 t134 t135 _ A6.out).mono ?_); rintro e w57 ⟨rfl, hb⟩; replace BK130 := bkb BK130 hb; replace BK131 := bkb BK131 hb; replace BK132 := bkb BK132 hb; replace HB := bls HB hb; clear hb) | (go_at_call 101; (with_reducible refine (fd_div.calls a0 a2_0 a2_1 t145 _ A38.out).mono ?_); rintro e w58 ⟨rfl, hb⟩; replace BK130 := bkb BK130 hb; replace BK131 := bkb BK131 hb; replace BK132 := bkb BK132 hb; replace HB := bls HB hb; clear hb) | (go_at_call 99; (with_reducible refine (fd_mul.calls a0 t145 a2_0 t146 _ A39.out).mono ?_); rintro e w59 ⟨rfl, hb⟩; replace BK130 := bkb BK130 hb; replace BK131 := bkb BK131 hb; replace BK132 := bkb BK132 hb; replace HB := bls HB hb; clear hb) | (go_at_call 97; (with_reducible refine (fd_add.calls a0 a2_1 t146 t147 _ A40.out).mono ?_); rintro e w60 ⟨rfl, hb⟩; replace BK130 := bkb BK130 hb; replace BK131 := bkb BK131 hb; replace BK132 := bkb BK132 hb; replace HB := bls HB hb; clear hb) | (go_at_call 99; (with_reducible refine (fd_mul.calls a0 a1_0 t145 t148 _ A41.out).mono ?_); rintro e w61 ⟨rfl, hb⟩; replace BK130 := bkb BK130 hb; replace BK131 := bkb BK131 hb; replace BK132 := bkb BK132 hb; replace HB := bls HB hb; clear hb) | (go_at_call 97; (with_reducible refine (fd_add.calls a0 t148 a1_1 t149 _ A42.out).mono ?_); rintro e w62 ⟨rfl, hb⟩; replace BK130 := bkb BK130 hb; replace BK131 := bkb BK131 hb; replace BK132 := bkb BK132 hb; replace HB := bls HB hb; clear hb) | (go_at_call 101; (with_reducible refine (fd_div.calls a0 t149 t147 t150 _ A43.out).mono ?_); rintro e w63 ⟨rfl, hb⟩; replace BK130 := bkb BK130 hb; replace BK131 := bkb BK131 hb; replace BK132 := bkb BK132 hb; replace HB := bls HB hb; clear hb) | (go_at_call 99; (with_reducible refine (fd_mul.calls a0 a1_1 t145 t151 _ A44.out).mono ?_); rintro e w64 ⟨rfl, hb⟩; replace BK130 := bkb BK130 hb; replace BK131 := bkb BK131 hb; replace BK132 := bkb BK132 hb; replace HB := bls HB hb; clear hb) | (go_at_call 98; (with_reducible refine (fd_sub.calls a0 t151 a1_0 t152 _ A45.out).mono ?_); rintro e w65 ⟨rfl, hb⟩; replace BK130 := bkb BK130 hb; replace BK131 := bkb BK131 hb; replace BK132 := bkb BK132 hb; replace HB := bls HB hb; clear hb) | (go_at_call 101; (with_reducible refine (fd_div.calls a0 t152 t147 t153 _ A46.out).mono ?_); rintro e w66 ⟨rfl, hb⟩; replace BK130 := bkb BK130 hb; replace BK131 := bkb BK131 hb; replace BK132 := bkb BK132 hb; replace HB := bls HB hb; clear hb; obtain ⟨hcz67_0, hcz67_1, hfz67_0, hfz67_1⟩ := cf2 BK132))
  repeat (go_quiet (first | ((with_reducible refine gate_dst (N := 4) rfl ?_); refine bxe 4 (cs := #[.int .u64 a1_0, .int .u64 a1_1]) (t := 74) ?_; intro gb130 hg w47 hbox hb; have BK130 := Aside0.mk hbox; have GW130 := bsz HB hg; have GE130 := bsz HB hg; replace HB := bls HB hb; clear hb hbox hg) | ((with_reducible refine gate_dst (N := 5) rfl ?_); refine bxe 5 (cs := #[.int .u64 a2_0, .int .u64 a2_1]) (t := 74) ?_; intro gb131 hg w48 hbox hb; have BK131 := Aside0.mk hbox; have GW131 := bsz HB hg; have GE131 := bsz HB hg; have NB130_131 := bnl BK130 hg; have NB131_130 := bng BK130 hg; replace BK130 := bkb BK130 hb; replace HB := bls HB hb; clear hb hbox hg) | ((with_reducible refine gate_dst (N := 6) rfl ?_); refine bxe 6 (cs := #[.int .u64 0, .int .u64 0]) (t := 74) ?_; intro gb132 hg w49 hbox hb; have BK132 := Aside0.mk hbox; have GW132 := bsz HB hg; have GE132 := bsz HB hg; have NB130_132 := bnl BK130 hg; have NB132_130 := bng BK130 hg; have NB131_132 := bnl BK131 hg; have NB132_131 := bng BK131 hg; replace BK130 := bkb BK130 hb; replace BK131 := bkb BK131 hb; replace HB := bls HB hb; clear hb hbox hg; have hnb50 := NB130_131.out; have hnc50 := NB131_130.out; have hnb51 := NB130_132.out; have hnc51 := NB132_130.out; obtain ⟨hcz52_0, hcz52_1, hfz52_0, hfz52_1⟩ := cf2 BK130; have hnb53 := NB131_132.out; have hnc53 := NB132_131.out; obtain ⟨hcz54_0, hcz54_1, hfz54_0, hfz54_1⟩ := cf2 BK131) | (go_at_call 100; (with_reducible refine (fd_size.calls a0 a2_0 t133 _ A4.out).mono ?_); rintro e w55 ⟨rfl, hb⟩; replace BK130 := bkb BK130 hb; replace BK131 := bkb BK131 hb; replace BK132 := bkb BK132 hb; replace HB := bls HB hb; clear hb) | (go_at_call 100; (with_reducible refine (fd_size.calls a0 a2_1 t134 _ A5.out).mono ?_); rintro e w56 ⟨rfl, hb⟩; replace BK130 := bkb BK130 hb; replace BK131 := bkb BK131 hb; replace BK132 := bkb BK132 hb; replace HB := bls HB hb; clear hb) | (go_at_call 92; (with_reducible refine (fd_order.calls a0 t133 t134 t135 _ A6.out).mono ?_); rintro e w57 ⟨rfl, hb⟩; replace BK130 := bkb BK130 hb; replace BK131 := bkb BK131 hb; replace BK132 := bkb BK132 hb; replace HB := bls HB hb; clear hb) | (go_at_call 101; (with_reducible refine (fd_div.calls a0 a2_0 a2_1 t145 _ A38.out).mono ?_); rintro e w58 ⟨rfl, hb⟩; replace BK130 := bkb BK130 hb; replace BK131 := bkb BK131 hb; replace BK132 := bkb BK132 hb; replace HB := bls HB hb; clear hb) | (go_at_call 99; (with_reducible refine (fd_mul.calls a0 t145 a2_0 t146 _ A39.out).mono ?_); rintro e w59 ⟨rfl, hb⟩; replace BK130 := bkb BK130 hb; replace BK131 := bkb BK131 hb; replace BK132 := bkb BK132 hb; replace HB := bls HB hb; clear hb) | (go_at_call 97; (with_reducible refine (fd_add.calls a0 a2_1 t146 t147 _ A40.out).mono ?_); rintro e w60 ⟨rfl, hb⟩; replace BK130 := bkb BK130 hb; replace BK131 := bkb BK131 hb; replace BK132 := bkb BK132 hb; replace HB := bls HB hb; clear hb) | (go_at_call 99; (with_reducible refine (fd_mul.calls a0 a1_0 t145 t148 _ A41.out).mono ?_); rintro e w61 ⟨rfl, hb⟩; replace BK130 := bkb BK130 hb; replace BK131 := bkb BK131 hb; replace BK132 := bkb BK132 hb; replace HB := bls HB hb; clear hb) | (go_at_call 97; (with_reducible refine (fd_add.calls a0 t148 a1_1 t149 _ A42.out).mono ?_); rintro e w62 ⟨rfl, hb⟩; replace BK130 := bkb BK130 hb; replace BK131 := bkb BK131 hb; replace BK132 := bkb BK132 hb; replace HB := bls HB hb; clear hb) | (go_at_call 101; (with_reducible refine (fd_div.calls a0 t149 t147 t150 _ A43.out).mono ?_); rintro e w63 ⟨rfl, hb⟩; replace BK130 := bkb BK130 hb; replace BK131 := bkb BK131 hb; replace BK132 := bkb BK132 hb; replace HB := bls HB hb; clear hb) | (go_at_call 99; (with_reducible refine (fd_mul.calls a0 a1_1 t145 t151 _ A44.out).mono ?_); rintro e w64 ⟨rfl, hb⟩; replace BK130 := bkb BK130 hb; replace BK131 := bkb BK131 hb; replace BK132 := bkb BK132 hb; replace HB := bls HB hb; clear hb) | (go_at_call 98; (with_reducible refine (fd_sub.calls a0 t151 a1_0 t152 _ A45.out).mono ?_); rintro e w65 ⟨rfl, hb⟩; replace BK130 := bkb BK130 hb; replace BK131 := bkb BK131 hb; replace BK132 := bkb BK132 hb; replace HB := bls HB hb; clear hb) | (go_at_call 101; (with_reducible refine (fd_div.calls a0 t152 t147 t153 _ A46.out).mono ?_); rintro e w66 ⟨rfl, hb⟩; replace BK130 := bkb BK130 hb; replace BK131 := bkb BK131 hb; replace BK132 := bkb BK132 hb; replace HB := bls HB hb; clear hb; obtain ⟨hcz67_0, hcz67_1, hfz67_0, hfz67_1⟩ := cf2 BK132)); try go_wp2_with (first | ((with_reducible refine gate_dst (N := 4) rfl ?_); refine bxe 4 (cs := #[.int .u64 a1_0, .int .u64 a1_1]) (t := 74) ?_; intro gb130 hg w47 hbox hb; have BK130 := Aside0.mk hbox; have GW130 := bsz HB hg; have GE130 := bsz HB hg; replace HB := bls HB hb; clear hb hbox hg) | ((with_reducible refine gate_dst (N := 5) rfl ?_); refine bxe 5 (cs := #[.int .u64 a2_0, .int .u64 a2_1]) (t := 74) ?_; intro gb131 hg w48 hbox hb; have BK131 := Aside0.mk hbox; have GW131 := bsz HB hg; have GE131 := bsz HB hg; have NB130_131 := bnl BK130 hg; have NB131_130 := bng BK130 hg; replace BK130 := bkb BK130 hb; replace HB := bls HB hb; clear hb hbox hg) | ((with_reducible refine gate_dst (N := 6) rfl ?_); refine bxe 6 (cs := #[.int .u64 0, .int .u64 0]) (t := 74) ?_; intro gb132 hg w49 hbox hb; have BK132 := Aside0.mk hbox; have GW132 := bsz HB hg; have GE132 := bsz HB hg; have NB130_132 := bnl BK130 hg; have NB132_130 := bng BK130 hg; have NB131_132 := bnl BK131 hg; have NB132_131 := bng BK131 hg; replace BK130 := bkb BK130 hb; replace BK131 := bkb BK131 hb; replace HB := bls HB hb; clear hb hbox hg; have hnb50 := NB130_131.out; have hnc50 := NB131_130.out; have hnb51 := NB130_132.out; have hnc51 := NB132_130.out; obtain ⟨hcz52_0, hcz52_1, hfz52_0, hfz52_1⟩ := cf2 BK130; have hnb53 := NB131_132.out; have hnc53 := NB132_131.out; obtain ⟨hcz54_0, hcz54_1, hfz54_0, hfz54_1⟩ := cf2 BK131) | (go_at_call 100; (with_reducible refine (fd_size.calls a0 a2_0 t133 _ A4.out).mono ?_); rintro e w55 ⟨rfl, hb⟩; replace BK130 := bkb BK130 hb; replace BK131 := bkb BK131 hb; replace BK132 := bkb BK132 hb; replace HB := bls HB hb; clear hb) | (go_at_call 100; (with_reducible refine (fd_size.calls a0 a2_1 t134 _ A5.out).mono ?_); rintro e w56 ⟨rfl, hb⟩; replace BK130 := bkb BK130 hb; replace BK131 := bkb BK131 hb; replace BK132 := bkb BK132 hb; replace HB := bls HB hb; clear hb) | (go_at_call 92; (with_reducible refine (fd_order.calls a0 t133 t134 t135 _ A6.out).mono ?_); rintro e w57 ⟨rfl, hb⟩; replace BK130 := bkb BK130 hb; replace BK131 := bkb BK131 hb; replace BK132 := bkb BK132 hb; replace HB := bls HB hb; clear hb) | (go_at_call 101; (with_reducible refine (fd_div.calls a0 a2_0 a2_1 t145 _ A38.out).mono ?_); rintro e w58 ⟨rfl, hb⟩; replace BK130 := bkb BK130 hb; replace BK131 := bkb BK131 hb; replace BK132 := bkb BK132 hb; replace HB := bls HB hb; clear hb) | (go_at_call 99; (with_reducible refine (fd_mul.calls a0 t145 a2_0 t146 _ A39.out).mono ?_); rintro e w59 ⟨rfl, hb⟩; replace BK130 := bkb BK130 hb; replace BK131 := bkb BK131 hb; replace BK132 := bkb BK132 hb; replace HB := bls HB hb; clear hb) | (go_at_call 97; (with_reducible refine (fd_add.calls a0 a2_1 t146 t147 _ A40.out).mono ?_); rintro e w60 ⟨rfl, hb⟩; replace BK130 := bkb BK130 hb; replace BK131 := bkb BK131 hb; replace BK132 := bkb BK132 hb; replace HB := bls HB hb; clear hb) | (go_at_call 99; (with_reducible refine (fd_mul.calls a0 a1_0 t145 t148 _ A41.out).mono ?_); rintro e w61 ⟨rfl, hb⟩; replace BK130 := bkb BK130 hb; replace BK131 := bkb BK131 hb; replace BK132 := bkb BK132 hb; replace HB := bls HB hb; clear hb) | (go_at_call 97; (with_reducible refine (fd_add.calls a0 t148 a1_1 t149 _ A42.out).mono ?_); rintro e w62 ⟨rfl, hb⟩; replace BK130 := bkb BK130 hb; replace BK131 := bkb BK131 hb; replace BK132 := bkb BK132 hb; replace HB := bls HB hb; clear hb) | (go_at_call 101; (with_reducible refine (fd_div.calls a0 t149 t147 t150 _ A43.out).mono ?_); rintro e w63 ⟨rfl, hb⟩; replace BK130 := bkb BK130 hb; replace BK131 := bkb BK131 hb; replace BK132 := bkb BK132 hb; replace HB := bls HB hb; clear hb) | (go_at_call 99; (with_reducible refine (fd_mul.calls a0 a1_1 t145 t151 _ A44.out).mono ?_); rintro e w64 ⟨rfl, hb⟩; replace BK130 := bkb BK130 hb; replace BK131 := bkb BK131 hb; replace BK132 := bkb BK132 hb; replace HB := bls HB hb; clear hb) | (go_at_call 98; (with_reducible refine (fd_sub.calls a0 t151 a1_0 t152 _ A45.out).mono ?_); rintro e w65 ⟨rfl, hb⟩; replace BK130 := bkb BK130 hb; replace BK131 := bkb BK131 hb; replace BK132 := bkb BK132 hb; replace HB := bls HB hb; clear hb) | (go_at_call 101; (with_reducible refine (fd_div.calls a0 t152 t147 t153 _ A46.out).mono ?_); rintro e w66 ⟨rfl, hb⟩; replace BK130 := bkb BK130 hb; replace BK131 := bkb BK131 hb; replace BK132 := bkb BK132 hb; replace HB := bls HB hb; clear hb; obtain ⟨hcz67_0, hcz67_1, hfz67_0, hfz67_1⟩ := cf2 BK132)))
  refine bodyPost_ret (results_cell_row rfl _ _ gb132 74 #[.int .u64 t150, .int .u64 t153] (0, 0) _ rfl (by (with_reducible repeat (first | refine blk_drewN ?_ _ | refine blk_drew ?_ | refine blk_alloc ?_ _)); apply bp2; (with_reducible repeat (first | refine blk_drewN ?_ _ | refine blk_drew ?_ | refine blk_alloc ?_ _)); exact BK132.out) Tryz.underlying74 rfl (by kernel_rfl)) rfl ?_
  exact fin_ (blt HB)
def fd_one.f (a0 : Int) : Option (Int) := (rl_FromInteger.f a0 1).bind fun bt154 => (some bt154.1)
set_option maxHeartbeats 8000000 in
set_option maxRecDepth 100000 in
theorem fd_one.calls (a0 : Int) (r : Int) (w : World) (h : fd_one.f a0 = some r) :
  Calls Tryz.prog 111 #[.int .i64 a0] w fun e w' => e = .returned (.int .u64 r) ∧ Below w.heap.size w w' := by
 have HB := Aside0.mk (Below.refl w.heap.size w)
 have H : ((rl_FromInteger.f a0 1).bind fun bt154 => (some bt154.1)) = some r := h
 clear h
 replace H := Option.bind_eq_some_iff.mp H
 obtain ⟨⟨t154, t155⟩, A2, H⟩ := H
 try dsimp only at H
 replace A2 := Aside0.mk A2
 obtain rfl := Option.some.inj H
 go_enter Tryz.func111, Tryz.ntmps111
 go_wp2_with (first | ((with_reducible refine gate_callee (f := 93) rfl ?_); refine gLc 7 Tryz.func93 (rl_FromInteger.calls a0 1 t154 t155 _ A2.out) (fun w3 hb => ?_); replace HB := bls HB hb; clear hb))
 go_ret
 exact fin_ (blt HB)
def fd_kind.f (a0 : Int) (a1 : Int) : Option (Int) := (rl_PartsOf.f a0 a1).bind fun bt156 => (some bt156.1)
set_option maxHeartbeats 8000000 in
set_option maxRecDepth 100000 in
theorem fd_kind.calls (a0 : Int) (a1 : Int) (r : Int) (w : World) (h : fd_kind.f a0 a1 = some r) :
  Calls Tryz.prog 119 #[.int .i64 a0, .int .u64 a1] w fun e w' => e = .returned (.int .i64 r) ∧ Below w.heap.size w w' := by
 have hu41 := Tryz.underlying41
 have HB := Aside0.mk (Below.refl w.heap.size w)
 have H : ((rl_PartsOf.f a0 a1).bind fun bt156 => (some bt156.1)) = some r := h
 clear h
 replace H := Option.bind_eq_some_iff.mp H
 obtain ⟨⟨t156, t157, t158, t159, t160⟩, A3, H⟩ := H
 try dsimp only at H
 replace A3 := Aside0.mk A3
 obtain rfl := Option.some.inj H
 go_enter Tryz.func119, Tryz.ntmps119
 go_wp2_with (first | ((with_reducible refine gate_callee (f := 138) rfl ?_); refine gLc 10 Tryz.func138 (rl_PartsOf.calls a0 a1 t156 t157 t158 t159 t160 _ A3.out) (fun w4 hb => ?_); replace HB := bls HB hb; clear hb) | ((with_reducible refine gate_dst (N := 5) rfl ?_); refine bxe 5 (cs := #[.int .i64 0, .bool false, .int .i64 0, .int .i64 0]) (t := 41) ?_; intro gb161 hg w5 hbox hb; have BK161 := Aside0.mk hbox; have GW161 := bsz HB hg; have GE161 := bsz HB hg; replace HB := bls HB hb; clear hb hbox hg; obtain ⟨hcz6_0, hcz6_1, hcz6_2, hcz6_3, hfz6_0, hfz6_1, hfz6_2, hfz6_3⟩ := cf4 BK161))
 go_ret
 exact fin_ (blt HB)
def fd_root.f (a0 : Int) (a1 : Int) : Option (Int) := (rl_SqrtOf.f a0 a1).bind fun bt162 => (some bt162.1)
set_option maxHeartbeats 8000000 in
set_option maxRecDepth 100000 in
theorem fd_root.calls (a0 : Int) (a1 : Int) (r : Int) (w : World) (h : fd_root.f a0 a1 = some r) :
  Calls Tryz.prog 121 #[.int .i64 a0, .int .u64 a1] w fun e w' => e = .returned (.int .u64 r) ∧ Below w.heap.size w w' := by
 have HB := Aside0.mk (Below.refl w.heap.size w)
 have H : ((rl_SqrtOf.f a0 a1).bind fun bt162 => (some bt162.1)) = some r := h
 clear h
 replace H := Option.bind_eq_some_iff.mp H
 obtain ⟨⟨t162, t163⟩, A3, H⟩ := H
 try dsimp only at H
 replace A3 := Aside0.mk A3
 obtain rfl := Option.some.inj H
 go_enter Tryz.func121, Tryz.ntmps121
 go_wp2_with (first | ((with_reducible refine gate_callee (f := 140) rfl ?_); refine gLc 10 Tryz.func140 (rl_SqrtOf.calls a0 a1 t162 t163 _ A3.out) (fun w4 hb => ?_); replace HB := bls HB hb; clear hb))
 go_ret
 exact fin_ (blt HB)
end Go.Proofs.YtmoimcblmmcffaaGreat.PPC

namespace Go.Proofs.YtmoimcblmmcffaaGreat.PPC
open Go.RowKit Go.Proofs.YtmoimcblmmcffaaGreatW.PrintWords Go.Proofs.YtmoimcblmmcffaaGreatW.PrintLast Go.Proofs.YtmoimcblmmcffaaGreatW.PrintMore Go.Proofs.YtmoimcblmmcffaaGreatW.PrintZ
attribute [local go_sem] max2_int min2_int max_two min_two max_three min_three max_four min_four   -- for this text's walks alone
set_option linter.unusedVariables false
set_option linter.unusedSimpArgs false


mutual
def fd_distance.j0 : Nat → Int → Int → Int → Bool → Option (Int)
 | 0, _, _, _, _ => none
 | k + 1, x0, x5, x6, x7 => (fd_operation.f x0 6 x5 x6).bind fun t169 => ((fd_operation.f x0 5 x5 x6).bind fun t170 => (if x7 = true then (fd_distance.j1 k x0 x5 x6 t169 t170 x7) else ((fd_kind.f x0 t169).bind fun t171 => (if t171 = 0 then ((fd_kind.f x0 x5).bind fun t172 => ((fd_kind.f x0 x6).bind fun t173 => (fd_distance.j1 k x0 x5 x6 t169 t170 (t172 == t173)))) else (fd_distance.j1 k x0 x5 x6 t169 t170 false)))))
def fd_distance.j1 : Nat → Int → Int → Int → Int → Int → Bool → Option (Int)
 | 0, _, _, _, _, _, _ => none
 | k + 1, x0, x5, x6, x8, x9, x37 => if x37 = true then (some x8) else ((fd_kind.f x0 x5).bind fun t174 => (if t174 = 3 then (some x5) else ((fd_kind.f x0 x6).bind fun t175 => (if t175 = 3 then (some x6) else ((fd_div.f x0 x9 x8).bind fun t176 => ((fd_one.f x0).bind fun t177 => ((fd_mul.f x0 t176 t176).bind fun t178 => ((fd_add.f x0 t177 t178).bind fun t179 => ((fd_root.f x0 t179).bind fun t180 => ((fd_mul.f x0 x8 t180).bind fun t181 => (some t181)))))))))))
end
def fd_distance.f (k : Nat) (a0 : Int) (a1_0 : Int) (a1_1 : Int) : Option (Int) := (fd_size.f a0 a1_0).bind fun t165 => ((fd_size.f a0 a1_1).bind fun t166 => ((fd_kind.f a0 t165).bind fun t167 => (if t167 = 2 then (fd_distance.j0 k a0 t165 t166 true) else ((fd_kind.f a0 t166).bind fun t168 => (fd_distance.j0 k a0 t165 t166 (t168 == 2))))))
def fd_distance.T1 : Bool × List (List Nat × List Nat) := (true, [([], []), ([], []), ([1], [1]), ([0, 2], [0, 2]), ([], []), ([], []), ([5], [5]), ([4, 6, 3], [4, 6]), ([3, 7, 0, 1, 2, 3], [3]), ([7, 8, 0, 1, 2, 3, 4, 5, 6, 7, 8], [7])])
def fd_distance.B1 : List Nat := [0, 0, 2, 7, 0, 0, 32, 127, 255, 511]
theorem fd_distance.tab1 : rtab .any (opsOf Tryz.f79 1) = fd_distance.T1 := by kernel_rfl
theorem fd_distance.bits1 : waitsOk fd_distance.T1.2 fd_distance.B1 = true := by kernel_rfl
set_option maxHeartbeats 8000000 in
set_option maxRecDepth 100000 in
theorem fd_distance.calls (k : Nat) (a0 : Int) (a1_0 : Int) (a1_1 : Int) (r : Int) (w : World) (h : fd_distance.f k a0 a1_0 a1_1 = some r) :
  Calls Tryz.prog 79 #[.int .i64 a0, .agg #[.int .u64 a1_0, .int .u64 a1_1]] w fun e w' => e = .returned (.int .u64 r) ∧ Below w.heap.size w w' := by
 have hu74 := Tryz.underlying74
 have HB := Aside0.mk (Below.refl w.heap.size w)
 have H : ((fd_size.f a0 a1_0).bind fun t165 => ((fd_size.f a0 a1_1).bind fun t166 => ((fd_kind.f a0 t165).bind fun t167 => (if t167 = 2 then (fd_distance.j0 k a0 t165 t166 true) else ((fd_kind.f a0 t166).bind fun t168 => (fd_distance.j0 k a0 t165 t166 (t168 == 2))))))) = some r := h
 clear h
 replace H := Option.bind_eq_some_iff.mp H
 obtain ⟨t165, A3, H⟩ := H
 try dsimp only at H
 replace A3 := Aside0.mk A3
 replace H := Option.bind_eq_some_iff.mp H
 obtain ⟨t166, A4, H⟩ := H
 try dsimp only at H
 replace A4 := Aside0.mk A4
 have HC5 := Aside0.mk H
 clear H
 go_enter Tryz.func79, Tryz.ntmps79
 try go_wp2_with (first | ((with_reducible refine gate_dst (N := 3) rfl ?_); refine bxe 3 (cs := #[.int .u64 a1_0, .int .u64 a1_1]) (t := 74) ?_; intro gb164 hg w6 hbox hb; have BK164 := Aside0.mk hbox; have GW164 := bsz HB hg; have GE164 := bsz HB hg; replace HB := bls HB hb; clear hb hbox hg))
 replace BK164 := Aside0.mk (blk_drew BK164.out)
 replace HB := Aside0.mk (below_drew1 HB.out)
 refine start_ (n := 10) (S := fun w' => w'.cell? ⟨gb164, 0, none⟩ = some (.int .u64 a1_0) ∧ w'.cell? ⟨gb164, 1, none⟩ = some (.int .u64 a1_1)) (ds := []) #[false, false, false, false, false, false, false, false, false, false] (by kernel_rfl) rfl rfl (cf2c BK164) (fun hHeld => ?_); refine with_tabW fd_distance.tab1 fd_distance.bits1 (fun HT_ HW_ => ?_)
 generalize w6.drew = w7 at BK164 HB hHeld ⊢
 refine pu 0 11 HT_ ?_
 refine pu 1 12 HT_ ?_
 refine pu 4 15 HT_ ?_
 refine pu 5 16 HT_ ?_
 refine tk 2 13 HT_ HW_ hHeld ?_
 refine tk 6 17 HT_ HW_ hHeld ?_
 refine on 3 14 HT_ (fun K hK => ?_)
 refine gsc Tryz.func100 (fd_size.calls a0 a1_0 t165 _ A3.out) (fun w8 hb => ?_)
 replace BK164 := bkb BK164 hb
 replace HB := bls HB hb
 (try clear hb)
 (try clear hb2)
 (try clear hk)
 (try clear hi)
 refine hK.out _ _ (cf2c BK164) (fun hHeld => ?_)
 clear hK K
 refine nm 14 ?_
 refine on 7 18 HT_ (fun K hK => ?_)
 refine gsc Tryz.func100 (fd_size.calls a0 a1_1 t166 _ A4.out) (fun w9 hb => ?_)
 replace BK164 := bkb BK164 hb
 replace HB := bls HB hb
 (try clear hb)
 (try clear hb2)
 (try clear hk)
 (try clear hi)
 refine hK.out _ _ (cf2c BK164) (fun hHeld => ?_)
 clear hK K
 refine nm 18 ?_
 refine pu 8 5 HT_ ?_
 refine pu 9 6 HT_ ?_
 refine done_ (done_of HT_.out (by kernel_rfl)) ?_
 go_upto_region 2 with (fail)
 go_cut [7] (fun v7 wc => ∃ (kq : Nat) (x7_4 : Bool), v7 = .bool x7_4 ∧ Aside0 (fd_distance.j0 kq a0 t165 t166 x7_4 = some r) ∧ Aside0 (kq ≤ k) ∧ Aside0 (wc.heap[gb164]? = some (.cells #[.int .u64 a1_0, .int .u64 a1_1] 74 (0, 0))) ∧ Aside0 (Below w.heap.size w wc))
 case first =>
  have H := HC5.out
  clear HC5
  replace H := Option.bind_eq_some_iff.mp H
  obtain ⟨t167, A10, H⟩ := H
  try dsimp only at H
  replace A10 := Aside0.mk A10
  by_cases c11 : t167 = 2
  ·rw [if_pos c11] at H
   have c11b0 : (t167 == 2) = true := beq_iff_eq.mpr c11
   have c11b1 : (t167 != 2) = false := bne_eq_false_iff_eq.mpr c11
   clear c11
   (first | rw [c11b0] | (simp only [i64_w, i32_w]; rw [c11b0]) | skip)
   have H' := Aside0.mk H
   clear H
   go_wp2_with (first | ((with_reducible refine gate_callee (f := 119) rfl ?_); refine gLc 21 Tryz.func119 (fd_kind.calls a0 t165 t167 _ A10.out) (fun w12 hb => ?_); replace BK164 := bkb BK164 hb; replace HB := bls HB hb; clear hb))
   go_meet
   case rel => exact ⟨_, (true), (by first | rfl | (simp; done) | (simp [*]; done)), H', ⟨by first | omega | exact Nat.le_refl _⟩, bks BK164, blt HB⟩
  ·rw [if_neg c11] at H
   have c11b0 : (t167 == 2) = false := beq_eq_false_iff_ne.mpr c11
   have c11b1 : (t167 != 2) = true := bne_iff_ne.mpr c11
   (first | rw [c11b0] | (simp only [i64_w, i32_w]; rw [c11b0]) | skip)
   replace H := Option.bind_eq_some_iff.mp H
   obtain ⟨t168, A13, H⟩ := H
   try dsimp only at H
   replace A13 := Aside0.mk A13
   have H' := Aside0.mk H
   clear H
   go_wp2_with (first | ((with_reducible refine gate_callee (f := 119) rfl ?_); refine gLc 21 Tryz.func119 (fd_kind.calls a0 t165 t167 _ A10.out) (fun w14 hb => ?_); replace BK164 := bkb BK164 hb; replace HB := bls HB hb; clear hb) | (go_at_call 119; (with_reducible refine (fd_kind.calls a0 t166 t168 _ A13.out).mono ?_); rintro e w15 ⟨rfl, hb⟩; replace BK164 := bkb BK164 hb; replace HB := bls HB hb; clear hb))
   go_meet
   case rel => exact ⟨_, ((t168 == 2)), (by first | rfl | (simp; done) | (simp [*]; done)), H', ⟨by first | omega | exact Nat.le_refl _⟩, bks BK164, blt HB⟩
 case rest =>
  clear HC5
  try clear c1
  try clear p2
  try clear c7
  try clear c10
  try clear c11
  try clear c11b0
  try clear c11b1
  obtain ⟨kq, x7_4, rfl, HA, HJ4, BK164, HB⟩ := hcut
  cases kq with
  | zero => exact absurd HA.out (by simp [fd_distance.j0])
  | succ kj4 =>
   have H := HA.out
   clear HA
   simp only [fd_distance.j0] at H
   replace H := Option.bind_eq_some_iff.mp H
   obtain ⟨t169, A16, H⟩ := H
   try dsimp only at H
   replace A16 := Aside0.mk A16
   replace H := Option.bind_eq_some_iff.mp H
   obtain ⟨t170, A17, H⟩ := H
   try dsimp only at H
   replace A17 := Aside0.mk A17
   have HC18 := Aside0.mk H
   clear H
   go_upto_if 37 with (first | ((with_reducible refine gate_callee (f := 120) rfl ?_); refine gLc 32 Tryz.func120 (fd_operation.calls a0 6 t165 t166 t169 _ A16.out) (fun w19 hb => ?_); replace BK164 := bkb BK164 hb; replace HB := bls HB hb; clear hb) | ((with_reducible refine gate_callee (f := 120) rfl ?_); refine gLc 36 Tryz.func120 (fd_operation.calls a0 5 t165 t166 t170 _ A17.out) (fun w20 hb => ?_); replace BK164 := bkb BK164 hb; replace HB := bls HB hb; clear hb))
   (try simp only [Act.put, List.setIfInBounds_toArray, List.set_cons_zero, List.set_cons_succ])
   go_cut [37] (fun v37 wc => ∃ (kq : Nat) (x37_17 : Bool), v37 = .bool x37_17 ∧ Aside0 (fd_distance.j1 kq a0 t165 t166 t169 t170 x37_17 = some r) ∧ Aside0 (kq ≤ kj4) ∧ Aside0 (wc.heap[gb164]? = some (.cells #[.int .u64 a1_0, .int .u64 a1_1] 74 (0, 0))) ∧ Aside0 (Below w.heap.size w wc))
   case first =>
    have H := HC18.out
    clear HC18
    by_cases c21 : x7_4 = true
    ·subst c21
     rw [if_pos rfl] at H
     have H' := Aside0.mk H
     clear H
     go_wp2
     go_meet
     case rel => exact ⟨_, (true), (by first | rfl | (simp; done) | (simp [*]; done)), H', ⟨by have := HJ4.out; first | omega | exact Nat.le_refl _⟩, bks BK164, blt HB⟩
    ·replace c21 := Bool.eq_false_iff.mpr c21
     subst c21
     rw [if_neg (show ¬ (false = true) by decide)] at H
     replace H := Option.bind_eq_some_iff.mp H
     obtain ⟨t171, A22, H⟩ := H
     try dsimp only at H
     replace A22 := Aside0.mk A22
     by_cases c23 : t171 = 0
     ·rw [if_pos c23] at H
      have c23b0 : (t171 == 0) = true := beq_iff_eq.mpr c23
      have c23b1 : (t171 != 0) = false := bne_eq_false_iff_eq.mpr c23
      clear c23
      (first | rw [c23b0] | (simp only [i64_w, i32_w]; rw [c23b0]) | skip)
      replace H := Option.bind_eq_some_iff.mp H
      obtain ⟨t172, A24, H⟩ := H
      try dsimp only at H
      replace A24 := Aside0.mk A24
      replace H := Option.bind_eq_some_iff.mp H
      obtain ⟨t173, A25, H⟩ := H
      try dsimp only at H
      replace A25 := Aside0.mk A25
      have H' := Aside0.mk H
      clear H
      go_wp2_with (first | ((with_reducible refine gate_callee (f := 119) rfl ?_); refine gLc 41 Tryz.func119 (fd_kind.calls a0 t169 t171 _ A22.out) (fun w26 hb => ?_); replace BK164 := bkb BK164 hb; replace HB := bls HB hb; clear hb) | (go_at_call 119; (with_reducible refine (fd_kind.calls a0 t165 t172 _ A24.out).mono ?_); rintro e w27 ⟨rfl, hb⟩; replace BK164 := bkb BK164 hb; replace HB := bls HB hb; clear hb) | (go_at_call 119; (with_reducible refine (fd_kind.calls a0 t166 t173 _ A25.out).mono ?_); rintro e w28 ⟨rfl, hb⟩; replace BK164 := bkb BK164 hb; replace HB := bls HB hb; clear hb))
      go_meet
      case rel => exact ⟨_, ((t172 == t173)), (by first | rfl | (simp; done) | (simp [*]; done)), H', ⟨by have := HJ4.out; first | omega | exact Nat.le_refl _⟩, bks BK164, blt HB⟩
     ·rw [if_neg c23] at H
      have c23b0 : (t171 == 0) = false := beq_eq_false_iff_ne.mpr c23
      have c23b1 : (t171 != 0) = true := bne_iff_ne.mpr c23
      (first | rw [c23b0] | (simp only [i64_w, i32_w]; rw [c23b0]) | skip)
      have H' := Aside0.mk H
      clear H
      go_wp2_with (first | ((with_reducible refine gate_callee (f := 119) rfl ?_); refine gLc 41 Tryz.func119 (fd_kind.calls a0 t169 t171 _ A22.out) (fun w29 hb => ?_); replace BK164 := bkb BK164 hb; replace HB := bls HB hb; clear hb))
      go_meet
      case rel => exact ⟨_, (false), (by first | rfl | (simp; done) | (simp [*]; done)), H', ⟨by have := HJ4.out; first | omega | exact Nat.le_refl _⟩, bks BK164, blt HB⟩
   case rest =>
    clear HC18
    try clear c1
    try clear c2
    try clear p2
    try clear c7
    try clear c10
    try clear c11
    try clear c11b0
    try clear c11b1
    try clear c12
    try clear c21
    try clear c23
    try clear c23b0
    try clear c23b1
    try clear p2
    obtain ⟨kq, x37_17, rfl, HA, HJ17, BK164, HB⟩ := hcut
    cases kq with
    | zero => exact absurd HA.out (by simp [fd_distance.j1])
    | succ kj17 =>
     have H := HA.out
     clear HA
     simp only [fd_distance.j1] at H
     by_cases c30 : x37_17 = true
     ·subst c30
      rw [if_pos rfl] at H
      obtain rfl := Option.some.inj H
      go_wp2
      go_ret
      exact fin_ (blt HB)
     ·replace c30 := Bool.eq_false_iff.mpr c30
      subst c30
      rw [if_neg (show ¬ (false = true) by decide)] at H
      replace H := Option.bind_eq_some_iff.mp H
      obtain ⟨t174, A31, H⟩ := H
      try dsimp only at H
      replace A31 := Aside0.mk A31
      by_cases c32 : t174 = 3
      ·rw [if_pos c32] at H
       have c32b0 : (t174 == 3) = true := beq_iff_eq.mpr c32
       have c32b1 : (t174 != 3) = false := bne_eq_false_iff_eq.mpr c32
       clear c32
       obtain rfl := Option.some.inj H
       go_wp2_with (first | ((with_reducible refine gate_callee (f := 119) rfl ?_); refine gLc 56 Tryz.func119 (fd_kind.calls a0 t165 t174 _ A31.out) (fun w33 hb => ?_); replace BK164 := bkb BK164 hb; replace HB := bls HB hb; clear hb))
       go_ret
       exact fin_ (blt HB)
      ·rw [if_neg c32] at H
       have c32b0 : (t174 == 3) = false := beq_eq_false_iff_ne.mpr c32
       have c32b1 : (t174 != 3) = true := bne_iff_ne.mpr c32
       replace H := Option.bind_eq_some_iff.mp H
       obtain ⟨t175, A34, H⟩ := H
       try dsimp only at H
       replace A34 := Aside0.mk A34
       by_cases c35 : t175 = 3
       ·rw [if_pos c35] at H
        have c35b0 : (t175 == 3) = true := beq_iff_eq.mpr c35
        have c35b1 : (t175 != 3) = false := bne_eq_false_iff_eq.mpr c35
        clear c35
        obtain rfl := Option.some.inj H
        go_wp2_with (first | ((with_reducible refine gate_callee (f := 119) rfl ?_); refine gLc 56 Tryz.func119 (fd_kind.calls a0 t165 t174 _ A31.out) (fun w36 hb => ?_); replace BK164 := bkb BK164 hb; replace HB := bls HB hb; clear hb) | ((with_reducible refine gate_callee (f := 119) rfl ?_); refine gLc 62 Tryz.func119 (fd_kind.calls a0 t166 t175 _ A34.out) (fun w37 hb => ?_); replace BK164 := bkb BK164 hb; replace HB := bls HB hb; clear hb))
        go_ret
        exact fin_ (blt HB)
       ·rw [if_neg c35] at H
        have c35b0 : (t175 == 3) = false := beq_eq_false_iff_ne.mpr c35
        have c35b1 : (t175 != 3) = true := bne_iff_ne.mpr c35
        replace H := Option.bind_eq_some_iff.mp H
        obtain ⟨t176, A38, H⟩ := H
        try dsimp only at H
        replace A38 := Aside0.mk A38
        replace H := Option.bind_eq_some_iff.mp H
        obtain ⟨t177, A39, H⟩ := H
        try dsimp only at H
        replace A39 := Aside0.mk A39
        replace H := Option.bind_eq_some_iff.mp H
        obtain ⟨t178, A40, H⟩ := H
        try dsimp only at H
        replace A40 := Aside0.mk A40
        replace H := Option.bind_eq_some_iff.mp H
        obtain ⟨t179, A41, H⟩ := H
        try dsimp only at H
        replace A41 := Aside0.mk A41
        replace H := Option.bind_eq_some_iff.mp H
        obtain ⟨t180, A42, H⟩ := H
        try dsimp only at H
        replace A42 := Aside0.mk A42
        replace H := Option.bind_eq_some_iff.mp H
        obtain ⟨t181, A43, H⟩ := H
        try dsimp only at H
        replace A43 := Aside0.mk A43
        obtain rfl := Option.some.inj H
        go_wp2_with (first | ((with_reducible refine gate_callee (f := 119) rfl ?_); refine gLc 56 Tryz.func119 (fd_kind.calls a0 t165 t174 _ A31.out) (fun w44 hb => ?_); replace BK164 := bkb BK164 hb; replace HB := bls HB hb; clear hb) | ((with_reducible refine gate_callee (f := 119) rfl ?_); refine gLc 62 Tryz.func119 (fd_kind.calls a0 t166 t175 _ A34.out) (fun w45 hb => ?_); replace BK164 := bkb BK164 hb; replace HB := bls HB hb; clear hb) | ((with_reducible refine gate_callee (f := 101) rfl ?_); refine gLc 68 Tryz.func101 (fd_div.calls a0 t170 t169 t176 _ A38.out) (fun w46 hb => ?_); replace BK164 := bkb BK164 hb; replace HB := bls HB hb; clear hb) | ((with_reducible refine gate_callee (f := 111) rfl ?_); refine gLc 74 Tryz.func111 (fd_one.calls a0 t177 _ A39.out) (fun w47 hb => ?_); replace BK164 := bkb BK164 hb; replace HB := bls HB hb; clear hb) | ((with_reducible refine gate_callee (f := 99) rfl ?_); refine gLc 78 Tryz.func99 (fd_mul.calls a0 t176 t176 t178 _ A40.out) (fun w48 hb => ?_); replace BK164 := bkb BK164 hb; replace HB := bls HB hb; clear hb) | ((with_reducible refine gate_callee (f := 97) rfl ?_); refine gLc 79 Tryz.func97 (fd_add.calls a0 t177 t178 t179 _ A41.out) (fun w49 hb => ?_); replace BK164 := bkb BK164 hb; replace HB := bls HB hb; clear hb) | ((with_reducible refine gate_callee (f := 121) rfl ?_); refine gLc 80 Tryz.func121 (fd_root.calls a0 t179 t180 _ A42.out) (fun w50 hb => ?_); replace BK164 := bkb BK164 hb; replace HB := bls HB hb; clear hb) | ((with_reducible refine gate_callee (f := 99) rfl ?_); refine gLc 81 Tryz.func99 (fd_mul.calls a0 t169 t180 t181 _ A43.out) (fun w51 hb => ?_); replace BK164 := bkb BK164 hb; replace HB := bls HB hb; clear hb))
        go_ret
        exact fin_ (blt HB)
def fd_half.f (a0 : Int) : Option (Int) := (fd_one.f a0).bind fun t182 => ((rl_ScaledBy.f a0 t182 (-1)).bind fun bt183 => (some bt183.1))
set_option maxHeartbeats 8000000 in
set_option maxRecDepth 100000 in
theorem fd_half.calls (a0 : Int) (r : Int) (w : World) (h : fd_half.f a0 = some r) :
  Calls Tryz.prog 123 #[.int .i64 a0] w fun e w' => e = .returned (.int .u64 r) ∧ Below w.heap.size w w' := by
 have HB := Aside0.mk (Below.refl w.heap.size w)
 have H : ((fd_one.f a0).bind fun t182 => ((rl_ScaledBy.f a0 t182 (-1)).bind fun bt183 => (some bt183.1))) = some r := h
 clear h
 replace H := Option.bind_eq_some_iff.mp H
 obtain ⟨t182, A2, H⟩ := H
 try dsimp only at H
 replace A2 := Aside0.mk A2
 replace H := Option.bind_eq_some_iff.mp H
 obtain ⟨⟨t183, t184⟩, A3, H⟩ := H
 try dsimp only at H
 replace A3 := Aside0.mk A3
 obtain rfl := Option.some.inj H
 go_enter Tryz.func123, Tryz.ntmps123
 go_wp2_with (first | ((with_reducible refine gate_callee (f := 111) rfl ?_); refine gLc 8 Tryz.func111 (fd_one.calls a0 t182 _ A2.out) (fun w4 hb => ?_); replace HB := bls HB hb; clear hb) | ((with_reducible refine gate_callee (f := 145) rfl ?_); refine gLc 9 Tryz.func145 (rl_ScaledBy.calls a0 t182 (-1) t183 t184 _ A3.out) (fun w5 hb => ?_); replace HB := bls HB hb; clear hb))
 go_ret
 exact fin_ (blt HB)
end Go.Proofs.YtmoimcblmmcffaaGreat.PPC

namespace Go.Proofs.YtmoimcblmmcffaaGreat.PPC
open Go.RowKit Go.Proofs.YtmoimcblmmcffaaGreatW.PrintWords Go.Proofs.YtmoimcblmmcffaaGreatW.PrintLast Go.Proofs.YtmoimcblmmcffaaGreatW.PrintMore Go.Proofs.YtmoimcblmmcffaaGreatW.PrintZ
attribute [local go_sem] max2_int min2_int max_two min_two max_three min_three max_four min_four   -- for this text's walks alone
set_option linter.unusedVariables false
set_option linter.unusedSimpArgs false
def fd_negated.f (a0 : Int) (a1 : Int) : Option (Int) := (rl_Negated.f a0 a1).bind fun bt204 => (some bt204.1)
set_option maxHeartbeats 8000000 in
set_option maxRecDepth 100000 in
theorem fd_negated.calls (a0 : Int) (a1 : Int) (r : Int) (w : World) (h : fd_negated.f a0 a1 = some r) :
  Calls Tryz.prog 81 #[.int .i64 a0, .int .u64 a1] w fun e w' => e = .returned (.int .u64 r) ∧ Below w.heap.size w w' := by
 have HB := Aside0.mk (Below.refl w.heap.size w)
 have H : ((rl_Negated.f a0 a1).bind fun bt204 => (some bt204.1)) = some r := h
 clear h
 replace H := Option.bind_eq_some_iff.mp H
 obtain ⟨⟨t204, t205⟩, A3, H⟩ := H
 try dsimp only at H
 replace A3 := Aside0.mk A3
 obtain rfl := Option.some.inj H
 go_enter Tryz.func81, Tryz.ntmps81
 go_wp2_with (first | ((with_reducible refine gate_callee (f := 122) rfl ?_); refine gLc 10 Tryz.func122 (rl_Negated.calls a0 a1 t204 t205 _ A3.out) (fun w4 hb => ?_); replace HB := bls HB hb; clear hb))
 go_ret
 exact fin_ (blt HB)
def fd_conjugate.f (a0 : Int) (a1_0 : Int) (a1_1 : Int) : Option (Int × Int) := (fd_negated.f a0 a1_1).bind fun t208 => (some (a1_0, t208))
def fd_conjugate.T1 : Bool × List (List Nat × List Nat) := (true, [([], []), ([0], [0]), ([], []), ([], []), ([3], [3]), ([2, 4], [2, 4]), ([1, 5], [1, 5]), ([6, 5, 0, 1, 2, 3, 4, 5, 6], [6])])
def fd_conjugate.B1 : List Nat := [0, 1, 0, 0, 8, 28, 63, 127]
theorem fd_conjugate.tab1 : rtab .any (opsOf Tryz.f78 1) = fd_conjugate.T1 := by kernel_rfl
theorem fd_conjugate.bits1 : waitsOk fd_conjugate.T1.2 fd_conjugate.B1 = true := by kernel_rfl
set_option maxHeartbeats 8000000 in
set_option maxRecDepth 100000 in
theorem fd_conjugate.calls (a0 : Int) (a1_0 : Int) (a1_1 : Int) (r1 : Int) (r2 : Int) (w : World) (h : fd_conjugate.f a0 a1_0 a1_1 = some (r1, r2)) :
  Calls Tryz.prog 78 #[.int .i64 a0, .agg #[.int .u64 a1_0, .int .u64 a1_1]] w fun e w' => e = .returned (.agg #[.int .u64 r1, .int .u64 r2]) ∧ Below w.heap.size w w' := by
 have hu74 := Tryz.underlying74
 have HB := Aside0.mk (Below.refl w.heap.size w)
 have H : ((fd_negated.f a0 a1_1).bind fun t208 => (some (a1_0, t208))) = some (r1, r2) := h
 clear h
 replace H := Option.bind_eq_some_iff.mp H
 obtain ⟨t208, A3, H⟩ := H
 try dsimp only at H
 replace A3 := Aside0.mk A3
 simp only [Option.some.injEq, Prod.mk.injEq] at H
 obtain ⟨rfl, rfl⟩ := H
 go_enter Tryz.func78, Tryz.ntmps78
 try go_wp2_with (first | ((with_reducible refine gate_dst (N := 3) rfl ?_); refine bxe 3 (cs := #[.int .u64 a1_0, .int .u64 a1_1]) (t := 74) ?_; intro gb206 hg w4 hbox hb; have BK206 := Aside0.mk hbox; have GW206 := bsz HB hg; have GE206 := bsz HB hg; replace HB := bls HB hb; clear hb hbox hg) | ((with_reducible refine gate_dst (N := 4) rfl ?_); refine bxe 4 (cs := #[.int .u64 0, .int .u64 0]) (t := 74) ?_; intro gb207 hg w5 hbox hb; have BK207 := Aside0.mk hbox; have GW207 := bsz HB hg; have GE207 := bsz HB hg; have NB206_207 := bnl BK206 hg; have NB207_206 := bng BK206 hg; replace BK206 := bkb BK206 hb; replace HB := bls HB hb; clear hb hbox hg))
 replace BK206 := Aside0.mk (blk_drew BK206.out)
 replace BK207 := Aside0.mk (blk_drew BK207.out)
 replace HB := Aside0.mk (below_drew1 HB.out)
 refine start_ (n := 8) (S := fun w' => w'.cell? ⟨gb206, 0, none⟩ = some (.int .u64 a1_0) ∧ w'.cell? ⟨gb206, 1, none⟩ = some (.int .u64 a1_1)) (ds := []) #[false, false, false, false, false, false, false, false] (by kernel_rfl) rfl rfl (cf2c BK206) (fun hHeld => ?_); refine with_tabW fd_conjugate.tab1 fd_conjugate.bits1 (fun HT_ HW_ => ?_)
 generalize w5.drew = w6 at BK206 BK207 HB hHeld ⊢
 refine pu 0 5 HT_ ?_
 refine pu 2 7 HT_ ?_
 refine pu 3 8 HT_ ?_
 refine tk 1 6 HT_ HW_ hHeld ?_
 refine tk 4 9 HT_ HW_ hHeld ?_
 refine on 5 10 HT_ (fun K hK => ?_)
 refine gsc Tryz.func81 (fd_negated.calls a0 a1_1 t208 _ A3.out) (fun w7 hb => ?_)
 replace BK206 := bkb BK206 hb
 replace BK207 := bkb BK207 hb
 replace HB := bls HB hb
 (try clear hb)
 (try clear hb2)
 (try clear hk)
 (try clear hi)
 refine hK.out _ _ (cf2c BK206) (fun hHeld => ?_)
 clear hK K
 refine nm 10 ?_
 refine pu 6 11 HT_ ?_
 refine one_ (i := 7) (N := none) #[true, true, true, true, true, true, true, true] rfl rfl (one_of HT_.out (by kernel_rfl)) (by decide) (fun K hK => ?_)
 have hs8 : w7.cell? ⟨gb207, 0, none⟩ = some (.int .u64 0) := (blk_cell BK207.out 0).trans rfl
 have hfs8 := blk_frozen BK207.out 0
 have hns8_0 := NB206_207.out
 have hms8_0 := NB207_206.out
 have hs9 : w7.cell? ⟨gb207, 1, none⟩ = some (.int .u64 0) := (blk_cell BK207.out 1).trans rfl
 have hfs9 := blk_frozen BK207.out 1
 have hns9_0 := NB206_207.out
 have hms9_0 := NB207_206.out
 refine skip_ (w1 := ?_) (by rfl) rfl ?_ ?_
 rotate_left
 ·go_simp
  rfl
 refine hK.out _ _ ⟨((cell_far (p := ⟨gb207, _, none⟩) NB206_207.out _).trans (((cell_far (p := ⟨gb207, _, none⟩) NB206_207.out _).trans (hHeld.1)))), ((cell_far (p := ⟨gb207, _, none⟩) NB206_207.out _).trans (((cell_far (p := ⟨gb207, _, none⟩) NB206_207.out _).trans (hHeld.2))))⟩ (fun hHeld => ?_)
 clear hK K
 refine done_ (done_of HT_.out (by kernel_rfl)) ?_
 try go_wp2
 refine bodyPost_ret (results_cell_row rfl _ _ gb207 74 #[.int .u64 a1_0, .int .u64 t208] (0, 0) _ rfl (by (with_reducible repeat (first | refine blk_drewN ?_ _ | refine blk_drew ?_ | refine blk_alloc ?_ _)); apply bp2; (with_reducible repeat (first | refine blk_drewN ?_ _ | refine blk_drew ?_ | refine blk_alloc ?_ _)); exact BK207.out) Tryz.underlying74 rfl (by kernel_rfl)) rfl ?_
 exact fin_ (blt HB)
def fd_value.f (a0 : Int) (a1_0 : Int) (a1_1 : Int) : Option (Int × Int × Int × ByteArray) := if a0 = 2 then (some (4, a1_0, a1_1, (⟨#[]⟩ : ByteArray))) else (some (3, a1_0, a1_1, (⟨#[]⟩ : ByteArray)))
set_option maxHeartbeats 8000000 in
set_option maxRecDepth 100000 in
theorem fd_value.calls (a0 : Int) (a1_0 : Int) (a1_1 : Int) (r1 : Int) (r2 : Int) (r3 : Int) (r4 : ByteArray) (w : World) (h : fd_value.f a0 a1_0 a1_1 = some (r1, r2, r3, r4)) :
  Calls Tryz.prog 57 #[.int .i64 a0, .agg #[.int .u64 a1_0, .int .u64 a1_1]] w fun e w' => e = .returned (.agg #[.int .i64 r1, .int .u64 r2, .int .u64 r3, .string r4]) ∧ Below w.heap.size w w' := by
 have hu74 := Tryz.underlying74
 have hu24 := Tryz.underlying24
 have HB := Aside0.mk (Below.refl w.heap.size w)
 have H : (if a0 = 2 then (some (4, a1_0, a1_1, (⟨#[]⟩ : ByteArray))) else (some (3, a1_0, a1_1, (⟨#[]⟩ : ByteArray)))) = some (r1, r2, r3, r4) := h
 clear h
 by_cases c3 : a0 = 2
 ·rw [if_pos c3] at H
  have c3b0 : (a0 == 2) = true := beq_iff_eq.mpr c3
  have c3b1 : (a0 != 2) = false := bne_eq_false_iff_eq.mpr c3
  clear c3
  simp only [Option.some.injEq, Prod.mk.injEq] at H
  obtain ⟨rfl, rfl, rfl, rfl⟩ := H
  go_enter Tryz.func57, Tryz.ntmps57
  go_wp2_with (first | ((with_reducible refine gate_dst (N := 3) rfl ?_); refine bxe 3 (cs := #[.int .u64 a1_0, .int .u64 a1_1]) (t := 74) ?_; intro gb209 hg w4 hbox hb; have BK209 := Aside0.mk hbox; have GW209 := bsz HB hg; have GE209 := bsz HB hg; replace HB := bls HB hb; clear hb hbox hg) | ((with_reducible refine gate_dst (N := 4) rfl ?_); refine bxe 4 (cs := #[.int .i64 0, .int .u64 0, .int .u64 0, .string (⟨#[]⟩ : ByteArray)]) (t := 24) ?_; intro gb210 hg w5 hbox hb; have BK210 := Aside0.mk hbox; have GW210 := bsz HB hg; have GE210 := bsz HB hg; have NB209_210 := bnl BK209 hg; have NB210_209 := bng BK209 hg; replace BK209 := bkb BK209 hb; replace HB := bls HB hb; clear hb hbox hg; have hnb6 := NB209_210.out; have hnc6 := NB210_209.out; obtain ⟨hcz7_0, hcz7_1, hfz7_0, hfz7_1⟩ := cf2 BK209; obtain ⟨hcz8_0, hcz8_1, hcz8_2, hcz8_3, hfz8_0, hfz8_1, hfz8_2, hfz8_3⟩ := cf4 BK210))
  refine bodyPost_ret (results_cell_row rfl _ _ gb210 24 #[.int .i64 4, .int .u64 a1_0, .int .u64 a1_1, .string (⟨#[]⟩ : ByteArray)] (0, 0) _ rfl (by (with_reducible repeat (first | refine blk_drewN ?_ _ | refine blk_drew ?_ | refine blk_alloc ?_ _)); apply bp4; (with_reducible repeat (first | refine blk_drewN ?_ _ | refine blk_drew ?_ | refine blk_alloc ?_ _)); exact BK210.out) Tryz.underlying24 rfl (by kernel_rfl)) rfl ?_
  exact fin_ (blt HB)
 ·rw [if_neg c3] at H
  have c3b0 : (a0 == 2) = false := beq_eq_false_iff_ne.mpr c3
  have c3b1 : (a0 != 2) = true := bne_iff_ne.mpr c3
  simp only [Option.some.injEq, Prod.mk.injEq] at H
  obtain ⟨rfl, rfl, rfl, rfl⟩ := H
  go_enter Tryz.func57, Tryz.ntmps57
  go_wp2_with (first | ((with_reducible refine gate_dst (N := 3) rfl ?_); refine bxe 3 (cs := #[.int .u64 a1_0, .int .u64 a1_1]) (t := 74) ?_; intro gb209 hg w9 hbox hb; have BK209 := Aside0.mk hbox; have GW209 := bsz HB hg; have GE209 := bsz HB hg; replace HB := bls HB hb; clear hb hbox hg) | ((with_reducible refine gate_dst (N := 4) rfl ?_); refine bxe 4 (cs := #[.int .i64 0, .int .u64 0, .int .u64 0, .string (⟨#[]⟩ : ByteArray)]) (t := 24) ?_; intro gb210 hg w10 hbox hb; have BK210 := Aside0.mk hbox; have GW210 := bsz HB hg; have GE210 := bsz HB hg; have NB209_210 := bnl BK209 hg; have NB210_209 := bng BK209 hg; replace BK209 := bkb BK209 hb; replace HB := bls HB hb; clear hb hbox hg; have hnb11 := NB209_210.out; have hnc11 := NB210_209.out; obtain ⟨hcz12_0, hcz12_1, hfz12_0, hfz12_1⟩ := cf2 BK209; obtain ⟨hcz13_0, hcz13_1, hcz13_2, hcz13_3, hfz13_0, hfz13_1, hfz13_2, hfz13_3⟩ := cf4 BK210))
  refine bodyPost_ret (results_cell_row rfl _ _ gb210 24 #[.int .i64 3, .int .u64 a1_0, .int .u64 a1_1, .string (⟨#[]⟩ : ByteArray)] (0, 0) _ rfl (by (with_reducible repeat (first | refine blk_drewN ?_ _ | refine blk_drew ?_ | refine blk_alloc ?_ _)); apply bp4; (with_reducible repeat (first | refine blk_drewN ?_ _ | refine blk_drew ?_ | refine blk_alloc ?_ _)); exact BK210.out) Tryz.underlying24 rfl (by kernel_rfl)) rfl ?_
  exact fin_ (blt HB)
def fd_power.l0 : Nat → Int → Int → Int → Int → Int → Int → Int → Int → Int → Int → Option (Int × Int)
 | 0, _, _, _, _, _, _, _, _, _, _ => none
 | k + 1, x0, x2, x9, x10, x212000, x212001, x215000, x215001, x216000, x216001 => if x10 = 0 then (if x2 < 0 then ((fd_over.f x0 x215000 x215001 x216000 x216001).bind fun bt216 => (some (bt216.1, bt216.2))) else (some (x216000, x216001))) else (if x10 > x9 then (fd_power.l0 k x0 x2 x9 (x10 / 2) x212000 x212001 x215000 x215001 x216000 x216001) else ((fd_times.f x0 x216000 x216001 x216000 x216001).bind fun bt218 => (if (Go.bits .and .u64 x9 x10) = 0 then (fd_power.l0 k x0 x2 x9 (x10 / 2) x212000 x212001 x215000 x215001 bt218.1 bt218.2) else ((fd_times.f x0 bt218.1 bt218.2 x212000 x212001).bind fun bt220 => (fd_power.l0 k x0 x2 x9 (x10 / 2) x212000 x212001 x215000 x215001 bt220.1 bt220.2)))))
def fd_power.f (k : Nat) (a0 : Int) (a1_0 : Int) (a1_1 : Int) (a2 : Int) : Option (Int × Int) := (fd_one.f a0).bind fun t213 => (fd_power.l0 k a0 a2 (IntKind.u64.wrap (mx a2 (wrap64 (-a2)))) 2147483648 a1_0 a1_1 t213 0 t213 0)
set_option maxHeartbeats 8000000 in
set_option maxRecDepth 100000 in
theorem fd_power.calls (k : Nat) (a0 : Int) (a1_0 : Int) (a1_1 : Int) (a2 : Int) (r1 : Int) (r2 : Int) (w : World) (h : fd_power.f k a0 a1_0 a1_1 a2 = some (r1, r2)) :
  Calls Tryz.prog 73 #[.int .i64 a0, .agg #[.int .u64 a1_0, .int .u64 a1_1], .int .i64 a2] w fun e w' => e = .returned (.agg #[.int .u64 r1, .int .u64 r2]) ∧ Below w.heap.size w w' := by
 have hu74 := Tryz.underlying74
 have HB := Aside0.mk (Below.refl w.heap.size w)
 have H : ((fd_one.f a0).bind fun t213 => (fd_power.l0 k a0 a2 (IntKind.u64.wrap (mx a2 (wrap64 (-a2)))) 2147483648 a1_0 a1_1 t213 0 t213 0)) = some (r1, r2) := h
 clear h
 replace H := Option.bind_eq_some_iff.mp H
 obtain ⟨t213, A4, H⟩ := H
 try dsimp only at H
 replace A4 := Aside0.mk A4
 obtain ⟨ji5, hji5⟩ : ∃ j_ : Int, (mx a2 (wrap64 (-a2))) = j_ := ⟨_, rfl⟩
 replace H : (fd_power.l0 k a0 a2 (IntKind.u64.wrap (ji5)) 2147483648 a1_0 a1_1 t213 0 t213 0) = some (r1, r2) := by first | (rw [hji5] at H; exact H) | (simp only [hji5] at H ⊢; exact H)
 (try rw [hji5] at A4)
 have hji5_ : (if a2 < (wrap64 (-a2)) then (wrap64 (-a2)) else a2) = ji5 := hji5
 have H' := Aside0.mk H
 clear H
 go_enter Tryz.func73, Tryz.ntmps73
 go_wp2_with (first | ((with_reducible refine gate_dst (N := 4) rfl ?_); refine bxe 4 (cs := #[.int .u64 a1_0, .int .u64 a1_1]) (t := 74) ?_; intro gb211 hg w6 hbox hb; have BK211 := Aside0.mk hbox; have GW211 := bsz HB hg; have GE211 := bsz HB hg; replace HB := bls HB hb; clear hb hbox hg) | ((with_reducible refine gate_dst (N := 6) rfl ?_); refine bxe 6 (cs := #[.int .u64 0, .int .u64 0]) (t := 74) ?_; intro gb212 hg w7 hbox hb; have BK212 := Aside0.mk hbox; have GW212 := bsz HB hg; have GE212 := bsz HB hg; have NB211_212 := bnl BK211 hg; have NB212_211 := bng BK211 hg; replace BK211 := bkb BK211 hb; replace HB := bls HB hb; clear hb hbox hg) | ((with_reducible refine gate_callee (f := 111) rfl ?_); refine gLc 12 Tryz.func111 (fd_one.calls a0 t213 _ A4.out) (fun w8 hb => ?_); replace BK211 := bkb BK211 hb; replace BK212 := bkb BK212 hb; replace HB := bls HB hb; clear hb) | ((with_reducible refine gate_dst (N := 7) rfl ?_); refine bxe 7 (cs := #[.int .u64 0, .int .u64 0]) (t := 74) ?_; intro gb214 hg w9 hbox hb; have BK214 := Aside0.mk hbox; have GW214 := bsz HB hg; have GE214 := bsz HB hg; have NB211_214 := bnl BK211 hg; have NB214_211 := bng BK211 hg; have NB212_214 := bnl BK212 hg; have NB214_212 := bng BK212 hg; replace BK211 := bkb BK211 hb; replace BK212 := bkb BK212 hb; replace HB := bls HB hb; clear hb hbox hg; have hnb10 := NB214_211.out; have hnc10 := NB211_214.out; have hnb11 := NB214_212.out; have hnc11 := NB212_214.out; obtain ⟨hcz12_0, hcz12_1, hfz12_0, hfz12_1⟩ := cf2 BK214) | ((with_reducible refine gate_dst (N := 8) rfl ?_); refine bxe 8 (cs := #[.int .u64 0, .int .u64 0]) (t := 74) ?_; intro gb215 hg w13 hbox hb; have BK215 := Aside0.mk hbox; have GW215 := bsz HB hg; have GE215 := bsz HB hg; have NB211_215 := Aside0.mk ((by rw [hg]; exact Nat.ne_of_lt (blk_lt (g := gb211) (o := .cells #[.int .u64 a1_0, .int .u64 a1_1] 74 (0, 0)) (bkf BK211).out) : gb211 ≠ gb215)); have NB215_211 := Aside0.mk ((by rw [hg]; exact Nat.ne_of_gt (blk_lt (g := gb211) (o := .cells #[.int .u64 a1_0, .int .u64 a1_1] 74 (0, 0)) (bkf BK211).out) : gb215 ≠ gb211)); have NB212_215 := Aside0.mk ((by rw [hg]; exact Nat.ne_of_lt (blk_lt (g := gb212) (o := .cells #[.int .u64 0, .int .u64 0] 74 (0, 0)) (bkf BK212).out) : gb212 ≠ gb215)); have NB215_212 := Aside0.mk ((by rw [hg]; exact Nat.ne_of_gt (blk_lt (g := gb212) (o := .cells #[.int .u64 0, .int .u64 0] 74 (0, 0)) (bkf BK212).out) : gb215 ≠ gb212)); have NB214_215 := Aside0.mk ((by rw [hg]; exact Nat.ne_of_lt (blk_lt (g := gb214) (o := .cells #[.int .u64 t213, .int .u64 0] 74 (0, 0)) (by (with_reducible repeat (first | refine blk_drewN ?_ _ | refine blk_drew ?_ | refine blk_alloc ?_ _)); apply bp2; (with_reducible repeat (first | refine blk_drewN ?_ _ | refine blk_drew ?_ | refine blk_alloc ?_ _)); exact BK214.out)) : gb214 ≠ gb215)); have NB215_214 := Aside0.mk ((by rw [hg]; exact Nat.ne_of_gt (blk_lt (g := gb214) (o := .cells #[.int .u64 t213, .int .u64 0] 74 (0, 0)) (by (with_reducible repeat (first | refine blk_drewN ?_ _ | refine blk_drew ?_ | refine blk_alloc ?_ _)); apply bp2; (with_reducible repeat (first | refine blk_drewN ?_ _ | refine blk_drew ?_ | refine blk_alloc ?_ _)); exact BK214.out)) : gb215 ≠ gb214)); replace BK211 := bkfb BK211 hb; replace BK212 := bkfb BK212 hb; replace BK214 := Aside0.mk (blk_below (g := gb214) (o := .cells #[.int .u64 t213, .int .u64 0] 74 (0, 0)) (by (with_reducible repeat (first | refine blk_drewN ?_ _ | refine blk_drew ?_ | refine blk_alloc ?_ _)); apply bp2; (with_reducible repeat (first | refine blk_drewN ?_ _ | refine blk_drew ?_ | refine blk_alloc ?_ _)); exact BK214.out) hb); replace HB := bls HB hb; clear hb hbox hg; have hnb14 := NB215_211.out; have hnc14 := NB211_215.out; have hnb15 := NB215_212.out; have hnc15 := NB212_215.out; have hnb16 := NB215_214.out; have hnc16 := NB214_215.out; obtain ⟨hcz17_0, hcz17_1, hfz17_0, hfz17_1⟩ := cf2 BK215))
 go_loopg [10] k (fun kq v10 w' => ∃ (x10_1 : Int) (x216000_1 : Int) (x216001_1 : Int), v10 = .int .u64 x10_1 ∧ Aside0 (fd_power.l0 kq a0 a2 (IntKind.u64.wrap (ji5)) x10_1 a1_0 a1_1 t213 0 x216000_1 x216001_1 = some (r1, r2)) ∧ Aside0 (kq ≤ k) ∧ Aside0 (w'.heap[gb211]? = some (.cells #[.int .u64 a1_0, .int .u64 a1_1] 74 (0, 0))) ∧ Aside0 (w'.heap[gb212]? = some (.cells #[.int .u64 0, .int .u64 0] 74 (0, 0))) ∧ Aside0 (w'.heap[gb214]? = some (.cells #[.int .u64 t213, .int .u64 0] 74 (0, 0))) ∧ Aside0 (w'.heap[gb215]? = some (.cells #[.int .u64 x216000_1, .int .u64 x216001_1] 74 (0, 0))) ∧ Aside0 (Below w.heap.size w w'))
 case atStart => exact ⟨(2147483648), (t213), (0), (by first | rfl | (simp; done) | (simp [*]; done)), H', ⟨Nat.le_refl _⟩, bkf BK211, bkf BK212, bkf BK214, ⟨by (with_reducible repeat (first | refine blk_drewN ?_ _ | refine blk_drew ?_ | refine blk_alloc ?_ _)); apply bp2; (with_reducible repeat (first | refine blk_drewN ?_ _ | refine blk_drew ?_ | refine blk_alloc ?_ _)); exact BK215.out⟩, blt HB⟩
 case round =>
  clear H'
  try clear c1
  try clear p2
  try clear p6
  try clear c7
  try clear c10
  try clear c11
  try clear c14
  try clear c15
  try clear c16
  try clear hcz12_0
  try clear hcz12_1
  try clear hcz17_0
  try clear hcz17_1
  try clear hfz12_0
  try clear hfz12_1
  try clear hfz17_0
  try clear hfz17_1
  obtain ⟨x10_1, x216000_1, x216001_1, rfl, HA, HK1, BK211, BK212, BK214, BK215, HB⟩ := hrel
  cases gk with
  | zero => exact absurd HA.out (by simp [fd_power.l0])
  | succ k1 =>
   have H := HA.out
   clear HA
   simp only [fd_power.l0] at H
   by_cases c18 : x10_1 = 0
   ·rw [if_pos c18] at H
    have c18b0 : (x10_1 == 0) = true := beq_iff_eq.mpr c18
    have c18b1 : (x10_1 != 0) = false := bne_eq_false_iff_eq.mpr c18
    clear c18
    by_cases c19 : a2 < 0
    ·rw [if_pos c19] at H
     have c19b0 : decide (a2 < 0) = true := decide_eq_true c19
     clear c19
     replace H := Option.bind_eq_some_iff.mp H
     obtain ⟨⟨t216, t217⟩, A20, H⟩ := H
     try dsimp only at H
     replace A20 := Aside0.mk A20
     simp only [Option.some.injEq, Prod.mk.injEq] at H
     obtain ⟨rfl, rfl⟩ := H
     have hnb21 := NB214_211.out
     have hnc21 := NB211_214.out
     have hnb22 := NB214_212.out
     have hnc22 := NB212_214.out
     have hnb23 := NB214_215.out
     have hnc23 := NB215_214.out
     obtain ⟨hcz24_0, hcz24_1, hfz24_0, hfz24_1⟩ := cf2 BK214
     have hnb25 := NB215_211.out
     have hnc25 := NB211_215.out
     have hnb26 := NB215_212.out
     have hnc26 := NB212_215.out
     obtain ⟨hcz27_0, hcz27_1, hfz27_0, hfz27_1⟩ := cf2 BK215
     go_wp2_with (first | ((with_reducible refine gate_callee (f := 56) rfl ?_); refine gLc 44 Tryz.func56 (fd_over.calls a0 t213 0 x216000_1 x216001_1 t216 t217 _ A20.out) (fun w28 hb => ?_); replace BK211 := bkb BK211 hb; replace BK212 := bkb BK212 hb; replace BK214 := bkb BK214 hb; replace BK215 := bkb BK215 hb; replace HB := bls HB hb; clear hb; obtain ⟨hcz29_0, hcz29_1, hfz29_0, hfz29_1⟩ := cf2 BK215; have hnb30 := NB212_211.out; have hnc30 := NB211_212.out; obtain ⟨hcz31_0, hcz31_1, hfz31_0, hfz31_1⟩ := cf2 BK212))
     refine bodyPost_ret (results_cell_row rfl _ _ gb212 74 #[.int .u64 t216, .int .u64 t217] (0, 0) _ rfl (by (with_reducible repeat (first | refine blk_drewN ?_ _ | refine blk_drew ?_ | refine blk_alloc ?_ _)); apply bp2; (with_reducible repeat (first | refine blk_drewN ?_ _ | refine blk_drew ?_ | refine blk_alloc ?_ _)); refine blk_far ?_ NB212_215.out _; (with_reducible repeat (first | refine blk_drewN ?_ _ | refine blk_drew ?_ | refine blk_alloc ?_ _)); refine blk_far ?_ NB212_215.out _; (with_reducible repeat (first | refine blk_drewN ?_ _ | refine blk_drew ?_ | refine blk_alloc ?_ _)); exact BK212.out) Tryz.underlying74 rfl (by kernel_rfl)) rfl ?_
     exact ⟨by first | rfl | (simp [errW_none, errW_some] <;> rfl) | (simp only [← hji5]; first | rfl | (simp [errW_none, errW_some] <;> rfl)) | (simp [*, errW_none, errW_some] <;> rfl), (blt HB).out⟩
    ·rw [if_neg c19] at H
     have c19b0 : decide (a2 < 0) = false := decide_eq_false c19
     clear c19
     simp only [Option.some.injEq, Prod.mk.injEq] at H
     obtain ⟨rfl, rfl⟩ := H
     have hnb32 := NB215_211.out
     have hnc32 := NB211_215.out
     have hnb33 := NB215_212.out
     have hnc33 := NB212_215.out
     have hnb34 := NB215_214.out
     have hnc34 := NB214_215.out
     obtain ⟨hcz35_0, hcz35_1, hfz35_0, hfz35_1⟩ := cf2 BK215
     have hnb36 := NB212_211.out
     have hnc36 := NB211_212.out
     have hnb37 := NB212_214.out
     have hnc37 := NB214_212.out
     obtain ⟨hcz38_0, hcz38_1, hfz38_0, hfz38_1⟩ := cf2 BK212
     go_wp2
     refine bodyPost_ret (results_cell_row rfl _ _ gb212 74 #[.int .u64 x216000_1, .int .u64 x216001_1] (0, 0) _ rfl (by (with_reducible repeat (first | refine blk_drewN ?_ _ | refine blk_drew ?_ | refine blk_alloc ?_ _)); apply bp2; (with_reducible repeat (first | refine blk_drewN ?_ _ | refine blk_drew ?_ | refine blk_alloc ?_ _)); exact BK212.out) Tryz.underlying74 rfl (by kernel_rfl)) rfl ?_
     exact ⟨by first | rfl | (simp [errW_none, errW_some] <;> rfl) | (simp only [← hji5]; first | rfl | (simp [errW_none, errW_some] <;> rfl)) | (simp [*, errW_none, errW_some] <;> rfl), (blt HB).out⟩
   ·rw [if_neg c18] at H
    have c18b0 : (x10_1 == 0) = false := beq_eq_false_iff_ne.mpr c18
    have c18b1 : (x10_1 != 0) = true := bne_iff_ne.mpr c18
    by_cases c39 : x10_1 > (IntKind.u64.wrap (ji5))
    ·rw [if_pos c39] at H
     have c39b0 : decide ((IntKind.u64.wrap (ji5)) < x10_1) = true := decide_eq_true c39
     clear c39
     have H' := Aside0.mk H
     clear H
     go_wp2
     go_roundg k1
     case measure => have := HK1.out; omega
     case rel => exact ⟨(x10_1 / 2), (x216000_1), (x216001_1), (by first | rfl | (simp; done) | (simp [*]; done)), H', ⟨by have := HK1.out; omega⟩, bks BK211, bks BK212, bks BK214, bks BK215, blt HB⟩
    ·rw [if_neg c39] at H
     have c39b0 : decide ((IntKind.u64.wrap (ji5)) < x10_1) = false := decide_eq_false c39
     clear c39
     replace H := Option.bind_eq_some_iff.mp H
     obtain ⟨⟨t218, t219⟩, A40, H⟩ := H
     try dsimp only at H
     replace A40 := Aside0.mk A40
     by_cases c41 : (Go.bits .and .u64 (IntKind.u64.wrap (ji5)) x10_1) = 0
     ·rw [if_pos c41] at H
      have c41b0 : ((Go.bits .and .u64 (IntKind.u64.wrap (ji5)) x10_1) == 0) = true := beq_iff_eq.mpr c41
      have c41b1 : ((Go.bits .and .u64 (IntKind.u64.wrap (ji5)) x10_1) != 0) = false := bne_eq_false_iff_eq.mpr c41
      clear c41
      have H' := Aside0.mk H
      clear H
      have hnb42 := NB215_211.out
      have hnc42 := NB211_215.out
      have hnb43 := NB215_212.out
      have hnc43 := NB212_215.out
      have hnb44 := NB215_214.out
      have hnc44 := NB214_215.out
      obtain ⟨hcz45_0, hcz45_1, hfz45_0, hfz45_1⟩ := cf2 BK215
      go_wp2_with (first | ((with_reducible refine gate_callee (f := 55) rfl ?_); refine gLc 30 Tryz.func55 (fd_times.calls a0 x216000_1 x216001_1 x216000_1 x216001_1 t218 t219 _ A40.out) (fun w46 hb => ?_); replace BK211 := bkb BK211 hb; replace BK212 := bkb BK212 hb; replace BK214 := bkb BK214 hb; replace BK215 := bkb BK215 hb; replace HB := bls HB hb; clear hb; obtain ⟨hcz47_0, hcz47_1, hfz47_0, hfz47_1⟩ := cf2 BK215))
      go_roundg k1
      case measure => have := HK1.out; omega
      case rel => exact ⟨(x10_1 / 2), (t218), (t219), (by first | rfl | (simp; done) | (simp [*]; done)), H', ⟨by have := HK1.out; omega⟩, bkf BK211, bkf BK212, bkf BK214, ⟨by (with_reducible repeat (first | refine blk_drewN ?_ _ | refine blk_drew ?_ | refine blk_alloc ?_ _)); apply bp2; (with_reducible repeat (first | refine blk_drewN ?_ _ | refine blk_drew ?_ | refine blk_alloc ?_ _)); exact BK215.out⟩, blt HB⟩
     ·rw [if_neg c41] at H
      have c41b0 : ((Go.bits .and .u64 (IntKind.u64.wrap (ji5)) x10_1) == 0) = false := beq_eq_false_iff_ne.mpr c41
      have c41b1 : ((Go.bits .and .u64 (IntKind.u64.wrap (ji5)) x10_1) != 0) = true := bne_iff_ne.mpr c41
      replace H := Option.bind_eq_some_iff.mp H
      obtain ⟨⟨t220, t221⟩, A48, H⟩ := H
      try dsimp only at H
      replace A48 := Aside0.mk A48
      have H' := Aside0.mk H
      clear H
      have hnb49 := NB215_211.out
      have hnc49 := NB211_215.out
      have hnb50 := NB215_212.out
      have hnc50 := NB212_215.out
      have hnb51 := NB215_214.out
      have hnc51 := NB214_215.out
      obtain ⟨hcz52_0, hcz52_1, hfz52_0, hfz52_1⟩ := cf2 BK215
      go_wp2_with (first | ((with_reducible refine gate_callee (f := 55) rfl ?_); refine gLc 30 Tryz.func55 (fd_times.calls a0 x216000_1 x216001_1 x216000_1 x216001_1 t218 t219 _ A40.out) (fun w53 hb => ?_); replace BK211 := bkb BK211 hb; replace BK212 := bkb BK212 hb; replace BK214 := bkb BK214 hb; replace BK215 := bkb BK215 hb; replace HB := bls HB hb; clear hb; obtain ⟨hcz54_0, hcz54_1, hfz54_0, hfz54_1⟩ := cf2 BK215; have hnb55 := NB211_212.out; have hnc55 := NB212_211.out; have hnb56 := NB211_214.out; have hnc56 := NB214_211.out; obtain ⟨hcz57_0, hcz57_1, hfz57_0, hfz57_1⟩ := cf2 BK211) | ((with_reducible refine gate_callee (f := 55) rfl ?_); refine gLc 38 Tryz.func55 (fd_times.calls a0 t218 t219 a1_0 a1_1 t220 t221 _ A48.out) (fun w58 hb => ?_); replace BK211 := bkfb BK211 hb; replace BK212 := bkfb BK212 hb; replace BK214 := bkfb BK214 hb; replace BK215 := Aside0.mk (blk_below (g := gb215) (o := .cells #[.int .u64 t218, .int .u64 t219] 74 (0, 0)) (by (with_reducible repeat (first | refine blk_drewN ?_ _ | refine blk_drew ?_ | refine blk_alloc ?_ _)); apply bp2; (with_reducible repeat (first | refine blk_drewN ?_ _ | refine blk_drew ?_ | refine blk_alloc ?_ _)); exact BK215.out) hb); replace HB := bls HB hb; clear hb; obtain ⟨hcz59_0, hcz59_1, hfz59_0, hfz59_1⟩ := cf2 BK215))
      go_roundg k1
      case measure => have := HK1.out; omega
      case rel => exact ⟨(x10_1 / 2), (t220), (t221), (by first | rfl | (simp; done) | (simp [*]; done)), H', ⟨by have := HK1.out; omega⟩, bkf BK211, bkf BK212, bkf BK214, ⟨by (with_reducible repeat (first | refine blk_drewN ?_ _ | refine blk_drew ?_ | refine blk_alloc ?_ _)); apply bp2; (with_reducible repeat (first | refine blk_drewN ?_ _ | refine blk_drew ?_ | refine blk_alloc ?_ _)); exact BK215.out⟩, blt HB⟩


mutual
def cx_PowerOf.j0 : Nat → Int → Int → Int → Bool → Int → Int → Option (Int × Int × Int × ByteArray × Int)
 | 0, _, _, _, _, _, _ => none
 | k + 1, x1, x6, x8, x24, x229000, x229001 => if x24 = true then (cx_PowerOf.j1 k x1 x6 2 x229000 x229001) else (cx_PowerOf.j1 k x1 x6 x8 x229000 x229001)
def cx_PowerOf.j1 : Nat → Int → Int → Int → Int → Int → Option (Int × Int × Int × ByteArray × Int)
 | 0, _, _, _, _, _ => none
 | k + 1, x1, x6, x8, x229000, x229001 => if x8 = 0 then ((fd_power.f k x6 x229000 x229001 x1).bind fun bt229 => ((fd_value.f x6 bt229.1 bt229.2).bind fun bt231 => (some (bt231.1, bt231.2.1, bt231.2.2.1, bt231.2.2.2, 0)))) else (some (0, 0, 0, (⟨#[]⟩ : ByteArray), x8))
end
def cx_PowerOf.f (k : Nat) (a0_0 : Int) (a0_1 : Int) (a0_2 : Int) (a0_3 : ByteArray) (a1 : Int) : Option (Int × Int × Int × ByteArray × Int) := (cx_open.f a0_0 a0_1 a0_2 a0_3).bind fun bt224 => (if bt224.2.2.2 = 0 then (if a1 < (-2147483648) then (cx_PowerOf.j0 k a1 bt224.1 bt224.2.2.2 true bt224.2.1 bt224.2.2.1) else (cx_PowerOf.j0 k a1 bt224.1 bt224.2.2.2 (decide (a1 > 2147483647)) bt224.2.1 bt224.2.2.1)) else (cx_PowerOf.j0 k a1 bt224.1 bt224.2.2.2 false bt224.2.1 bt224.2.2.1))
set_option maxHeartbeats 8000000 in
set_option maxRecDepth 100000 in
theorem cx_PowerOf.calls (k : Nat) (a0_0 : Int) (a0_1 : Int) (a0_2 : Int) (a0_3 : ByteArray) (a1 : Int) (r1 : Int) (r2 : Int) (r3 : Int) (r4 : ByteArray) (r5 : Int) (w : World) (h : cx_PowerOf.f k a0_0 a0_1 a0_2 a0_3 a1 = some (r1, r2, r3, r4, r5)) :
  Calls Tryz.prog 22 #[.agg #[.int .i64 a0_0, .int .u64 a0_1, .int .u64 a0_2, .string a0_3], .int .i64 a1] w fun e w' => e = .returned (.tuple #[.agg #[.int .i64 r1, .int .u64 r2, .int .u64 r3, .string r4], .int .i64 r5]) ∧ Below w.heap.size w w' := by
 have hu24 := Tryz.underlying24
 have hu74 := Tryz.underlying74
 have HB := Aside0.mk (Below.refl w.heap.size w)
 have H : ((cx_open.f a0_0 a0_1 a0_2 a0_3).bind fun bt224 => (if bt224.2.2.2 = 0 then (if a1 < (-2147483648) then (cx_PowerOf.j0 k a1 bt224.1 bt224.2.2.2 true bt224.2.1 bt224.2.2.1) else (cx_PowerOf.j0 k a1 bt224.1 bt224.2.2.2 (decide (a1 > 2147483647)) bt224.2.1 bt224.2.2.1)) else (cx_PowerOf.j0 k a1 bt224.1 bt224.2.2.2 false bt224.2.1 bt224.2.2.1))) = some (r1, r2, r3, r4, r5) := h
 clear h
 replace H := Option.bind_eq_some_iff.mp H
 obtain ⟨⟨t224, t225, t226, t227⟩, A3, H⟩ := H
 try dsimp only at H
 replace A3 := Aside0.mk A3
 have HC4 := Aside0.mk H
 clear H
 go_enter Tryz.func22, Tryz.ntmps22
 go_upto_region 2 with (first | ((with_reducible refine gate_dst (N := 2) rfl ?_); refine bxe 2 (cs := #[.int .i64 a0_0, .int .u64 a0_1, .int .u64 a0_2, .string a0_3]) (t := 24) ?_; intro gb222 hg w5 hbox hb; have BK222 := Aside0.mk hbox; have GW222 := bsz HB hg; have GE222 := bsz HB hg; replace HB := bls HB hb; clear hb hbox hg) | ((with_reducible refine gate_dst (N := 4) rfl ?_); refine bxe 4 (cs := #[.int .i64 0, .int .u64 0, .int .u64 0, .string (⟨#[]⟩ : ByteArray)]) (t := 24) ?_; intro gb223 hg w6 hbox hb; have BK223 := Aside0.mk hbox; have GW223 := bsz HB hg; have GE223 := bsz HB hg; have NB222_223 := bnl BK222 hg; have NB223_222 := bng BK222 hg; replace BK222 := bkb BK222 hb; replace HB := bls HB hb; clear hb hbox hg; have hnb7 := NB222_223.out; have hnc7 := NB223_222.out; obtain ⟨hcz8_0, hcz8_1, hcz8_2, hcz8_3, hfz8_0, hfz8_1, hfz8_2, hfz8_3⟩ := cf4 BK222) | ((with_reducible refine gate_callee (f := 72) rfl ?_); refine gLc 11 Tryz.func72 (cx_open.calls a0_0 a0_1 a0_2 a0_3 t224 t225 t226 t227 _ A3.out) (fun w9 hb => ?_); replace BK222 := bkb BK222 hb; replace BK223 := bkb BK223 hb; replace HB := bls HB hb; clear hb) | ((with_reducible refine gate_dst (N := 7) rfl ?_); refine bxe 7 (cs := #[.int .u64 0, .int .u64 0]) (t := 74) ?_; intro gb228 hg w10 hbox hb; have BK228 := Aside0.mk hbox; have GW228 := bsz HB hg; have GE228 := bsz HB hg; have NB222_228 := bnl BK222 hg; have NB228_222 := bng BK222 hg; have NB223_228 := bnl BK223 hg; have NB228_223 := bng BK223 hg; replace BK222 := bkb BK222 hb; replace BK223 := bkb BK223 hb; replace HB := bls HB hb; clear hb hbox hg; have hnb11 := NB228_222.out; have hnc11 := NB222_228.out; have hnb12 := NB228_223.out; have hnc12 := NB223_228.out; obtain ⟨hcz13_0, hcz13_1, hfz13_0, hfz13_1⟩ := cf2 BK228))
 (try simp only [Act.put, List.setIfInBounds_toArray, List.set_cons_zero, List.set_cons_succ])
 go_cut [24] (fun v24 wc => ∃ (kq : Nat) (x24_3 : Bool), v24 = .bool x24_3 ∧ Aside0 (cx_PowerOf.j0 kq a1 t224 t227 x24_3 t225 t226 = some (r1, r2, r3, r4, r5)) ∧ Aside0 (kq ≤ k) ∧ Aside0 (wc.heap[gb222]? = some (.cells #[.int .i64 a0_0, .int .u64 a0_1, .int .u64 a0_2, .string a0_3] 24 (0, 0))) ∧ Aside0 (wc.heap[gb223]? = some (.cells #[.int .i64 0, .int .u64 0, .int .u64 0, .string (⟨#[]⟩ : ByteArray)] 24 (0, 0))) ∧ Aside0 (wc.heap[gb228]? = some (.cells #[.int .u64 t225, .int .u64 t226] 74 (0, 0))) ∧ Aside0 (Below w.heap.size w wc))
 case first =>
  have H := HC4.out
  clear HC4
  by_cases c14 : t227 = 0
  ·rw [if_pos c14] at H
   have c14b0 : (t227 == 0) = true := beq_iff_eq.mpr c14
   have c14b1 : (t227 != 0) = false := bne_eq_false_iff_eq.mpr c14
   clear c14
   (first | rw [c14b0] | (simp only [i64_w, i32_w]; rw [c14b0]) | skip)
   by_cases c15 : a1 < (-2147483648)
   ·rw [if_pos c15] at H
    have c15b0 : decide (a1 < (-2147483648)) = true := decide_eq_true c15
    clear c15
    have H' := Aside0.mk H
    clear H
    go_wp2
    go_meet
    case rel => exact ⟨_, (true), (by first | rfl | (simp; done) | (simp [*]; done)), H', ⟨by first | omega | exact Nat.le_refl _⟩, bkf BK222, bkf BK223, ⟨by (with_reducible repeat (first | refine blk_drewN ?_ _ | refine blk_drew ?_ | refine blk_alloc ?_ _)); apply bp2; (with_reducible repeat (first | refine blk_drewN ?_ _ | refine blk_drew ?_ | refine blk_alloc ?_ _)); exact BK228.out⟩, blt HB⟩
   ·rw [if_neg c15] at H
    have c15b0 : decide (a1 < (-2147483648)) = false := decide_eq_false c15
    clear c15
    have H' := Aside0.mk H
    clear H
    go_wp2
    go_meet
    case rel => exact ⟨_, (decide (a1 > 2147483647)), (by first | rfl | (simp; done) | (simp [*]; done)), H', ⟨by first | omega | exact Nat.le_refl _⟩, bkf BK222, bkf BK223, ⟨by (with_reducible repeat (first | refine blk_drewN ?_ _ | refine blk_drew ?_ | refine blk_alloc ?_ _)); apply bp2; (with_reducible repeat (first | refine blk_drewN ?_ _ | refine blk_drew ?_ | refine blk_alloc ?_ _)); exact BK228.out⟩, blt HB⟩
  ·rw [if_neg c14] at H
   have c14b0 : (t227 == 0) = false := beq_eq_false_iff_ne.mpr c14
   have c14b1 : (t227 != 0) = true := bne_iff_ne.mpr c14
   (first | rw [c14b0] | (simp only [i64_w, i32_w]; rw [c14b0]) | skip)
   have H' := Aside0.mk H
   clear H
   go_wp2
   go_meet
   case rel => exact ⟨_, (false), (by first | rfl | (simp; done) | (simp [*]; done)), H', ⟨by first | omega | exact Nat.le_refl _⟩, bkf BK222, bkf BK223, ⟨by (with_reducible repeat (first | refine blk_drewN ?_ _ | refine blk_drew ?_ | refine blk_alloc ?_ _)); apply bp2; (with_reducible repeat (first | refine blk_drewN ?_ _ | refine blk_drew ?_ | refine blk_alloc ?_ _)); exact BK228.out⟩, blt HB⟩
 case rest =>
  clear HC4
  try clear c1
  try clear c2
  try clear p2
  try clear c7
  try clear c11
  try clear c12
  try clear c14
  try clear c14b0
  try clear c14b1
  try clear c15
  try clear c15b0
  try clear hcz13_0
  try clear hcz13_1
  try clear hcz8_0
  try clear hcz8_1
  try clear hcz8_2
  try clear hcz8_3
  try clear hfz13_0
  try clear hfz13_1
  try clear hfz8_0
  try clear hfz8_1
  try clear hfz8_2
  try clear hfz8_3
  obtain ⟨kq, x24_3, rfl, HA, HJ3, BK222, BK223, BK228, HB⟩ := hcut
  cases kq with
  | zero => exact absurd HA.out (by simp [cx_PowerOf.j0])
  | succ kj3 =>
   have H := HA.out
   clear HA
   simp only [cx_PowerOf.j0] at H
   have HC16 := Aside0.mk H
   clear H
   go_upto_if 24 with (fail)
   go_cut [8] (fun v8 wc => ∃ (kq : Nat) (x8_15 : Int), v8 = .int .i64 x8_15 ∧ Aside0 (cx_PowerOf.j1 kq a1 t224 x8_15 t225 t226 = some (r1, r2, r3, r4, r5)) ∧ Aside0 (kq ≤ kj3) ∧ Aside0 (wc.heap[gb222]? = some (.cells #[.int .i64 a0_0, .int .u64 a0_1, .int .u64 a0_2, .string a0_3] 24 (0, 0))) ∧ Aside0 (wc.heap[gb223]? = some (.cells #[.int .i64 0, .int .u64 0, .int .u64 0, .string (⟨#[]⟩ : ByteArray)] 24 (0, 0))) ∧ Aside0 (wc.heap[gb228]? = some (.cells #[.int .u64 t225, .int .u64 t226] 74 (0, 0))) ∧ Aside0 (Below w.heap.size w wc))
   case first =>
    have H := HC16.out
    clear HC16
    by_cases c17 : x24_3 = true
    ·subst c17
     have H1 : (cx_PowerOf.j1 kj3 a1 t224 2 t225 t226) = some (r1, r2, r3, r4, r5) := by rw [if_pos rfl] at H; exact H
     clear H
     have H := H1
     clear H1
     have H' := Aside0.mk H
     clear H
     go_wp2
     go_meet
     case rel => exact ⟨_, (2), (by first | rfl | (simp; done) | (simp [*]; done)), H', ⟨by have := HJ3.out; first | omega | exact Nat.le_refl _⟩, bks BK222, bks BK223, bks BK228, blt HB⟩
    ·replace c17 := Bool.eq_false_iff.mpr c17
     subst c17
     have H1 : (cx_PowerOf.j1 kj3 a1 t224 t227 t225 t226) = some (r1, r2, r3, r4, r5) := by rw [if_neg (show ¬ (false = true) by decide)] at H; exact H
     clear H
     have H := H1
     clear H1
     have H' := Aside0.mk H
     clear H
     go_wp2
     go_meet
     case rel => exact ⟨_, (t227), (by first | rfl | (simp; done) | (simp [*]; done)), H', ⟨by have := HJ3.out; first | omega | exact Nat.le_refl _⟩, bks BK222, bks BK223, bks BK228, blt HB⟩
   case rest =>
    clear HC16
    try clear c1
    try clear c2
    try clear p2
    try clear c7
    try clear c11
    try clear c12
    try clear c14
    try clear c14b0
    try clear c14b1
    try clear c15
    try clear c15b0
    try clear c17
    try clear hcz13_0
    try clear hcz13_1
    try clear hcz8_0
    try clear hcz8_1
    try clear hcz8_2
    try clear hcz8_3
    try clear hfz13_0
    try clear hfz13_1
    try clear hfz8_0
    try clear hfz8_1
    try clear hfz8_2
    try clear hfz8_3
    try clear p2
    obtain ⟨kq, x8_15, rfl, HA, HJ15, BK222, BK223, BK228, HB⟩ := hcut
    cases kq with
    | zero => exact absurd HA.out (by simp [cx_PowerOf.j1])
    | succ kj15 =>
     have H := HA.out
     clear HA
     simp only [cx_PowerOf.j1] at H
     by_cases c18 : x8_15 = 0
     ·rw [if_pos c18] at H
      have c18b0 : (x8_15 == 0) = true := beq_iff_eq.mpr c18
      have c18b1 : (x8_15 != 0) = false := bne_eq_false_iff_eq.mpr c18
      clear c18
      replace H := Option.bind_eq_some_iff.mp H
      obtain ⟨⟨t229, t230⟩, A19, H⟩ := H
      try dsimp only at H
      replace A19 := Aside0.mk A19
      replace H := Option.bind_eq_some_iff.mp H
      obtain ⟨⟨t231, t232, t233, t234⟩, A20, H⟩ := H
      try dsimp only at H
      replace A20 := Aside0.mk A20
      simp only [Option.some.injEq, Prod.mk.injEq] at H
      obtain ⟨rfl, rfl, rfl, rfl, rfl⟩ := H
      have hnb21 := NB228_222.out
      have hnc21 := NB222_228.out
      have hnb22 := NB228_223.out
      have hnc22 := NB223_228.out
      obtain ⟨hcz23_0, hcz23_1, hfz23_0, hfz23_1⟩ := cf2 BK228
      go_wp2_with (first | ((with_reducible refine gate_callee (f := 73) rfl ?_); refine gLc 33 Tryz.func73 (fd_power.calls kj15 t224 t225 t226 a1 t229 t230 _ A19.out) (fun w24 hb => ?_); replace BK222 := bkb BK222 hb; replace BK223 := bkb BK223 hb; replace BK228 := bkb BK228 hb; replace HB := bls HB hb; clear hb) | ((with_reducible refine gate_callee (f := 57) rfl ?_); refine gLc 34 Tryz.func57 (fd_value.calls t224 t229 t230 t231 t232 t233 t234 _ A20.out) (fun w25 hb => ?_); replace BK222 := bkb BK222 hb; replace BK223 := bkb BK223 hb; replace BK228 := bkb BK228 hb; replace HB := bls HB hb; clear hb; have hnb26 := NB223_222.out; have hnc26 := NB222_223.out; obtain ⟨hcz27_0, hcz27_1, hcz27_2, hcz27_3, hfz27_0, hfz27_1, hfz27_2, hfz27_3⟩ := cf4 BK223))
      refine bodyPost_ret (results_ct rfl _ _ gb223 24 #[.int .i64 t231, .int .u64 t232, .int .u64 t233, .string t234] (0, 0) _ rfl (by (with_reducible repeat (first | refine blk_drewN ?_ _ | refine blk_drew ?_ | refine blk_alloc ?_ _)); apply bp4; (with_reducible repeat (first | refine blk_drewN ?_ _ | refine blk_drew ?_ | refine blk_alloc ?_ _)); exact BK223.out) Tryz.underlying24 rfl (by kernel_rfl)) rfl ?_
      exact fin_ (blt HB)
     ·rw [if_neg c18] at H
      have c18b0 : (x8_15 == 0) = false := beq_eq_false_iff_ne.mpr c18
      have c18b1 : (x8_15 != 0) = true := bne_iff_ne.mpr c18
      simp only [Option.some.injEq, Prod.mk.injEq] at H
      obtain ⟨rfl, rfl, rfl, rfl, rfl⟩ := H
      have hnb28 := NB223_222.out
      have hnc28 := NB222_223.out
      have hnb29 := NB223_228.out
      have hnc29 := NB228_223.out
      obtain ⟨hcz30_0, hcz30_1, hcz30_2, hcz30_3, hfz30_0, hfz30_1, hfz30_2, hfz30_3⟩ := cf4 BK223
      go_wp2
      refine bodyPost_ret (results_ct rfl _ _ gb223 24 #[.int .i64 0, .int .u64 0, .int .u64 0, .string (⟨#[]⟩ : ByteArray)] (0, 0) _ rfl (by (with_reducible repeat (first | refine blk_drewN ?_ _ | refine blk_drew ?_ | refine blk_alloc ?_ _)); apply bp4; (with_reducible repeat (first | refine blk_drewN ?_ _ | refine blk_drew ?_ | refine blk_alloc ?_ _)); exact BK223.out) Tryz.underlying24 rfl (by kernel_rfl)) rfl ?_
      exact fin_ (blt HB)
def cx_SizeOf.f (k : Nat) (a0_0 : Int) (a0_1 : Int) (a0_2 : Int) (a0_3 : ByteArray) : Option (Int × Int × Int × ByteArray × Int) := (cx_open.f a0_0 a0_1 a0_2 a0_3).bind fun bt237 => (if bt237.2.2.2 = 0 then ((fd_distance.f k bt237.1 bt237.2.1 bt237.2.2.1).bind fun t242 => (some (bt237.1, t242, 0, (⟨#[]⟩ : ByteArray), 0))) else (some (0, 0, 0, (⟨#[]⟩ : ByteArray), bt237.2.2.2)))
set_option maxHeartbeats 8000000 in
set_option maxRecDepth 100000 in
theorem cx_SizeOf.calls (k : Nat) (a0_0 : Int) (a0_1 : Int) (a0_2 : Int) (a0_3 : ByteArray) (r1 : Int) (r2 : Int) (r3 : Int) (r4 : ByteArray) (r5 : Int) (w : World) (h : cx_SizeOf.f k a0_0 a0_1 a0_2 a0_3 = some (r1, r2, r3, r4, r5)) :
  Calls Tryz.prog 26 #[.agg #[.int .i64 a0_0, .int .u64 a0_1, .int .u64 a0_2, .string a0_3]] w fun e w' => e = .returned (.tuple #[.agg #[.int .i64 r1, .int .u64 r2, .int .u64 r3, .string r4], .int .i64 r5]) ∧ Below w.heap.size w w' := by
 have hu24 := Tryz.underlying24
 have hu74 := Tryz.underlying74
 have HB := Aside0.mk (Below.refl w.heap.size w)
 have H : ((cx_open.f a0_0 a0_1 a0_2 a0_3).bind fun bt237 => (if bt237.2.2.2 = 0 then ((fd_distance.f k bt237.1 bt237.2.1 bt237.2.2.1).bind fun t242 => (some (bt237.1, t242, 0, (⟨#[]⟩ : ByteArray), 0))) else (some (0, 0, 0, (⟨#[]⟩ : ByteArray), bt237.2.2.2)))) = some (r1, r2, r3, r4, r5) := h
 clear h
 replace H := Option.bind_eq_some_iff.mp H
 obtain ⟨⟨t237, t238, t239, t240⟩, A2, H⟩ := H
 try dsimp only at H
 replace A2 := Aside0.mk A2
 by_cases c3 : t240 = 0
 ·rw [if_pos c3] at H
  have c3b0 : (t240 == 0) = true := beq_iff_eq.mpr c3
  have c3b1 : (t240 != 0) = false := bne_eq_false_iff_eq.mpr c3
  clear c3
  replace H := Option.bind_eq_some_iff.mp H
  obtain ⟨t242, A4, H⟩ := H
  try dsimp only at H
  replace A4 := Aside0.mk A4
  simp only [Option.some.injEq, Prod.mk.injEq] at H
  obtain ⟨rfl, rfl, rfl, rfl, rfl⟩ := H
  go_enter Tryz.func26, Tryz.ntmps26
  go_wp2_with (first | ((with_reducible refine gate_dst (N := 1) rfl ?_); refine bxe 1 (cs := #[.int .i64 a0_0, .int .u64 a0_1, .int .u64 a0_2, .string a0_3]) (t := 24) ?_; intro gb235 hg w5 hbox hb; have BK235 := Aside0.mk hbox; have GW235 := bsz HB hg; have GE235 := bsz HB hg; replace HB := bls HB hb; clear hb hbox hg) | ((with_reducible refine gate_dst (N := 2) rfl ?_); refine bxe 2 (cs := #[.int .i64 0, .int .u64 0, .int .u64 0, .string (⟨#[]⟩ : ByteArray)]) (t := 24) ?_; intro gb236 hg w6 hbox hb; have BK236 := Aside0.mk hbox; have GW236 := bsz HB hg; have GE236 := bsz HB hg; have NB235_236 := bnl BK235 hg; have NB236_235 := bng BK235 hg; replace BK235 := bkb BK235 hb; replace HB := bls HB hb; clear hb hbox hg; have hnb7 := NB235_236.out; have hnc7 := NB236_235.out; obtain ⟨hcz8_0, hcz8_1, hcz8_2, hcz8_3, hfz8_0, hfz8_1, hfz8_2, hfz8_3⟩ := cf4 BK235) | ((with_reducible refine gate_callee (f := 72) rfl ?_); refine gLc 9 Tryz.func72 (cx_open.calls a0_0 a0_1 a0_2 a0_3 t237 t238 t239 t240 _ A2.out) (fun w9 hb => ?_); replace BK235 := bkb BK235 hb; replace BK236 := bkb BK236 hb; replace HB := bls HB hb; clear hb) | ((with_reducible refine gate_dst (N := 5) rfl ?_); refine bxe 5 (cs := #[.int .u64 0, .int .u64 0]) (t := 74) ?_; intro gb241 hg w10 hbox hb; have BK241 := Aside0.mk hbox; have GW241 := bsz HB hg; have GE241 := bsz HB hg; have NB235_241 := bnl BK235 hg; have NB241_235 := bng BK235 hg; have NB236_241 := bnl BK236 hg; have NB241_236 := bng BK236 hg; replace BK235 := bkb BK235 hb; replace BK236 := bkb BK236 hb; replace HB := bls HB hb; clear hb hbox hg; have hnb11 := NB241_235.out; have hnc11 := NB235_241.out; have hnb12 := NB241_236.out; have hnc12 := NB236_241.out; obtain ⟨hcz13_0, hcz13_1, hfz13_0, hfz13_1⟩ := cf2 BK241) | ((with_reducible refine gate_callee (f := 79) rfl ?_); refine gLc 20 Tryz.func79 (fd_distance.calls k t237 t238 t239 t242 _ A4.out) (fun w14 hb => ?_); replace BK235 := bkfb BK235 hb; replace BK236 := bkfb BK236 hb; replace BK241 := Aside0.mk (blk_below (g := gb241) (o := .cells #[.int .u64 t238, .int .u64 t239] 74 (0, 0)) (by (with_reducible repeat (first | refine blk_drewN ?_ _ | refine blk_drew ?_ | refine blk_alloc ?_ _)); apply bp2; (with_reducible repeat (first | refine blk_drewN ?_ _ | refine blk_drew ?_ | refine blk_alloc ?_ _)); exact BK241.out) hb); replace HB := bls HB hb; clear hb; obtain ⟨hcz15_0, hcz15_1, hcz15_2, hcz15_3, hfz15_0, hfz15_1, hfz15_2, hfz15_3⟩ := cf4 BK236))
  refine bodyPost_ret (results_ct rfl _ _ gb236 24 #[.int .i64 t237, .int .u64 t242, .int .u64 0, .string (⟨#[]⟩ : ByteArray)] (0, 0) _ rfl (by (with_reducible repeat (first | refine blk_drewN ?_ _ | refine blk_drew ?_ | refine blk_alloc ?_ _)); apply bp4; (with_reducible repeat (first | refine blk_drewN ?_ _ | refine blk_drew ?_ | refine blk_alloc ?_ _)); exact BK236.out) Tryz.underlying24 rfl (by kernel_rfl)) rfl ?_
  exact fin_ (blt HB)
 ·rw [if_neg c3] at H
  have c3b0 : (t240 == 0) = false := beq_eq_false_iff_ne.mpr c3
  have c3b1 : (t240 != 0) = true := bne_iff_ne.mpr c3
  simp only [Option.some.injEq, Prod.mk.injEq] at H
  obtain ⟨rfl, rfl, rfl, rfl, rfl⟩ := H
  go_enter Tryz.func26, Tryz.ntmps26
  go_wp2_with (first | ((with_reducible refine gate_dst (N := 1) rfl ?_); refine bxe 1 (cs := #[.int .i64 a0_0, .int .u64 a0_1, .int .u64 a0_2, .string a0_3]) (t := 24) ?_; intro gb235 hg w16 hbox hb; have BK235 := Aside0.mk hbox; have GW235 := bsz HB hg; have GE235 := bsz HB hg; replace HB := bls HB hb; clear hb hbox hg) | ((with_reducible refine gate_dst (N := 2) rfl ?_); refine bxe 2 (cs := #[.int .i64 0, .int .u64 0, .int .u64 0, .string (⟨#[]⟩ : ByteArray)]) (t := 24) ?_; intro gb236 hg w17 hbox hb; have BK236 := Aside0.mk hbox; have GW236 := bsz HB hg; have GE236 := bsz HB hg; have NB235_236 := bnl BK235 hg; have NB236_235 := bng BK235 hg; replace BK235 := bkb BK235 hb; replace HB := bls HB hb; clear hb hbox hg; have hnb18 := NB235_236.out; have hnc18 := NB236_235.out; obtain ⟨hcz19_0, hcz19_1, hcz19_2, hcz19_3, hfz19_0, hfz19_1, hfz19_2, hfz19_3⟩ := cf4 BK235) | ((with_reducible refine gate_callee (f := 72) rfl ?_); refine gLc 9 Tryz.func72 (cx_open.calls a0_0 a0_1 a0_2 a0_3 t237 t238 t239 t240 _ A2.out) (fun w20 hb => ?_); replace BK235 := bkb BK235 hb; replace BK236 := bkb BK236 hb; replace HB := bls HB hb; clear hb) | ((with_reducible refine gate_dst (N := 5) rfl ?_); refine bxe 5 (cs := #[.int .u64 0, .int .u64 0]) (t := 74) ?_; intro gb241 hg w21 hbox hb; have BK241 := Aside0.mk hbox; have GW241 := bsz HB hg; have GE241 := bsz HB hg; have NB235_241 := bnl BK235 hg; have NB241_235 := bng BK235 hg; have NB236_241 := bnl BK236 hg; have NB241_236 := bng BK236 hg; replace BK235 := bkb BK235 hb; replace BK236 := bkb BK236 hb; replace HB := bls HB hb; clear hb hbox hg; have hnb22 := NB241_235.out; have hnc22 := NB235_241.out; have hnb23 := NB241_236.out; have hnc23 := NB236_241.out; obtain ⟨hcz24_0, hcz24_1, hfz24_0, hfz24_1⟩ := cf2 BK241; obtain ⟨hcz25_0, hcz25_1, hcz25_2, hcz25_3, hfz25_0, hfz25_1, hfz25_2, hfz25_3⟩ := cf4 BK236))
  refine bodyPost_ret (results_ct rfl _ _ gb236 24 #[.int .i64 0, .int .u64 0, .int .u64 0, .string (⟨#[]⟩ : ByteArray)] (0, 0) _ rfl (by (with_reducible repeat (first | refine blk_drewN ?_ _ | refine blk_drew ?_ | refine blk_alloc ?_ _)); apply bp4; (with_reducible repeat (first | refine blk_drewN ?_ _ | refine blk_drew ?_ | refine blk_alloc ?_ _)); refine blk_far ?_ NB236_241.out _; (with_reducible repeat (first | refine blk_drewN ?_ _ | refine blk_drew ?_ | refine blk_alloc ?_ _)); refine blk_far ?_ NB236_241.out _; (with_reducible repeat (first | refine blk_drewN ?_ _ | refine blk_drew ?_ | refine blk_alloc ?_ _)); exact BK236.out) Tryz.underlying24 rfl (by kernel_rfl)) rfl ?_
  exact fin_ (blt HB)
end Go.Proofs.YtmoimcblmmcffaaGreat.PPC

namespace Go.Proofs.YtmoimcblmmcffaaGreat.PPC
open Go.RowKit Go.Proofs.YtmoimcblmmcffaaGreatW.PrintWords Go.Proofs.YtmoimcblmmcffaaGreatW.PrintLast Go.Proofs.YtmoimcblmmcffaaGreatW.PrintMore Go.Proofs.YtmoimcblmmcffaaGreatW.PrintZ
attribute [local go_sem] max2_int min2_int max_two min_two max_three min_three max_four min_four   -- for this text's walks alone
set_option linter.unusedVariables false
set_option linter.unusedSimpArgs false
def cx_Negated_1.T1 : Bool × List (List Nat × List Nat) := (true, [([], []), ([], []), ([1], [1]), ([0, 2], [0, 2]), ([], []), ([], []), ([5], [5]), ([4, 6, 3], [4, 6]), ([3, 7], [3, 7]), ([8, 7, 0, 1, 2, 3, 4, 5, 6, 7, 8], [8])])
def cx_Negated_1.B1 : List Nat := [0, 0, 2, 7, 0, 0, 32, 127, 255, 511]
theorem cx_Negated_1.tab1 : rtab .any (opsOf Tryz.f80 1) = cx_Negated_1.T1 := by kernel_rfl
theorem cx_Negated_1.bits1 : waitsOk cx_Negated_1.T1.2 cx_Negated_1.B1 = true := by kernel_rfl
end Go.Proofs.YtmoimcblmmcffaaGreat.PPC

namespace Go.Proofs.YtmoimcblmmcffaaGreat.PRA
open Go.RowKit Go.Proofs.YtmoimcblmmcffaaGreatW.PrintWords Go.Proofs.YtmoimcblmmcffaaGreatW.PrintLast Go.Proofs.YtmoimcblmmcffaaGreatW.PrintMore
attribute [local go_sem] max2_int min2_int max_two min_two max_three min_three max_four min_four   -- for this text's walks alone
set_option linter.unusedVariables false
set_option linter.unusedSimpArgs false
def errW : Option Int → Value
 | none => .nilIface
 | some c => .iface 0 (.int .i64 c)
theorem errW_none : errW none = .nilIface := rfl
theorem errW_some (c : Int) : errW (some c) = .iface 0 (.int .i64 c) := rfl
end Go.Proofs.YtmoimcblmmcffaaGreat.PRA

namespace Go.Proofs.YtmoimcblmmcffaaGreat.PRA
open Go.RowKit Go.Proofs.YtmoimcblmmcffaaGreatW.PrintWords Go.Proofs.YtmoimcblmmcffaaGreatW.PrintLast Go.Proofs.YtmoimcblmmcffaaGreatW.PrintMore Go.Proofs.YtmoimcblmmcffaaGreatW.PrintZ
attribute [local go_sem] max2_int min2_int max_two min_two max_three min_three max_four min_four   -- for this text's walks alone
set_option linter.unusedVariables false
set_option linter.unusedSimpArgs false
def r10_PartType.f (a0 : Int) : Option (Int) := if a0 = 3 then (some 1) else (some 2)
set_option maxHeartbeats 8000000 in
set_option maxRecDepth 100000 in
theorem r10_PartType.calls (a0 : Int) (r : Int) (w : World) (h : r10_PartType.f a0 = some r) :
  Calls Tryz.prog 16 #[.int .i64 a0] w fun e w' => e = .returned (.int .i64 r) ∧ Drawn0 w w' := by
 have H : (if a0 = 3 then (some 1) else (some 2)) = some r := h
 clear h
 by_cases c2 : a0 = 3
 ·rw [if_pos c2] at H
  have c2b0 : (a0 == 3) = true := beq_iff_eq.mpr c2
  have c2b1 : (a0 != 3) = false := bne_eq_false_iff_eq.mpr c2
  clear c2
  obtain rfl := Option.some.inj H
  go_enter Tryz.func16, Tryz.ntmps16
  go_wp2
  go_ret
  exact ⟨by first | rfl | (simp; done) | (simp [*]; done), by repeat (first | exact Drawn0.refl _ | apply Drawn0.step)⟩
 ·rw [if_neg c2] at H
  have c2b0 : (a0 == 3) = false := beq_eq_false_iff_ne.mpr c2
  have c2b1 : (a0 != 3) = true := bne_iff_ne.mpr c2
  obtain rfl := Option.some.inj H
  go_enter Tryz.func16, Tryz.ntmps16
  go_wp2
  go_ret
  exact ⟨by first | rfl | (simp; done) | (simp [*]; done), by repeat (first | exact Drawn0.refl _ | apply Drawn0.step)⟩
def r10_Made.f (a0 : Int) (a1 : Int) (a2 : Int) : Option (Int × Int × Int × ByteArray) := some (a0, a1, a2, (⟨#[]⟩ : ByteArray))
set_option maxHeartbeats 8000000 in
set_option maxRecDepth 100000 in
theorem r10_Made.calls (a0 : Int) (a1 : Int) (a2 : Int) (r1 : Int) (r2 : Int) (r3 : Int) (r4 : ByteArray) (w : World) (h : r10_Made.f a0 a1 a2 = some (r1, r2, r3, r4)) :
  Calls Tryz.prog 18 #[.int .i64 a0, .int .u64 a1, .int .u64 a2] w fun e w' => e = .returned (.agg #[.int .i64 r1, .int .u64 r2, .int .u64 r3, .string r4]) ∧ Below w.heap.size w w' := by
 have hu24 := Tryz.underlying24
 have HB := Aside0.mk (Below.refl w.heap.size w)
 have H : (some (a0, a1, a2, (⟨#[]⟩ : ByteArray))) = some (r1, r2, r3, r4) := h
 clear h
 simp only [Option.some.injEq, Prod.mk.injEq] at H
 obtain ⟨rfl, rfl, rfl, rfl⟩ := H
 go_enter Tryz.func18, Tryz.ntmps18
 go_wp2_with (first | ((with_reducible refine gate_dst (N := 6) rfl ?_); refine bxe 6 (cs := #[.int .i64 0, .int .u64 0, .int .u64 0, .string (⟨#[]⟩ : ByteArray)]) (t := 24) ?_; intro gb101 hg w4 hbox hb; have BK101 := Aside0.mk hbox; have GW101 := bsz HB hg; have GE101 := bsz HB hg; replace HB := bls HB hb; clear hb hbox hg; obtain ⟨hcz5_0, hcz5_1, hcz5_2, hcz5_3, hfz5_0, hfz5_1, hfz5_2, hfz5_3⟩ := cf4 BK101))
 refine bodyPost_ret (results_cell_row rfl _ _ gb101 24 #[.int .i64 a0, .int .u64 a1, .int .u64 a2, .string (⟨#[]⟩ : ByteArray)] (0, 0) _ rfl (by (with_reducible repeat (first | refine blk_drewN ?_ _ | refine blk_drew ?_ | refine blk_alloc ?_ _)); apply bp4; (with_reducible repeat (first | refine blk_drewN ?_ _ | refine blk_drew ?_ | refine blk_alloc ?_ _)); exact BK101.out) Tryz.underlying24 rfl (by kernel_rfl)) rfl ?_
 exact fin_ (blt HB)
end Go.Proofs.YtmoimcblmmcffaaGreat.PRA

namespace Go.Proofs.YtmoimcblmmcffaaGreat.PRA
open Go.RowKit Go.Proofs.YtmoimcblmmcffaaGreatW.PrintWords Go.Proofs.YtmoimcblmmcffaaGreatW.PrintLast Go.Proofs.YtmoimcblmmcffaaGreatW.PrintMore Go.Proofs.YtmoimcblmmcffaaGreatW.PrintZ
attribute [local go_sem] max2_int min2_int max_two min_two max_three min_three max_four min_four   -- for this text's walks alone
set_option linter.unusedVariables false
set_option linter.unusedSimpArgs false
def r10_Mul.T3 : Bool × List (List Nat × List Nat) := (true, [([], []), ([], []), ([], []), ([2], [2]), ([], []), ([4], [4]), ([1, 3, 5], [1, 3, 5]), ([], []), ([], []), ([8], [8]), ([], []), ([10], [10]), ([7, 9, 11, 6], [7, 9, 11]), ([0, 6, 12, 12], [0, 6, 12]), ([13, 13, 0, 1, 2, 3, 4, 5, 6, 7, 8, 9, 10, 11, 12, 13], [13])])
def r10_Mul.B3 : List Nat := [0, 0, 0, 4, 0, 16, 62, 0, 0, 256, 0, 1024, 4094, 8191, 16383]
theorem r10_Mul.tab3 : rtab .any (opsOf Tryz.f60 3) = r10_Mul.T3 := by kernel_rfl
theorem r10_Mul.bits3 : waitsOk r10_Mul.T3.2 r10_Mul.B3 = true := by kernel_rfl
end Go.Proofs.YtmoimcblmmcffaaGreat.PRA

namespace Go.Proofs.YtmoimcblmmcffaaGreat.PRA
open Go.RowKit Go.Proofs.YtmoimcblmmcffaaGreatW.PrintWords Go.Proofs.YtmoimcblmmcffaaGreatW.PrintLast Go.Proofs.YtmoimcblmmcffaaGreatW.PrintMore Go.Proofs.YtmoimcblmmcffaaGreatW.PrintZ
attribute [local go_sem] max2_int min2_int max_two min_two max_three min_three max_four min_four   -- for this text's walks alone
set_option linter.unusedVariables false
set_option linter.unusedSimpArgs false
def r10_Div.T6 : Bool × List (List Nat × List Nat) := (true, [([], []), ([0], [0]), ([], []), ([], []), ([], []), ([], []), ([], []), ([], []), ([5, 6, 7], [5, 6, 7]), ([3, 4, 8, 8], [3, 4, 8]), ([], []), ([2, 9, 10, 9], [2, 9, 10]), ([], []), ([], []), ([], []), ([], []), ([], []), ([], []), ([15, 16, 17, 11], [15, 16, 17]), ([13, 14, 18, 18], [13, 14, 18]), ([], []), ([12, 19, 20, 19], [12, 19, 20]), ([1, 11, 21, 21], [1, 11, 21]), ([22, 22, 0, 1, 2, 3, 4, 5, 6, 7, 8, 9, 10, 11, 12, 13, 14, 15, 16, 17, 18, 19, 20, 21, 22], [22])])
def r10_Div.B6 : List Nat := [0, 1, 0, 0, 0, 0, 0, 0, 224, 504, 0, 2044, 0, 0, 0, 0, 0, 0, 233468, 520188, 0, 2097148, 4194303, 8388607]
theorem r10_Div.tab6 : rtab .any (opsOf Tryz.f61 6) = r10_Div.T6 := by kernel_rfl
theorem r10_Div.bits6 : waitsOk r10_Div.T6.2 r10_Div.B6 = true := by kernel_rfl
end Go.Proofs.YtmoimcblmmcffaaGreat.PRA
