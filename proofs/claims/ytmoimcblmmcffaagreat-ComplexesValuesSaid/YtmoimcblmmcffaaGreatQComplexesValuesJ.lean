/- Contracts and plain laws that the law ComplexesValues leans on (texts joined by program; what it does not come to is left out). -/
import Derived.Test.YtmoimcblmmcffaaGreatQComplexesValuesA
import Derived.Test.YtmoimcblmmcffaaGreatQComplexesValuesF
import Derived.Test.YtmoimcblmmcffaaGreatQComplexesValuesG
import Derived.Test.YtmoimcblmmcffaaGreatQComplexesValuesH
import Derived.Laws.EntriesVeiled
import Derived.Test.YtmoimcblmmcffaaGreatQComplexesValuesI
import Derived.Test.YtmoimcblmmcffaaGreatProg
import Derived.Below
import Derived.Deep.Draws
import Derived.Deep.AppendLies
import Derived.Maps.AppendAt
import Derived.OwnWalk
import Derived.Laws.BytesArg
import Derived.Laws.MakeOwn
import Derived.Laws.OwnMore
import Derived.Deep.OwnRows
import Derived.Tactics
import Derived.Lib.ConvBytes
import Derived.Laws.Slices
import Derived.WalkKit
import Derived.KernelRfl
import Derived.RowKit3
import Derived.Deep.LoopGhost
import Derived.Deep.QuietTactic
import Derived.BigQuiet
import Derived.WideLaws
import Derived.Deep.DeepCutAuto
import Derived.Deep.CutBlock
import Derived.Deep.RegionHeld3
import Derived.Laws.Rows
import Derived.Lib.AppendStr
import Derived.ArgAppend
import Derived.Laws.IdiomCopy
import Derived.OrdersHeld
import Derived.Laws.BitsLemmas
import Derived.RowKit

namespace Go.Proofs.YtmoimcblmmcffaaGreat.PPC
open Go.RowKit Go.Proofs.YtmoimcblmmcffaaGreatW.PrintWords Go.Proofs.YtmoimcblmmcffaaGreatW.PrintLast Go.Proofs.YtmoimcblmmcffaaGreatW.PrintMore Go.Proofs.YtmoimcblmmcffaaGreatW.PrintZ
attribute [local go_sem] max2_int min2_int max_two min_two max_three min_three max_four min_four   -- for this text's walks alone
set_option linter.unusedVariables false
set_option linter.unusedSimpArgs false
def fd_squareRoot.j0 : Nat → Int → Bool → Int → Int → Option (Int × Int)
 | 0, _, _, _, _ => none
 | k + 1, x0, x17, x186000, x186001 => if x17 = true then (some (0, x186001)) else ((fd_size.f x0 x186000).bind fun t189 => ((fd_distance.f k x0 x186000 x186001).bind fun t190 => ((fd_add.f x0 t189 t190).bind fun t191 => ((fd_half.f x0).bind fun t192 => ((fd_mul.f x0 t191 t192).bind fun t193 => ((fd_root.f x0 t193).bind fun t194 => ((fd_order.f x0 x186000 0).bind fun t195 => (if t195 = (-1) then ((fd_size.f x0 x186001).bind fun t199 => ((fd_div.f x0 t199 t194).bind fun t200 => ((fd_half.f x0).bind fun t201 => ((fd_mul.f x0 t200 t201).bind fun t202 => ((fd_operation.f x0 4 t194 x186001).bind fun t203 => (some (t202, t203))))))) else ((fd_div.f x0 x186001 t194).bind fun t196 => ((fd_half.f x0).bind fun t197 => ((fd_mul.f x0 t196 t197).bind fun t198 => (some (t194, t198)))))))))))))
def fd_squareRoot.f (k : Nat) (a0 : Int) (a1_0 : Int) (a1_1 : Int) : Option (Int × Int) := (fd_kind.f a0 a1_0).bind fun t187 => (if t187 = 0 then ((fd_kind.f a0 a1_1).bind fun t188 => (fd_squareRoot.j0 k a0 (t188 == 0) a1_0 a1_1)) else (fd_squareRoot.j0 k a0 false a1_0 a1_1))
def fd_squareRoot.T3 : Bool × List (List Nat × List Nat) := (true, [([], []), ([], []), ([], []), ([], []), ([], []), ([4], [4]), ([3, 5], [3, 5]), ([], []), ([], []), ([7, 8, 6], [7, 8]), ([2, 6, 9, 9], [2, 6, 9]), ([], []), ([11, 10], [11]), ([1, 10, 12, 12], [1, 10, 12]), ([0, 13, 13], [0, 13]), ([14, 14, 0, 1, 2, 3, 4, 5, 6, 7, 8, 9, 10, 11, 12, 13, 14], [14])])
def fd_squareRoot.B3 : List Nat := [0, 0, 0, 0, 0, 16, 56, 0, 0, 504, 1020, 0, 4092, 8190, 16383, 32767]
theorem fd_squareRoot.tab3 : rtab .any (opsOf Tryz.f82 3) = fd_squareRoot.T3 := by kernel_rfl
theorem fd_squareRoot.bits3 : waitsOk fd_squareRoot.T3.2 fd_squareRoot.B3 = true := by kernel_rfl
def fd_squareRoot.T6 : Bool × List (List Nat × List Nat) := (true, [([], []), ([], []), ([], []), ([], []), ([3], [3]), ([2, 4], [2, 4]), ([], []), ([1, 5, 6, 5], [1, 5, 6]), ([], []), ([8, 7], [8]), ([0, 7, 9, 9], [0, 7, 9]), ([], []), ([], []), ([], []), ([13], [13]), ([11, 12, 14, 10], [11, 12, 14]), ([10, 15], [10, 15]), ([16, 15, 0, 1, 2, 3, 4, 5, 6, 7, 8, 9, 10, 11, 12, 13, 14, 15, 16], [16])])
def fd_squareRoot.B6 : List Nat := [0, 0, 0, 0, 8, 28, 0, 126, 0, 510, 1023, 0, 0, 0, 8192, 32767, 65535, 131071]
theorem fd_squareRoot.tab6 : rtab .any (opsOf Tryz.f82 6) = fd_squareRoot.T6 := by kernel_rfl
theorem fd_squareRoot.bits6 : waitsOk fd_squareRoot.T6.2 fd_squareRoot.B6 = true := by kernel_rfl
set_option maxHeartbeats 8000000 in
set_option maxRecDepth 100000 in
theorem fd_squareRoot.calls (k : Nat) (a0 : Int) (a1_0 : Int) (a1_1 : Int) (r1 : Int) (r2 : Int) (w : World) (h : fd_squareRoot.f k a0 a1_0 a1_1 = some (r1, r2)) :
  Calls Tryz.prog 82 #[.int .i64 a0, .agg #[.int .u64 a1_0, .int .u64 a1_1]] w fun e w' => e = .returned (.agg #[.int .u64 r1, .int .u64 r2]) ∧ Below w.heap.size w w' := by
 have hu74 := Tryz.underlying74
 have HB := Aside0.mk (Below.refl w.heap.size w)
 have H : ((fd_kind.f a0 a1_0).bind fun t187 => (if t187 = 0 then ((fd_kind.f a0 a1_1).bind fun t188 => (fd_squareRoot.j0 k a0 (t188 == 0) a1_0 a1_1)) else (fd_squareRoot.j0 k a0 false a1_0 a1_1))) = some (r1, r2) := h
 clear h
 have HC3 := Aside0.mk H
 clear H
 go_enter Tryz.func82, Tryz.ntmps82
 go_upto_region 1 with (first | ((with_reducible refine gate_dst (N := 3) rfl ?_); refine bxe 3 (cs := #[.int .u64 a1_0, .int .u64 a1_1]) (t := 74) ?_; intro gb185 hg w4 hbox hb; have BK185 := Aside0.mk hbox; have GW185 := bsz HB hg; have GE185 := bsz HB hg; replace HB := bls HB hb; clear hb hbox hg) | ((with_reducible refine gate_dst (N := 4) rfl ?_); refine bxe 4 (cs := #[.int .u64 0, .int .u64 0]) (t := 74) ?_; intro gb186 hg w5 hbox hb; have BK186 := Aside0.mk hbox; have GW186 := bsz HB hg; have GE186 := bsz HB hg; have NB185_186 := bnl BK185 hg; have NB186_185 := bng BK185 hg; replace BK185 := bkb BK185 hb; replace HB := bls HB hb; clear hb hbox hg))
 (try simp only [Act.put, List.setIfInBounds_toArray, List.set_cons_zero, List.set_cons_succ])
 go_cut [17] (fun v17 wc => ∃ (kq : Nat) (x17_2 : Bool), v17 = .bool x17_2 ∧ Aside0 (fd_squareRoot.j0 kq a0 x17_2 a1_0 a1_1 = some (r1, r2)) ∧ Aside0 (kq ≤ k) ∧ Aside0 (wc.heap[gb185]? = some (.cells #[.int .u64 a1_0, .int .u64 a1_1] 74 (0, 0))) ∧ Aside0 (wc.heap[gb186]? = some (.cells #[.int .u64 0, .int .u64 0] 74 (0, 0))) ∧ Aside0 (Below w.heap.size w wc))
 case first =>
  have H := HC3.out
  clear HC3
  replace H := Option.bind_eq_some_iff.mp H
  obtain ⟨t187, A6, H⟩ := H
  try dsimp only at H
  replace A6 := Aside0.mk A6
  by_cases c7 : t187 = 0
  ·rw [if_pos c7] at H
   have c7b0 : (t187 == 0) = true := beq_iff_eq.mpr c7
   have c7b1 : (t187 != 0) = false := bne_eq_false_iff_eq.mpr c7
   clear c7
   (first | rw [c7b0] | (simp only [i64_w, i32_w]; rw [c7b0]) | skip)
   replace H := Option.bind_eq_some_iff.mp H
   obtain ⟨t188, A8, H⟩ := H
   try dsimp only at H
   replace A8 := Aside0.mk A8
   have H' := Aside0.mk H
   clear H
   have hnb9 := NB185_186.out
   have hnc9 := NB186_185.out
   obtain ⟨hcz10_0, hcz10_1, hfz10_0, hfz10_1⟩ := cf2 BK185
   go_wp2_with (first | ((with_reducible refine gate_callee (f := 119) rfl ?_); refine gL 9 Tryz.func119 #[.int .i64 a0, .int .u64 a1_0] ?_; (with_reducible refine (fd_kind.calls a0 a1_0 t187 _ A6.out).mono ?_); rintro e w11 ⟨rfl, hb⟩; refine ⟨_, rfl, ?_⟩; replace BK185 := bkb BK185 hb; replace BK186 := bkb BK186 hb; replace HB := bls HB hb; clear hb; have hcz12_0 : w11.cell? ⟨gb185, 0, none⟩ = some (.int .u64 a1_0) := (blk_cell BK185.out 0).trans rfl; have hcz12_1 : w11.cell? ⟨gb185, 1, none⟩ = some (.int .u64 a1_1) := (blk_cell BK185.out 1).trans rfl; have hfz12_0 := blk_frozen BK185.out 0; have hfz12_1 := blk_frozen BK185.out 1) | (go_at_call 119; (with_reducible refine (fd_kind.calls a0 a1_1 t188 _ A8.out).mono ?_); rintro e w13 ⟨rfl, hb⟩; replace BK185 := bkb BK185 hb; replace BK186 := bkb BK186 hb; replace HB := bls HB hb; clear hb))
   go_meet
   case rel => exact ⟨_, ((t188 == 0)), (by first | rfl | (simp; done) | (simp [*]; done)), H', ⟨by first | omega | exact Nat.le_refl _⟩, bks BK185, bks BK186, blt HB⟩
  ·rw [if_neg c7] at H
   have c7b0 : (t187 == 0) = false := beq_eq_false_iff_ne.mpr c7
   have c7b1 : (t187 != 0) = true := bne_iff_ne.mpr c7
   (first | rw [c7b0] | (simp only [i64_w, i32_w]; rw [c7b0]) | skip)
   have H' := Aside0.mk H
   clear H
   have hnb14 := NB185_186.out
   have hnc14 := NB186_185.out
   obtain ⟨hcz15_0, hcz15_1, hfz15_0, hfz15_1⟩ := cf2 BK185
   go_wp2_with (first | ((with_reducible refine gate_callee (f := 119) rfl ?_); refine gL 9 Tryz.func119 #[.int .i64 a0, .int .u64 a1_0] ?_; (with_reducible refine (fd_kind.calls a0 a1_0 t187 _ A6.out).mono ?_); rintro e w16 ⟨rfl, hb⟩; refine ⟨_, rfl, ?_⟩; replace BK185 := bkb BK185 hb; replace BK186 := bkb BK186 hb; replace HB := bls HB hb; clear hb))
   go_meet
   case rel => exact ⟨_, (false), (by first | rfl | (simp; done) | (simp [*]; done)), H', ⟨by first | omega | exact Nat.le_refl _⟩, bks BK185, bks BK186, blt HB⟩
 case rest =>
  clear HC3
  try clear c1
  try clear p2
  try clear c7
  try clear c7b0
  try clear c7b1
  try clear c8
  try clear c9
  try clear c11
  try clear c14
  try clear hcz10_0
  try clear hcz10_1
  try clear hcz12_0
  try clear hcz12_1
  try clear hcz15_0
  try clear hcz15_1
  try clear hfz10_0
  try clear hfz10_1
  try clear hfz12_0
  try clear hfz12_1
  try clear hfz15_0
  try clear hfz15_1
  obtain ⟨kq, x17_2, rfl, HA, HJ2, BK185, BK186, HB⟩ := hcut
  cases kq with
  | zero => exact absurd HA.out (by simp [fd_squareRoot.j0])
  | succ kj2 =>
   have H := HA.out
   clear HA
   simp only [fd_squareRoot.j0] at H
   by_cases c17 : x17_2 = true
   ·subst c17
    have H1 : (some (0, a1_1)) = some (r1, r2) := by rw [if_pos rfl] at H; exact H
    clear H
    have H := H1
    clear H1
    simp only [Option.some.injEq, Prod.mk.injEq] at H
    obtain ⟨rfl, rfl⟩ := H
    have hnb18 := NB185_186.out
    have hnc18 := NB186_185.out
    obtain ⟨hcz19_0, hcz19_1, hfz19_0, hfz19_1⟩ := cf2 BK185
    obtain ⟨hcz20_0, hcz20_1, hfz20_0, hfz20_1⟩ := cf2 BK186
    go_wp2
    refine bodyPost_ret (results_cell_row rfl _ _ gb186 74 #[.int .u64 0, .int .u64 a1_1] (0, 0) _ rfl (by (with_reducible repeat (first | refine blk_drewN ?_ _ | refine blk_drew ?_ | refine blk_alloc ?_ _)); refine blk_put (cs := #[.int .u64 0, .int .u64 0]) ?_ 1 _ rfl; (with_reducible repeat (first | refine blk_drewN ?_ _ | refine blk_drew ?_ | refine blk_alloc ?_ _)); refine blk_put (cs := #[.int .u64 0, .int .u64 0]) ?_ 0 _ rfl; (with_reducible repeat (first | refine blk_drewN ?_ _ | refine blk_drew ?_ | refine blk_alloc ?_ _)); exact BK186.out) Tryz.underlying74 rfl (by kernel_rfl)) rfl ?_
    exact ⟨by first | rfl | (simp [errW_none, errW_some] <;> rfl) | (simp [*, errW_none, errW_some] <;> rfl), (blt HB).out⟩
   ·replace c17 := Bool.eq_false_iff.mpr c17
    subst c17
    have H1 : ((fd_size.f a0 a1_0).bind fun t189 => ((fd_distance.f kj2 a0 a1_0 a1_1).bind fun t190 => ((fd_add.f a0 t189 t190).bind fun t191 => ((fd_half.f a0).bind fun t192 => ((fd_mul.f a0 t191 t192).bind fun t193 => ((fd_root.f a0 t193).bind fun t194 => ((fd_order.f a0 a1_0 0).bind fun t195 => (if t195 = (-1) then ((fd_size.f a0 a1_1).bind fun t199 => ((fd_div.f a0 t199 t194).bind fun t200 => ((fd_half.f a0).bind fun t201 => ((fd_mul.f a0 t200 t201).bind fun t202 => ((fd_operation.f a0 4 t194 a1_1).bind fun t203 => (some (t202, t203))))))) else ((fd_div.f a0 a1_1 t194).bind fun t196 => ((fd_half.f a0).bind fun t197 => ((fd_mul.f a0 t196 t197).bind fun t198 => (some (t194, t198))))))))))))) = some (r1, r2) := by rw [if_neg (show ¬ (false = true) by decide)] at H; exact H
    clear H
    have H := H1
    clear H1
    replace H := Option.bind_eq_some_iff.mp H
    obtain ⟨t189, A21, H⟩ := H
    try dsimp only at H
    replace A21 := Aside0.mk A21
    replace H := Option.bind_eq_some_iff.mp H
    obtain ⟨t190, A22, H⟩ := H
    try dsimp only at H
    replace A22 := Aside0.mk A22
    replace H := Option.bind_eq_some_iff.mp H
    obtain ⟨t191, A23, H⟩ := H
    try dsimp only at H
    replace A23 := Aside0.mk A23
    replace H := Option.bind_eq_some_iff.mp H
    obtain ⟨t192, A24, H⟩ := H
    try dsimp only at H
    replace A24 := Aside0.mk A24
    replace H := Option.bind_eq_some_iff.mp H
    obtain ⟨t193, A25, H⟩ := H
    try dsimp only at H
    replace A25 := Aside0.mk A25
    replace H := Option.bind_eq_some_iff.mp H
    obtain ⟨t194, A26, H⟩ := H
    try dsimp only at H
    replace A26 := Aside0.mk A26
    replace H := Option.bind_eq_some_iff.mp H
    obtain ⟨t195, A27, H⟩ := H
    try dsimp only at H
    replace A27 := Aside0.mk A27
    by_cases c28 : t195 = (-1)
    ·rw [if_pos c28] at H
     have c28b0 : (t195 == (-1)) = true := beq_iff_eq.mpr c28
     have c28b1 : (t195 != (-1)) = false := bne_eq_false_iff_eq.mpr c28
     clear c28
     replace H := Option.bind_eq_some_iff.mp H
     obtain ⟨t199, A29, H⟩ := H
     try dsimp only at H
     replace A29 := Aside0.mk A29
     replace H := Option.bind_eq_some_iff.mp H
     obtain ⟨t200, A30, H⟩ := H
     try dsimp only at H
     replace A30 := Aside0.mk A30
     replace H := Option.bind_eq_some_iff.mp H
     obtain ⟨t201, A31, H⟩ := H
     try dsimp only at H
     replace A31 := Aside0.mk A31
     replace H := Option.bind_eq_some_iff.mp H
     obtain ⟨t202, A32, H⟩ := H
     try dsimp only at H
     replace A32 := Aside0.mk A32
     replace H := Option.bind_eq_some_iff.mp H
     obtain ⟨t203, A33, H⟩ := H
     try dsimp only at H
     replace A33 := Aside0.mk A33
     simp only [Option.some.injEq, Prod.mk.injEq] at H
     obtain ⟨rfl, rfl⟩ := H
     try go_wp2
     replace BK185 := Aside0.mk (blk_drew BK185.out)
     replace BK186 := Aside0.mk (blk_drew BK186.out)
     replace HB := Aside0.mk (below_drew1 HB.out)
     refine start_ (n := 16) (S := fun w' => w'.cell? ⟨gb185, 0, none⟩ = some (.int .u64 a1_0) ∧ w'.cell? ⟨gb185, 1, none⟩ = some (.int .u64 a1_1)) (ds := []) #[false, false, false, false, false, false, false, false, false, false, false, false, false, false, false, false] (by kernel_rfl) rfl rfl ⟨(blk_cell BK185.out 0).trans rfl, (blk_cell BK185.out 1).trans rfl⟩ (fun hHeld => ?_); refine with_tabW fd_squareRoot.tab3 fd_squareRoot.bits3 (fun HT_ HW_ => ?_)
     generalize wc.drew = w34 at BK185 BK186 HB hHeld ⊢
     refine pu 0 21 HT_ ?_
     refine pu 1 22 HT_ ?_
     refine pu 2 23 HT_ ?_
     refine pu 3 24 HT_ ?_
     refine pu 4 25 HT_ ?_
     refine pu 7 28 HT_ ?_
     refine pu 11 32 HT_ ?_
     refine tk 5 26 HT_ HW_ hHeld ?_
     refine tk 8 29 HT_ HW_ hHeld ?_
     refine one_ (i := 6) (N := some 27) #[true, true, true, true, true, true, true, true, true, false, false, true, false, false, false, false] rfl rfl (one_of HT_.out (by kernel_rfl)) (by decide) (fun K hK => ?_)
     refine goes_ Tryz.func100 (by kernel_rfl) rfl #[.int .i64 a0, .int .u64 a1_0] (by rfl) rfl rfl (by (try simp only [List.map_toArray, List.map_cons, List.map_nil]); first | done | rfl | (simp only [List.length_drop, List.length_take]; rfl)) ?_
     with_reducible refine (fd_size.calls a0 a1_0 t189 _ A21.out).mono ?_
     rintro e w35 ⟨rfl, hb⟩
     refine ⟨_, rfl, ?_⟩
     replace BK185 := bkb BK185 hb
     replace BK186 := bkb BK186 hb
     replace HB := bls HB hb
     (try clear hb)
     (try clear hb2)
     (try clear hk)
     (try clear hi)
     refine hK.out _ _ ⟨(blk_cell BK185.out 0).trans rfl, (blk_cell BK185.out 1).trans rfl⟩ (fun hHeld => ?_)
     clear hK K
     refine norm_ (a' := ?_) ?_ ?_
     rotate_left
     ·show Act.put _ (some 27) _ = _
      simp only [Act.put, List.setIfInBounds_toArray, List.set_cons_zero, List.set_cons_succ, i64_w, i32_w]
      rfl
     refine one_ (i := 9) (N := some 30) #[true, true, true, true, true, true, true, true, true, true, false, true, false, false, false, false] rfl rfl (one_of HT_.out (by kernel_rfl)) (by decide) (fun K hK => ?_)
     refine goes_ Tryz.func79 (by kernel_rfl) rfl #[.int .i64 a0, .agg #[.int .u64 a1_0, .int .u64 a1_1]] (by rfl) rfl rfl (by (try simp only [List.map_toArray, List.map_cons, List.map_nil]); first | done | rfl | (simp only [List.length_drop, List.length_take]; rfl)) ?_
     with_reducible refine (fd_distance.calls kj2 a0 a1_0 a1_1 t190 _ A22.out).mono ?_
     rintro e w36 ⟨rfl, hb⟩
     refine ⟨_, rfl, ?_⟩
     replace BK185 := bkb BK185 hb
     replace BK186 := bkb BK186 hb
     replace HB := bls HB hb
     (try clear hb)
     (try clear hb2)
     (try clear hk)
     (try clear hi)
     refine hK.out _ _ ⟨(blk_cell BK185.out 0).trans rfl, (blk_cell BK185.out 1).trans rfl⟩ (fun hHeld => ?_)
     clear hK K
     refine norm_ (a' := ?_) ?_ ?_
     rotate_left
     ·show Act.put _ (some 30) _ = _
      simp only [Act.put, List.setIfInBounds_toArray, List.set_cons_zero, List.set_cons_succ, i64_w, i32_w]
      rfl
     refine one_ (i := 10) (N := some 31) #[true, true, true, true, true, true, true, true, true, true, true, true, false, false, false, false] rfl rfl (one_of HT_.out (by kernel_rfl)) (by decide) (fun K hK => ?_)
     refine goes_ Tryz.func97 (by kernel_rfl) rfl #[.int .i64 a0, .int .u64 t189, .int .u64 t190] (by rfl) rfl rfl (by (try simp only [List.map_toArray, List.map_cons, List.map_nil]); first | done | rfl | (simp only [List.length_drop, List.length_take]; rfl)) ?_
     with_reducible refine (fd_add.calls a0 t189 t190 t191 _ A23.out).mono ?_
     rintro e w37 ⟨rfl, hb⟩
     refine ⟨_, rfl, ?_⟩
     replace BK185 := bkb BK185 hb
     replace BK186 := bkb BK186 hb
     replace HB := bls HB hb
     (try clear hb)
     (try clear hb2)
     (try clear hk)
     (try clear hi)
     refine hK.out _ _ ⟨(blk_cell BK185.out 0).trans rfl, (blk_cell BK185.out 1).trans rfl⟩ (fun hHeld => ?_)
     clear hK K
     refine norm_ (a' := ?_) ?_ ?_
     rotate_left
     ·show Act.put _ (some 31) _ = _
      simp only [Act.put, List.setIfInBounds_toArray, List.set_cons_zero, List.set_cons_succ, i64_w, i32_w]
      rfl
     refine one_ (i := 12) (N := some 33) #[true, true, true, true, true, true, true, true, true, true, true, true, true, false, false, false] rfl rfl (one_of HT_.out (by kernel_rfl)) (by decide) (fun K hK => ?_)
     refine goes_ Tryz.func123 (by kernel_rfl) rfl #[.int .i64 a0] (by rfl) rfl rfl (by (try simp only [List.map_toArray, List.map_cons, List.map_nil]); first | done | rfl | (simp only [List.length_drop, List.length_take]; rfl)) ?_
     with_reducible refine (fd_half.calls a0 t192 _ A24.out).mono ?_
     rintro e w38 ⟨rfl, hb⟩
     refine ⟨_, rfl, ?_⟩
     replace BK185 := bkb BK185 hb
     replace BK186 := bkb BK186 hb
     replace HB := bls HB hb
     (try clear hb)
     (try clear hb2)
     (try clear hk)
     (try clear hi)
     refine hK.out _ _ ⟨(blk_cell BK185.out 0).trans rfl, (blk_cell BK185.out 1).trans rfl⟩ (fun hHeld => ?_)
     clear hK K
     refine norm_ (a' := ?_) ?_ ?_
     rotate_left
     ·show Act.put _ (some 33) _ = _
      simp only [Act.put, List.setIfInBounds_toArray, List.set_cons_zero, List.set_cons_succ, i64_w, i32_w]
      rfl
     refine one_ (i := 13) (N := some 34) #[true, true, true, true, true, true, true, true, true, true, true, true, true, true, false, false] rfl rfl (one_of HT_.out (by kernel_rfl)) (by decide) (fun K hK => ?_)
     refine goes_ Tryz.func99 (by kernel_rfl) rfl #[.int .i64 a0, .int .u64 t191, .int .u64 t192] (by rfl) rfl rfl (by (try simp only [List.map_toArray, List.map_cons, List.map_nil]); first | done | rfl | (simp only [List.length_drop, List.length_take]; rfl)) ?_
     with_reducible refine (fd_mul.calls a0 t191 t192 t193 _ A25.out).mono ?_
     rintro e w39 ⟨rfl, hb⟩
     refine ⟨_, rfl, ?_⟩
     replace BK185 := bkb BK185 hb
     replace BK186 := bkb BK186 hb
     replace HB := bls HB hb
     (try clear hb)
     (try clear hb2)
     (try clear hk)
     (try clear hi)
     refine hK.out _ _ ⟨(blk_cell BK185.out 0).trans rfl, (blk_cell BK185.out 1).trans rfl⟩ (fun hHeld => ?_)
     clear hK K
     refine norm_ (a' := ?_) ?_ ?_
     rotate_left
     ·show Act.put _ (some 34) _ = _
      simp only [Act.put, List.setIfInBounds_toArray, List.set_cons_zero, List.set_cons_succ, i64_w, i32_w]
      rfl
     refine one_ (i := 14) (N := some 35) #[true, true, true, true, true, true, true, true, true, true, true, true, true, true, true, false] rfl rfl (one_of HT_.out (by kernel_rfl)) (by decide) (fun K hK => ?_)
     refine goes_ Tryz.func121 (by kernel_rfl) rfl #[.int .i64 a0, .int .u64 t193] (by rfl) rfl rfl (by (try simp only [List.map_toArray, List.map_cons, List.map_nil]); first | done | rfl | (simp only [List.length_drop, List.length_take]; rfl)) ?_
     with_reducible refine (fd_root.calls a0 t193 t194 _ A26.out).mono ?_
     rintro e w40 ⟨rfl, hb⟩
     refine ⟨_, rfl, ?_⟩
     replace BK185 := bkb BK185 hb
     replace BK186 := bkb BK186 hb
     replace HB := bls HB hb
     (try clear hb)
     (try clear hb2)
     (try clear hk)
     (try clear hi)
     refine hK.out _ _ ⟨(blk_cell BK185.out 0).trans rfl, (blk_cell BK185.out 1).trans rfl⟩ (fun hHeld => ?_)
     clear hK K
     refine norm_ (a' := ?_) ?_ ?_
     rotate_left
     ·show Act.put _ (some 35) _ = _
      simp only [Act.put, List.setIfInBounds_toArray, List.set_cons_zero, List.set_cons_succ, i64_w, i32_w]
      rfl
     refine pu 15 5 HT_ ?_
     refine done_ (done_of HT_.out (by kernel_rfl)) ?_
     have hnb41 := NB185_186.out
     have hnc41 := NB186_185.out
     obtain ⟨hcz42_0, hcz42_1, hfz42_0, hfz42_1⟩ := cf2 BK185
     try go_wp2_with (first | ((with_reducible refine gate_callee (f := 92) rfl ?_); refine gL 39 Tryz.func92 #[.int .i64 a0, .int .u64 a1_0, .int .u64 0] ?_; (with_reducible refine (fd_order.calls a0 a1_0 0 t195 _ A27.out).mono ?_); rintro e w43 ⟨rfl, hb⟩; refine ⟨_, rfl, ?_⟩; replace BK185 := bkb BK185 hb; replace BK186 := bkb BK186 hb; replace HB := bls HB hb; clear hb))
     replace BK185 := Aside0.mk (blk_drew BK185.out)
     replace BK186 := Aside0.mk (blk_drew BK186.out)
     replace HB := Aside0.mk (below_drew1 HB.out)
     refine start_ (n := 18) (S := fun w' => w'.cell? ⟨gb185, 0, none⟩ = some (.int .u64 a1_0) ∧ w'.cell? ⟨gb185, 1, none⟩ = some (.int .u64 a1_1)) (ds := []) #[false, false, false, false, false, false, false, false, false, false, false, false, false, false, false, false, false, false] (by kernel_rfl) rfl rfl ⟨(blk_cell BK185.out 0).trans rfl, (blk_cell BK185.out 1).trans rfl⟩ (fun hHeld => ?_); refine with_tabW fd_squareRoot.tab6 fd_squareRoot.bits6 (fun HT_ HW_ => ?_)
     generalize w43.drew = w44 at BK185 BK186 HB hHeld ⊢
     refine pu 0 52 HT_ ?_
     refine pu 1 53 HT_ ?_
     refine pu 2 54 HT_ ?_
     refine pu 3 55 HT_ ?_
     refine pu 6 58 HT_ ?_
     refine pu 8 60 HT_ ?_
     refine pu 11 63 HT_ ?_
     refine pu 12 64 HT_ ?_
     refine pu 13 65 HT_ ?_
     refine tk 4 56 HT_ HW_ hHeld ?_
     refine tk 14 66 HT_ HW_ hHeld ?_
     refine one_ (i := 5) (N := some 57) #[true, true, true, true, true, true, true, false, true, false, false, true, true, true, true, false, false, false] rfl rfl (one_of HT_.out (by kernel_rfl)) (by decide) (fun K hK => ?_)
     refine goes_ Tryz.func100 (by kernel_rfl) rfl #[.int .i64 a0, .int .u64 a1_1] (by rfl) rfl rfl (by (try simp only [List.map_toArray, List.map_cons, List.map_nil]); first | done | rfl | (simp only [List.length_drop, List.length_take]; rfl)) ?_
     with_reducible refine (fd_size.calls a0 a1_1 t199 _ A29.out).mono ?_
     rintro e w45 ⟨rfl, hb⟩
     refine ⟨_, rfl, ?_⟩
     replace BK185 := bkb BK185 hb
     replace BK186 := bkb BK186 hb
     replace HB := bls HB hb
     (try clear hb)
     (try clear hb2)
     (try clear hk)
     (try clear hi)
     refine hK.out _ _ ⟨(blk_cell BK185.out 0).trans rfl, (blk_cell BK185.out 1).trans rfl⟩ (fun hHeld => ?_)
     clear hK K
     refine norm_ (a' := ?_) ?_ ?_
     rotate_left
     ·show Act.put _ (some 57) _ = _
      simp only [Act.put, List.setIfInBounds_toArray, List.set_cons_zero, List.set_cons_succ, i64_w, i32_w]
      rfl
     refine one_ (i := 7) (N := some 59) #[true, true, true, true, true, true, true, true, true, false, false, true, true, true, true, false, false, false] rfl rfl (one_of HT_.out (by kernel_rfl)) (by decide) (fun K hK => ?_)
     refine goes_ Tryz.func101 (by kernel_rfl) rfl #[.int .i64 a0, .int .u64 t199, .int .u64 t194] (by rfl) rfl rfl (by (try simp only [List.map_toArray, List.map_cons, List.map_nil]); first | done | rfl | (simp only [List.length_drop, List.length_take]; rfl)) ?_
     with_reducible refine (fd_div.calls a0 t199 t194 t200 _ A30.out).mono ?_
     rintro e w46 ⟨rfl, hb⟩
     refine ⟨_, rfl, ?_⟩
     replace BK185 := bkb BK185 hb
     replace BK186 := bkb BK186 hb
     replace HB := bls HB hb
     (try clear hb)
     (try clear hb2)
     (try clear hk)
     (try clear hi)
     refine hK.out _ _ ⟨(blk_cell BK185.out 0).trans rfl, (blk_cell BK185.out 1).trans rfl⟩ (fun hHeld => ?_)
     clear hK K
     refine norm_ (a' := ?_) ?_ ?_
     rotate_left
     ·show Act.put _ (some 59) _ = _
      simp only [Act.put, List.setIfInBounds_toArray, List.set_cons_zero, List.set_cons_succ, i64_w, i32_w]
      rfl
     refine one_ (i := 9) (N := some 61) #[true, true, true, true, true, true, true, true, true, true, false, true, true, true, true, false, false, false] rfl rfl (one_of HT_.out (by kernel_rfl)) (by decide) (fun K hK => ?_)
     refine goes_ Tryz.func123 (by kernel_rfl) rfl #[.int .i64 a0] (by rfl) rfl rfl (by (try simp only [List.map_toArray, List.map_cons, List.map_nil]); first | done | rfl | (simp only [List.length_drop, List.length_take]; rfl)) ?_
     with_reducible refine (fd_half.calls a0 t201 _ A31.out).mono ?_
     rintro e w47 ⟨rfl, hb⟩
     refine ⟨_, rfl, ?_⟩
     replace BK185 := bkb BK185 hb
     replace BK186 := bkb BK186 hb
     replace HB := bls HB hb
     (try clear hb)
     (try clear hb2)
     (try clear hk)
     (try clear hi)
     refine hK.out _ _ ⟨(blk_cell BK185.out 0).trans rfl, (blk_cell BK185.out 1).trans rfl⟩ (fun hHeld => ?_)
     clear hK K
     refine norm_ (a' := ?_) ?_ ?_
     rotate_left
     ·show Act.put _ (some 61) _ = _
      simp only [Act.put, List.setIfInBounds_toArray, List.set_cons_zero, List.set_cons_succ, i64_w, i32_w]
      rfl
     refine one_ (i := 10) (N := some 62) #[true, true, true, true, true, true, true, true, true, true, true, true, true, true, true, false, false, false] rfl rfl (one_of HT_.out (by kernel_rfl)) (by decide) (fun K hK => ?_)
     refine goes_ Tryz.func99 (by kernel_rfl) rfl #[.int .i64 a0, .int .u64 t200, .int .u64 t201] (by rfl) rfl rfl (by (try simp only [List.map_toArray, List.map_cons, List.map_nil]); first | done | rfl | (simp only [List.length_drop, List.length_take]; rfl)) ?_
     with_reducible refine (fd_mul.calls a0 t200 t201 t202 _ A32.out).mono ?_
     rintro e w48 ⟨rfl, hb⟩
     refine ⟨_, rfl, ?_⟩
     replace BK185 := bkb BK185 hb
     replace BK186 := bkb BK186 hb
     replace HB := bls HB hb
     (try clear hb)
     (try clear hb2)
     (try clear hk)
     (try clear hi)
     refine hK.out _ _ ⟨(blk_cell BK185.out 0).trans rfl, (blk_cell BK185.out 1).trans rfl⟩ (fun hHeld => ?_)
     clear hK K
     refine norm_ (a' := ?_) ?_ ?_
     rotate_left
     ·show Act.put _ (some 62) _ = _
      simp only [Act.put, List.setIfInBounds_toArray, List.set_cons_zero, List.set_cons_succ, i64_w, i32_w]
      rfl
     refine one_ (i := 15) (N := some 67) #[true, true, true, true, true, true, true, true, true, true, true, true, true, true, true, true, false, false] rfl rfl (one_of HT_.out (by kernel_rfl)) (by decide) (fun K hK => ?_)
     refine goes_ Tryz.func120 (by kernel_rfl) rfl #[.int .i64 a0, .int .i64 4, .int .u64 t194, .int .u64 a1_1] (by rfl) rfl rfl (by (try simp only [List.map_toArray, List.map_cons, List.map_nil]); first | done | rfl | (simp only [List.length_drop, List.length_take]; rfl)) ?_
     with_reducible refine (fd_operation.calls a0 4 t194 a1_1 t203 _ A33.out).mono ?_
     rintro e w49 ⟨rfl, hb⟩
     refine ⟨_, rfl, ?_⟩
     replace BK185 := bkb BK185 hb
     replace BK186 := bkb BK186 hb
     replace HB := bls HB hb
     (try clear hb)
     (try clear hb2)
     (try clear hk)
     (try clear hi)
     refine hK.out _ _ ⟨(blk_cell BK185.out 0).trans rfl, (blk_cell BK185.out 1).trans rfl⟩ (fun hHeld => ?_)
     clear hK K
     refine norm_ (a' := ?_) ?_ ?_
     rotate_left
     ·show Act.put _ (some 67) _ = _
      simp only [Act.put, List.setIfInBounds_toArray, List.set_cons_zero, List.set_cons_succ, i64_w, i32_w]
      rfl
     refine pu 16 68 HT_ ?_
     refine one_ (i := 17) (N := none) #[true, true, true, true, true, true, true, true, true, true, true, true, true, true, true, true, true, true] rfl rfl (one_of HT_.out (by kernel_rfl)) (by decide) (fun K hK => ?_)
     have hs50 : w49.cell? ⟨gb186, 0, none⟩ = some (.int .u64 0) := (blk_cell BK186.out 0).trans rfl
     have hfs50 := blk_frozen BK186.out 0
     have hns50_0 := NB185_186.out
     have hms50_0 := NB186_185.out
     have hs51 : w49.cell? ⟨gb186, 1, none⟩ = some (.int .u64 0) := (blk_cell BK186.out 1).trans rfl
     have hfs51 := blk_frozen BK186.out 1
     have hns51_0 := NB185_186.out
     have hms51_0 := NB186_185.out
     refine skip_ (w1 := ?_) (by rfl) rfl ?_ ?_
     rotate_left
     ·go_simp
      rfl
     refine hK.out _ _ ⟨((cell_far (p := ⟨gb186, _, none⟩) NB185_186.out _).trans (((cell_far (p := ⟨gb186, _, none⟩) NB185_186.out _).trans (hHeld.1)))), ((cell_far (p := ⟨gb186, _, none⟩) NB185_186.out _).trans (((cell_far (p := ⟨gb186, _, none⟩) NB185_186.out _).trans (hHeld.2))))⟩ (fun hHeld => ?_)
     clear hK K
     refine done_ (done_of HT_.out (by kernel_rfl)) ?_
     try go_wp2
     refine bodyPost_ret (results_cell_row rfl _ _ gb186 74 #[.int .u64 t202, .int .u64 t203] (0, 0) _ rfl (by (with_reducible repeat (first | refine blk_drewN ?_ _ | refine blk_drew ?_ | refine blk_alloc ?_ _)); refine blk_put (cs := #[.int .u64 t202, .int .u64 0]) ?_ 1 _ rfl; (with_reducible repeat (first | refine blk_drewN ?_ _ | refine blk_drew ?_ | refine blk_alloc ?_ _)); refine blk_put (cs := #[.int .u64 0, .int .u64 0]) ?_ 0 _ rfl; (with_reducible repeat (first | refine blk_drewN ?_ _ | refine blk_drew ?_ | refine blk_alloc ?_ _)); exact BK186.out) Tryz.underlying74 rfl (by kernel_rfl)) rfl ?_
     exact ⟨by first | rfl | (simp [errW_none, errW_some] <;> rfl) | (simp [*, errW_none, errW_some] <;> rfl), (blt HB).out⟩
    ·rw [if_neg c28] at H
     have c28b0 : (t195 == (-1)) = false := beq_eq_false_iff_ne.mpr c28
     have c28b1 : (t195 != (-1)) = true := bne_iff_ne.mpr c28
     replace H := Option.bind_eq_some_iff.mp H
     obtain ⟨t196, A52, H⟩ := H
     try dsimp only at H
     replace A52 := Aside0.mk A52
     replace H := Option.bind_eq_some_iff.mp H
     obtain ⟨t197, A53, H⟩ := H
     try dsimp only at H
     replace A53 := Aside0.mk A53
     replace H := Option.bind_eq_some_iff.mp H
     obtain ⟨t198, A54, H⟩ := H
     try dsimp only at H
     replace A54 := Aside0.mk A54
     simp only [Option.some.injEq, Prod.mk.injEq] at H
     obtain ⟨rfl, rfl⟩ := H
     try go_wp2
     replace BK185 := Aside0.mk (blk_drew BK185.out)
     replace BK186 := Aside0.mk (blk_drew BK186.out)
     replace HB := Aside0.mk (below_drew1 HB.out)
     refine start_ (n := 16) (S := fun w' => w'.cell? ⟨gb185, 0, none⟩ = some (.int .u64 a1_0) ∧ w'.cell? ⟨gb185, 1, none⟩ = some (.int .u64 a1_1)) (ds := []) #[false, false, false, false, false, false, false, false, false, false, false, false, false, false, false, false] (by kernel_rfl) rfl rfl ⟨(blk_cell BK185.out 0).trans rfl, (blk_cell BK185.out 1).trans rfl⟩ (fun hHeld => ?_); refine with_tabW fd_squareRoot.tab3 fd_squareRoot.bits3 (fun HT_ HW_ => ?_)
     generalize wc.drew = w55 at BK185 BK186 HB hHeld ⊢
     refine pu 0 21 HT_ ?_
     refine pu 1 22 HT_ ?_
     refine pu 2 23 HT_ ?_
     refine pu 3 24 HT_ ?_
     refine pu 4 25 HT_ ?_
     refine pu 7 28 HT_ ?_
     refine pu 11 32 HT_ ?_
     refine tk 5 26 HT_ HW_ hHeld ?_
     refine tk 8 29 HT_ HW_ hHeld ?_
     refine one_ (i := 6) (N := some 27) #[true, true, true, true, true, true, true, true, true, false, false, true, false, false, false, false] rfl rfl (one_of HT_.out (by kernel_rfl)) (by decide) (fun K hK => ?_)
     refine goes_ Tryz.func100 (by kernel_rfl) rfl #[.int .i64 a0, .int .u64 a1_0] (by rfl) rfl rfl (by (try simp only [List.map_toArray, List.map_cons, List.map_nil]); first | done | rfl | (simp only [List.length_drop, List.length_take]; rfl)) ?_
     with_reducible refine (fd_size.calls a0 a1_0 t189 _ A21.out).mono ?_
     rintro e w56 ⟨rfl, hb⟩
     refine ⟨_, rfl, ?_⟩
     replace BK185 := bkb BK185 hb
     replace BK186 := bkb BK186 hb
     replace HB := bls HB hb
     (try clear hb)
     (try clear hb2)
     (try clear hk)
     (try clear hi)
     refine hK.out _ _ ⟨(blk_cell BK185.out 0).trans rfl, (blk_cell BK185.out 1).trans rfl⟩ (fun hHeld => ?_)
     clear hK K
     refine norm_ (a' := ?_) ?_ ?_
     rotate_left
     ·show Act.put _ (some 27) _ = _
      simp only [Act.put, List.setIfInBounds_toArray, List.set_cons_zero, List.set_cons_succ, i64_w, i32_w]
      rfl
     refine one_ (i := 9) (N := some 30) #[true, true, true, true, true, true, true, true, true, true, false, true, false, false, false, false] rfl rfl (one_of HT_.out (by kernel_rfl)) (by decide) (fun K hK => ?_)
     refine goes_ Tryz.func79 (by kernel_rfl) rfl #[.int .i64 a0, .agg #[.int .u64 a1_0, .int .u64 a1_1]] (by rfl) rfl rfl (by (try simp only [List.map_toArray, List.map_cons, List.map_nil]); first | done | rfl | (simp only [List.length_drop, List.length_take]; rfl)) ?_
     with_reducible refine (fd_distance.calls kj2 a0 a1_0 a1_1 t190 _ A22.out).mono ?_
     rintro e w57 ⟨rfl, hb⟩
     refine ⟨_, rfl, ?_⟩
     replace BK185 := bkb BK185 hb
     replace BK186 := bkb BK186 hb
     replace HB := bls HB hb
     (try clear hb)
     (try clear hb2)
     (try clear hk)
     (try clear hi)
     refine hK.out _ _ ⟨(blk_cell BK185.out 0).trans rfl, (blk_cell BK185.out 1).trans rfl⟩ (fun hHeld => ?_)
     clear hK K
     refine norm_ (a' := ?_) ?_ ?_
     rotate_left
     ·show Act.put _ (some 30) _ = _
      simp only [Act.put, List.setIfInBounds_toArray, List.set_cons_zero, List.set_cons_succ, i64_w, i32_w]
      rfl
     refine one_ (i := 10) (N := some 31) #[true, true, true, true, true, true, true, true, true, true, true, true, false, false, false, false] rfl rfl (one_of HT_.out (by kernel_rfl)) (by decide) (fun K hK => ?_)
     refine goes_ Tryz.func97 (by kernel_rfl) rfl #[.int .i64 a0, .int .u64 t189, .int .u64 t190] (by rfl) rfl rfl (by (try simp only [List.map_toArray, List.map_cons, List.map_nil]); first | done | rfl | (simp only [List.length_drop, List.length_take]; rfl)) ?_
     with_reducible refine (fd_add.calls a0 t189 t190 t191 _ A23.out).mono ?_
     rintro e w58 ⟨rfl, hb⟩
     refine ⟨_, rfl, ?_⟩
     replace BK185 := bkb BK185 hb
     replace BK186 := bkb BK186 hb
     replace HB := bls HB hb
     (try clear hb)
     (try clear hb2)
     (try clear hk)
     (try clear hi)
     refine hK.out _ _ ⟨(blk_cell BK185.out 0).trans rfl, (blk_cell BK185.out 1).trans rfl⟩ (fun hHeld => ?_)
     clear hK K
     refine norm_ (a' := ?_) ?_ ?_
     rotate_left
     ·show Act.put _ (some 31) _ = _
      simp only [Act.put, List.setIfInBounds_toArray, List.set_cons_zero, List.set_cons_succ, i64_w, i32_w]
      rfl
     refine one_ (i := 12) (N := some 33) #[true, true, true, true, true, true, true, true, true, true, true, true, true, false, false, false] rfl rfl (one_of HT_.out (by kernel_rfl)) (by decide) (fun K hK => ?_)
     refine goes_ Tryz.func123 (by kernel_rfl) rfl #[.int .i64 a0] (by rfl) rfl rfl (by (try simp only [List.map_toArray, List.map_cons, List.map_nil]); first | done | rfl | (simp only [List.length_drop, List.length_take]; rfl)) ?_
     with_reducible refine (fd_half.calls a0 t192 _ A24.out).mono ?_
     rintro e w59 ⟨rfl, hb⟩
     refine ⟨_, rfl, ?_⟩
     replace BK185 := bkb BK185 hb
     replace BK186 := bkb BK186 hb
     replace HB := bls HB hb
     (try clear hb)
     (try clear hb2)
     (try clear hk)
     (try clear hi)
     refine hK.out _ _ ⟨(blk_cell BK185.out 0).trans rfl, (blk_cell BK185.out 1).trans rfl⟩ (fun hHeld => ?_)
     clear hK K
     refine norm_ (a' := ?_) ?_ ?_
     rotate_left
     ·show Act.put _ (some 33) _ = _
      simp only [Act.put, List.setIfInBounds_toArray, List.set_cons_zero, List.set_cons_succ, i64_w, i32_w]
      rfl
     refine one_ (i := 13) (N := some 34) #[true, true, true, true, true, true, true, true, true, true, true, true, true, true, false, false] rfl rfl (one_of HT_.out (by kernel_rfl)) (by decide) (fun K hK => ?_)
     refine goes_ Tryz.func99 (by kernel_rfl) rfl #[.int .i64 a0, .int .u64 t191, .int .u64 t192] (by rfl) rfl rfl (by (try simp only [List.map_toArray, List.map_cons, List.map_nil]); first | done | rfl | (simp only [List.length_drop, List.length_take]; rfl)) ?_
     with_reducible refine (fd_mul.calls a0 t191 t192 t193 _ A25.out).mono ?_
     rintro e w60 ⟨rfl, hb⟩
     refine ⟨_, rfl, ?_⟩
     replace BK185 := bkb BK185 hb
     replace BK186 := bkb BK186 hb
     replace HB := bls HB hb
     (try clear hb)
     (try clear hb2)
     (try clear hk)
     (try clear hi)
     refine hK.out _ _ ⟨(blk_cell BK185.out 0).trans rfl, (blk_cell BK185.out 1).trans rfl⟩ (fun hHeld => ?_)
     clear hK K
     refine norm_ (a' := ?_) ?_ ?_
     rotate_left
     ·show Act.put _ (some 34) _ = _
      simp only [Act.put, List.setIfInBounds_toArray, List.set_cons_zero, List.set_cons_succ, i64_w, i32_w]
      rfl
     refine one_ (i := 14) (N := some 35) #[true, true, true, true, true, true, true, true, true, true, true, true, true, true, true, false] rfl rfl (one_of HT_.out (by kernel_rfl)) (by decide) (fun K hK => ?_)
     refine goes_ Tryz.func121 (by kernel_rfl) rfl #[.int .i64 a0, .int .u64 t193] (by rfl) rfl rfl (by (try simp only [List.map_toArray, List.map_cons, List.map_nil]); first | done | rfl | (simp only [List.length_drop, List.length_take]; rfl)) ?_
     with_reducible refine (fd_root.calls a0 t193 t194 _ A26.out).mono ?_
     rintro e w61 ⟨rfl, hb⟩
     refine ⟨_, rfl, ?_⟩
     replace BK185 := bkb BK185 hb
     replace BK186 := bkb BK186 hb
     replace HB := bls HB hb
     (try clear hb)
     (try clear hb2)
     (try clear hk)
     (try clear hi)
     refine hK.out _ _ ⟨(blk_cell BK185.out 0).trans rfl, (blk_cell BK185.out 1).trans rfl⟩ (fun hHeld => ?_)
     clear hK K
     refine norm_ (a' := ?_) ?_ ?_
     rotate_left
     ·show Act.put _ (some 35) _ = _
      simp only [Act.put, List.setIfInBounds_toArray, List.set_cons_zero, List.set_cons_succ, i64_w, i32_w]
      rfl
     refine pu 15 5 HT_ ?_
     refine done_ (done_of HT_.out (by kernel_rfl)) ?_
     have hnb62 := NB185_186.out
     have hnc62 := NB186_185.out
     obtain ⟨hcz63_0, hcz63_1, hfz63_0, hfz63_1⟩ := cf2 BK185
     try go_wp2_with (first | ((with_reducible refine gate_callee (f := 92) rfl ?_); refine gL 39 Tryz.func92 #[.int .i64 a0, .int .u64 a1_0, .int .u64 0] ?_; (with_reducible refine (fd_order.calls a0 a1_0 0 t195 _ A27.out).mono ?_); rintro e w64 ⟨rfl, hb⟩; refine ⟨_, rfl, ?_⟩; replace BK185 := bkb BK185 hb; replace BK186 := bkb BK186 hb; replace HB := bls HB hb; clear hb; have hcz65_0 : w64.cell? ⟨gb185, 0, none⟩ = some (.int .u64 a1_0) := (blk_cell BK185.out 0).trans rfl; have hcz65_1 : w64.cell? ⟨gb185, 1, none⟩ = some (.int .u64 a1_1) := (blk_cell BK185.out 1).trans rfl; have hfz65_0 := blk_frozen BK185.out 0; have hfz65_1 := blk_frozen BK185.out 1) | ((with_reducible refine gate_callee (f := 101) rfl ?_); refine gL 47 Tryz.func101 #[.int .i64 a0, .int .u64 a1_1, .int .u64 t194] ?_; (with_reducible refine (fd_div.calls a0 a1_1 t194 t196 _ A52.out).mono ?_); rintro e w66 ⟨rfl, hb⟩; refine ⟨_, rfl, ?_⟩; replace BK185 := bkb BK185 hb; replace BK186 := bkb BK186 hb; replace HB := bls HB hb; clear hb) | ((with_reducible refine gate_callee (f := 123) rfl ?_); refine gL 49 Tryz.func123 #[.int .i64 a0] ?_; (with_reducible refine (fd_half.calls a0 t197 _ A53.out).mono ?_); rintro e w67 ⟨rfl, hb⟩; refine ⟨_, rfl, ?_⟩; replace BK185 := bkb BK185 hb; replace BK186 := bkb BK186 hb; replace HB := bls HB hb; clear hb) | ((with_reducible refine gate_callee (f := 99) rfl ?_); refine gL 50 Tryz.func99 #[.int .i64 a0, .int .u64 t196, .int .u64 t197] ?_; (with_reducible refine (fd_mul.calls a0 t196 t197 t198 _ A54.out).mono ?_); rintro e w68 ⟨rfl, hb⟩; refine ⟨_, rfl, ?_⟩; replace BK185 := bkb BK185 hb; replace BK186 := bkb BK186 hb; replace HB := bls HB hb; clear hb; have hcz69_0 : w68.cell? ⟨gb186, 0, none⟩ = some (.int .u64 0) := (blk_cell BK186.out 0).trans rfl; have hcz69_1 : w68.cell? ⟨gb186, 1, none⟩ = some (.int .u64 0) := (blk_cell BK186.out 1).trans rfl; have hfz69_0 := blk_frozen BK186.out 0; have hfz69_1 := blk_frozen BK186.out 1))
     refine bodyPost_ret (results_cell_row rfl _ _ gb186 74 #[.int .u64 t194, .int .u64 t198] (0, 0) _ rfl (by (with_reducible repeat (first | refine blk_drewN ?_ _ | refine blk_drew ?_ | refine blk_alloc ?_ _)); refine blk_put (cs := #[.int .u64 t194, .int .u64 0]) ?_ 1 _ rfl; (with_reducible repeat (first | refine blk_drewN ?_ _ | refine blk_drew ?_ | refine blk_alloc ?_ _)); refine blk_put (cs := #[.int .u64 0, .int .u64 0]) ?_ 0 _ rfl; (with_reducible repeat (first | refine blk_drewN ?_ _ | refine blk_drew ?_ | refine blk_alloc ?_ _)); exact BK186.out) Tryz.underlying74 rfl (by kernel_rfl)) rfl ?_
     exact ⟨by first | rfl | (simp [errW_none, errW_some] <;> rfl) | (simp [*, errW_none, errW_some] <;> rfl), (blt HB).out⟩
end Go.Proofs.YtmoimcblmmcffaaGreat.PPC

namespace Go.Proofs.YtmoimcblmmcffaaGreat.PPC
open Go.RowKit Go.Proofs.YtmoimcblmmcffaaGreatW.PrintWords Go.Proofs.YtmoimcblmmcffaaGreatW.PrintLast Go.Proofs.YtmoimcblmmcffaaGreatW.PrintMore Go.Proofs.YtmoimcblmmcffaaGreatW.PrintZ
attribute [local go_sem] max2_int min2_int max_two min_two max_three min_three max_four min_four   -- for this text's walks alone
set_option linter.unusedVariables false
set_option linter.unusedSimpArgs false
def cx_Negated_1.T1 : Bool × List (List Nat × List Nat) := (true, [([], []), ([], []), ([1], [1]), ([0, 2], [0, 2]), ([], []), ([], []), ([5], [5]), ([4, 6, 3], [4, 6]), ([3, 7], [3, 7]), ([8, 7, 0, 1, 2, 3, 4, 5, 6, 7, 8], [8])])
def cx_Negated_1.B1 : List Nat := [0, 0, 2, 7, 0, 0, 32, 127, 255, 511]
theorem cx_Negated_1.tab1 : rtab .any (opsOf Tryz.f80 1) = cx_Negated_1.T1 := by kernel_rfl
theorem cx_Negated_1.bits1 : waitsOk cx_Negated_1.T1.2 cx_Negated_1.B1 = true := by kernel_rfl
end Go.Proofs.YtmoimcblmmcffaaGreat.PPC

namespace Go.Proofs.YtmoimcblmmcffaaGreat.B
open Go.RowKit
set_option linter.unusedSimpArgs false
set_option linter.unusedVariables false
abbrev ExX (g : Nat) (w0 W w : World) : Prop := (∀ b o, b < W.heap.size → b ≠ g → w.cell? ⟨b, o, none⟩ = W.cell? ⟨b, o, none⟩) ∧ W.heap.size ≤ w.heap.size ∧ Own w g 4 ∧ Below w0.heap.size w0 w ∧ w0.heap.size ≤ g
section
variable {g : Nat} {w0 W w w1 : World}
theorem ExX.call (h : ExX g w0 W w) (hb : Below w.heap.size w w1) : ExX g w0 W w1 :=
 ⟨fun b o hlt hn => ((bcell hb).1 b o (Nat.lt_of_lt_of_le hlt h.2.1)).trans (h.1 b o hlt hn), Nat.le_trans h.2.1 hb.size, h.2.2.1.call hb, h.2.2.2.1.trans (hb.mono h.2.2.2.1.size), h.2.2.2.2⟩
theorem ExX.drew (h : ExX g w0 W w) : ExX g w0 W w.drew := h.call (Below.refl _ _).drew
theorem ExX.put (h : ExX g w0 W w) (j : Nat) (v : Value) : ExX g w0 W (w.setCell ⟨g, j, none⟩ v) :=
 ⟨fun b o hlt hn => (World.cell?_setCell_other w _ _ v (by intro e; injection e with e1 e2; exact hn e1.symm)).trans (h.1 b o hlt hn), by simpa [World.setCell] using h.2.1, h.2.2.1.set _ _, h.2.2.2.1.setCell (p := ⟨g, j, none⟩) h.2.2.2.2 v, h.2.2.2.2⟩
end
theorem hideXY {P : Program} {c : Code} {Q : Exit → Act → World → Prop} {a : Act} {w W w1 : World} {n : Nat} {x0 x1 y0 y1 : Value} {t t' : TypeId} (HO : ExO n w W n 4 w1)
  (h : ∀ V gx, w1.heap.size = gx → V.cell? ⟨gx, 0, none⟩ = some x0 → V.cell? ⟨gx, 1, none⟩ = some x1 → V.cell? ⟨gx + 1, 0, none⟩ = some y0 → V.cell? ⟨gx + 1, 1, none⟩ = some y1 → Own V n 4 → n < gx → gx + 2 = V.heap.size → Below w.heap.size w V → c.wp P Q a V) :
  c.wp P Q a ((w1.alloc (.cells #[x0, x1] t (0, 0))).alloc (.cells #[y0, y1] t' (0, 0))) := by
 have e1 : (w1.alloc (.cells #[x0, x1] t (0, 0))).heap.size = w1.heap.size + 1 := by simp
 have k := heap_alloc_new (w1.alloc (.cells #[x0, x1] t (0, 0))) (.cells #[y0, y1] t' (0, 0))
 rw [e1] at k
 have k2 := (Below.heap_alloc (w1.alloc (.cells #[x0, x1] t (0, 0))) (.cells #[y0, y1] t' (0, 0)) w1.heap.size (by rw [e1]; omega)).trans (heap_alloc_new w1 _)
 exact h _ _ rfl (cell_of_row _ _ 0 _ t (0, 0) k2) (cell_of_row _ _ 1 _ t (0, 0) k2) (cell_of_row _ _ 0 _ t' (0, 0) k) (cell_of_row _ _ 1 _ t' (0, 0) k) ((HO.2.alloc _).alloc _) HO.2.2.2 (by simp) (below_alloc0 (below_alloc0 HO.1.2.2 _) _)
theorem hideFn {P : Program} {c : Code} {Q : Exit → Act → World → Prop} {a : Act} {w V : World} {n gx : Nat} {x0 x1 y0 y1 f0 f1 f2 f3 : Value} {t : TypeId}
  (k0 : V.cell? ⟨gx, 0, none⟩ = some x0) (k1 : V.cell? ⟨gx, 1, none⟩ = some x1) (k2 : V.cell? ⟨gx + 1, 0, none⟩ = some y0) (k3 : V.cell? ⟨gx + 1, 1, none⟩ = some y1) (ho : Own V n 4) (hs : gx + 2 = V.heap.size) (hb : Below w.heap.size w V)
  (h : ∀ X, X.cell? ⟨gx, 0, none⟩ = some x0 → X.cell? ⟨gx, 1, none⟩ = some x1 → X.cell? ⟨gx + 1, 0, none⟩ = some y0 → X.cell? ⟨gx + 1, 1, none⟩ = some y1 → X.cell? ⟨gx + 2, 0, none⟩ = some f0 → X.cell? ⟨gx + 2, 1, none⟩ = some f1 → X.cell? ⟨gx + 2, 2, none⟩ = some f2 → X.cell? ⟨gx + 2, 3, none⟩ = some f3 → Own X n 4 → gx + 3 = X.heap.size → Below w.heap.size w X → c.wp P Q a X) :
  c.wp P Q a (V.alloc (.cells #[f0, f1, f2, f3] t (0, 0))) := by
 have hb2 : Below V.heap.size V (V.alloc (.cells #[f0, f1, f2, f3] t (0, 0))) := below_alloc0 (Below.refl _ _) _
 have k := heap_alloc_new V (.cells #[f0, f1, f2, f3] t (0, 0))
 rw [← hs] at k
 refine h _ (((bcell hb2).1 _ _ (by omega)).trans k0) (((bcell hb2).1 _ _ (by omega)).trans k1) (((bcell hb2).1 _ _ (by omega)).trans k2) (((bcell hb2).1 _ _ (by omega)).trans k3) ?_ ?_ ?_ ?_ (ho.call hb2) (by simp; omega) (below_alloc0 hb _)
 all_goals exact cell_of_row _ _ _ _ t (0, 0) k
set_option maxRecDepth 100000 in
set_option maxHeartbeats 4000000 in
theorem apply_2 (t a b : Int) (s : ByteArray) (t' a' b' : Int) (s' : ByteArray) (p x0 x1 y0 y1 r0 r1 v0 v1 v2 : Int) (v3 : ByteArray) (w : World)
  (c1 : ∀ w, Calls Tryz.prog 52 #[.agg #[.int .i64 t, .int .u64 a, .int .u64 b, .string s], .agg #[.int .i64 t', .int .u64 a', .int .u64 b', .string s']] w (Ret (.tuple #[.int .i64 p, .agg #[.int .u64 x0, .int .u64 x1], .agg #[.int .u64 y0, .int .u64 y1], .int .i64 0]) w))
  (c2 : ∀ w, Calls Tryz.prog 55 #[.int .i64 p, .agg #[.int .u64 x0, .int .u64 x1], .agg #[.int .u64 y0, .int .u64 y1]] w (Ret (.agg #[.int .u64 r0, .int .u64 r1]) w))
  (c3 : ∀ w, Calls Tryz.prog 57 #[.int .i64 p, .agg #[.int .u64 r0, .int .u64 r1]] w (Ret (.agg #[.int .i64 v0, .int .u64 v1, .int .u64 v2, .string v3]) w)) :
  Calls Tryz.prog 12 #[.int .i64 2, .agg #[.int .i64 t, .int .u64 a, .int .u64 b, .string s], .agg #[.int .i64 t', .int .u64 a', .int .u64 b', .string s']] w (Ret (.tuple #[.agg #[.int .i64 v0, .int .u64 v1, .int .u64 v2, .string v3], .int .i64 0]) w) := by
 go_enter Tryz.func12, Tryz.ntmps12
 go_upto_region 1 with (fail)
 refine hide2own w (fun W k0 k1 ho HW => ?_)
 have HO : ExO (w.heap.size + 2) w W (w.heap.size + 2) 4 W := ⟨HW, ho⟩
 go_upto_region 4 with (go_at_call 52; refine (c1 _).mono ?_; rintro e w1 ⟨rfl, hb1⟩; have HO := HO.call hb1)
 refine hideXY HO (fun V gx hgx i0 i1 i2 i3 hown hn hs hbl => ?_)
 rw [hgx]
 clear k0 k1 ho HW HO c1
 go_upto_region 7 with (fail)
 rw [← hs]
 refine hideFn i0 i1 i2 i3 hown hs hbl (fun X j0 j1 j2 j3 f0 f1 f2 f3 hown2 hs2 hbl2 => ?_)
 clear i0 i1 i2 i3 hown hbl
 have q0 : gx < X.heap.size := by omega
 have q1 : gx + 1 < X.heap.size := by omega
 have q2 : gx + 2 < X.heap.size := by omega
 have n0 : gx ≠ w.heap.size + 2 := by omega
 have n1 : gx + 1 ≠ w.heap.size + 2 := by omega
 have n2 : gx + 2 ≠ w.heap.size + 2 := by omega
 have HX : ExX (w.heap.size + 2) w X X := ⟨fun _ _ _ _ => rfl, Nat.le_refl _, hown2, hbl2, by omega⟩
 clear hs hs2 hgx hn
 have hr : w.heap.size + 1 + 1 = w.heap.size + 2 := rfl
 rw [hr]
 generalize gx + 1 = gy at *
 generalize gx + 2 = gz at *
 generalize w.heap.size + 2 = gr at *
 go_region_held3 (fun w' => ExX gr w X w') (first | (with_reducible assumption) | (with_reducible exact ExX.call (by assumption) hb8) | (with_reducible exact ExX.call (by assumption) hb9) | ((with_reducible refine ExX.drew ?_); (with_reducible assumption)) | (with_reducible exact (((ExX.put (by assumption) _ _).put _ _).put _ _).put _ _)) (first | (go_at_call 55; (with_reducible refine (c2 _).mono ?_); rintro e w8 ⟨rfl, hb8⟩) | (go_at_call 57; (with_reducible refine (c3 _).mono ?_); rintro e w9 ⟨rfl, hb9⟩))
 go_wp2
 have h := (by with_reducible assumption : ExX _ _ _ _)
 obtain ⟨e0, e1, e2, e3⟩ := Own.read4 (n := 0) h.2.2.1
 exact bodyPost_ret (v := .tuple #[.agg #[.int .i64 v0, .int .u64 v1, .int .u64 v2, .string v3], .int .i64 0]) (by simp [results, Tryz.results12, go_sem, e0, e1, e2, e3]) rfl ⟨rfl, h.2.2.2.1⟩
set_option maxRecDepth 100000 in
set_option maxHeartbeats 4000000 in
theorem of_SqrtOf_ok (t a b : Int) (s : ByteArray) (p x0 x1 : Int) (r0 r1 v0 v1 v2 : Int) (v3 : ByteArray) (w : World)
  (c1 : ∀ w, Calls Tryz.prog 72 #[.agg #[.int .i64 t, .int .u64 a, .int .u64 b, .string s]] w (Ret (.tuple #[.int .i64 p, .agg #[.int .u64 x0, .int .u64 x1], .int .i64 0]) w))
  (c2 : ∀ w, Calls Tryz.prog 82 #[.int .i64 p, .agg #[.int .u64 x0, .int .u64 x1]] w (Ret (.agg #[.int .u64 r0, .int .u64 r1]) w))
  (c3 : ∀ w, Calls Tryz.prog 57 #[.int .i64 p, .agg #[.int .u64 r0, .int .u64 r1]] w (Ret (.agg #[.int .i64 v0, .int .u64 v1, .int .u64 v2, .string v3]) w)) :
  Calls Tryz.prog 77 #[.agg #[.int .i64 t, .int .u64 a, .int .u64 b, .string s], .func (.func 82) #[] #[]] w (Ret (.tuple #[.agg #[.int .i64 v0, .int .u64 v1, .int .u64 v2, .string v3], .int .i64 0]) w) := by
 go_enter Tryz.func77, Tryz.ntmps77
 go_upto_region 1 with (fail)
 refine hide1own w (fun W k0 ho HW => ?_)
 have HO : ExO (w.heap.size + 1) w W (w.heap.size + 1) 4 W := ⟨HW, ho⟩
 go_wp2_with (first | (go_at_call 72; refine (c1 _).mono ?_; rintro e w1 ⟨rfl, hb1⟩; have HO := HO.call hb1) | (go_at_call 82; refine (c2 _).mono ?_; rintro e w2 ⟨rfl, hb2⟩; have HO := (HO.alloc _).call hb2) | (go_at_call 57; refine (c3 _).mono ?_; rintro e w3 ⟨rfl, hb3⟩; have HO := HO.call hb3))
 have h := ExO.put (ExO.put (ExO.put (ExO.put HO 0 (.int .i64 v0)) 1 (.int .u64 v1)) 2 (.int .u64 v2)) 3 (.string v3)
 obtain ⟨e0, e1, e2, e3⟩ := Own.read4 (n := 0) h.2
 exact bodyPost_ret (v := .tuple #[.agg #[.int .i64 v0, .int .u64 v1, .int .u64 v2, .string v3], .int .i64 0]) (by simp [results, Tryz.results77, go_sem, e0, e1, e2, e3]) rfl ⟨rfl, h.end⟩
set_option maxRecDepth 100000 in
set_option maxHeartbeats 4000000 in
theorem SqrtOf_w (t a b : Int) (s : ByteArray) (v0 v1 v2 : Int) (v3 : ByteArray) (er : Int) (w : World)
  (c1 : ∀ w, Calls Tryz.prog 77 #[.agg #[.int .i64 t, .int .u64 a, .int .u64 b, .string s], .func (.func 82) #[] #[]] w (Ret (.tuple #[.agg #[.int .i64 v0, .int .u64 v1, .int .u64 v2, .string v3], .int .i64 er]) w)) :
  Calls Tryz.prog 28 #[.agg #[.int .i64 t, .int .u64 a, .int .u64 b, .string s]] w (Ret (.tuple #[.agg #[.int .i64 v0, .int .u64 v1, .int .u64 v2, .string v3], .int .i64 er]) w) := by
 go_enter Tryz.func28, Tryz.ntmps28
 go_upto_region 1 with (fail)
 refine hide1own w (fun W k0 ho HW => ?_)
 have HO : ExO (w.heap.size + 1) w W (w.heap.size + 1) 4 W := ⟨HW, ho⟩
 go_wp2_with (go_at_call 77; refine (c1 _).mono ?_; rintro e w1 ⟨rfl, hb1⟩; have HO := HO.call hb1)
 have h := ExO.put (ExO.put (ExO.put (ExO.put HO 0 (.int .i64 v0)) 1 (.int .u64 v1)) 2 (.int .u64 v2)) 3 (.string v3)
 obtain ⟨e0, e1, e2, e3⟩ := Own.read4 (n := 0) h.2
 exact bodyPost_ret (v := .tuple #[.agg #[.int .i64 v0, .int .u64 v1, .int .u64 v2, .string v3], .int .i64 er]) (by simp [results, Tryz.results28, go_sem, e0, e1, e2, e3]) rfl ⟨rfl, h.end⟩
end Go.Proofs.YtmoimcblmmcffaaGreat.B

namespace Go.Proofs.YtmoimcblmmcffaaGreat.B
open Go.RowKit NC N PPC Go.Proofs.YtmoimcblmmcffaaGreatW.PrintWords
set_option linter.unusedSimpArgs false
set_option linter.unusedVariables false
def Blks (V : World) (L : List (Nat × Array Value)) : Prop := ∀ p ∈ L, (∀ i, V.cell? ⟨p.1, i, none⟩ = p.2[i]?) ∧ p.1 < V.heap.size
theorem Blks.call {V V' : World} {L : List (Nat × Array Value)} (h : Blks V L) (hb : Below V.heap.size V V') : Blks V' L := fun p hp =>
 ⟨fun i => ((bcell hb).1 _ i (h p hp).2).trans ((h p hp).1 i), Nat.lt_of_lt_of_le (h p hp).2 hb.size⟩
theorem blk_new' (W : World) (cs : Array Value) (t : TypeId) : Blks (W.alloc (.cells cs t (0, 0))) [(W.heap.size, cs)] := fun p hp => by
 obtain rfl := List.mem_singleton.1 hp
 exact ⟨fun i => cell_of_row _ _ i cs t (0, 0) (heap_alloc_new W _), by simp⟩
theorem hideB {P : Program} {c : Code} {Q : Exit → Act → World → Prop} {a : Act} {w W w1 : World} {cs : Array Value} {t : TypeId} {L : List (Nat × Array Value)} (hL : Blks W L) (hW : Below w.heap.size w W) (hb : Below W.heap.size W w1)
  (h : ∀ V g, w1.heap.size = g → Blks V ((g, cs) :: L) → Below w.heap.size w V → c.wp P Q a V) : c.wp P Q a (w1.alloc (.cells cs t (0, 0))) := by
 have hb2 : Below W.heap.size W (w1.alloc (.cells cs t (0, 0))) := below_alloc0 hb _
 refine h _ _ rfl (fun p hp => ?_) (hW.trans (hb2.mono hW.size))
 rcases List.mem_cons.1 hp with rfl | hp
 ·exact ⟨fun i => cell_of_row _ _ i cs t (0, 0) (heap_alloc_new w1 _), by simp⟩
 ·exact (hL.call hb2) p hp
set_option maxRecDepth 100000 in
set_option maxHeartbeats 1000000 in
theorem whole_c (re im x y : Int) (w : World) (h : r8_FromInteger.f 1 re = some x) (h' : r8_FromInteger.f 1 im = some y) :
  Calls Tryz.prog 51 #[.int .i64 re, .int .i64 im] w (Ret (.agg #[.int .i64 3, .int .u64 x, .int .u64 y, .string { data := #[] }]) w) := by
 have c1 : ∀ w, Calls Tryz.prog 23 #[.int .i64 1, .int .i64 re] w (Ret (.int .u64 x) w) := fun w => r8_FromInteger.calls 1 re x w h
 have c2 : ∀ w, Calls Tryz.prog 23 #[.int .i64 1, .int .i64 im] w (Ret (.int .u64 y) w) := fun w => r8_FromInteger.calls 1 im y w h'
 clear h h'
 go_enter Tryz.func51, Tryz.ntmps51
 go_upto_region 1 with (fail)
 refine hide0own (fun W n hn ho hlt hB => ?_)
 rw [hn]
 have HO : ExO n w W n 4 W := ⟨ExtN.refl (Nat.le_of_lt hlt) hB, ho⟩
 go_wp2_with (go_at_call 23; (first | ((with_reducible refine (c1 _).mono ?_); rintro e w1 ⟨rfl, hb1⟩; have HO := HO.call hb1) | ((with_reducible refine (c2 _).mono ?_); rintro e w1 ⟨rfl, hb1⟩; have HO := HO.call hb1)))
 have hr := Own.read4 (n := 0) ((((HO.2.set ⟨n, 0, none⟩ (.int .i64 3)).set ⟨n, 1, none⟩ (.int .u64 x)).set ⟨n, 2, none⟩ (.int .u64 y)).set ⟨n, 3, none⟩ (.string { data := #[] }))
 exact bodyPost_ret (v := .agg #[.int .i64 3, .int .u64 x, .int .u64 y, .string { data := #[] }]) (by simp [results, Tryz.results51, go_sem, hr.1, hr.2.1, hr.2.2.1, hr.2.2.2]) rfl ⟨rfl, by have hz := below_row HO.1.2.2 (.int .i64 3) (.int .u64 x) (.int .u64 y) (.string { data := #[] }) (g := n) (Nat.le_of_eq hn); exact hz⟩
theorem wh_12 (w : World) : Calls Tryz.prog 51 #[.int .i64 1, .int .i64 2] w (Ret (.agg #[.int .i64 3, .int .u64 1065353216, .int .u64 1073741824, .string { data := #[] }]) w) := whole_c 1 2 1065353216 1073741824 w (by decide +kernel) (by decide +kernel)
theorem wh_34 (w : World) : Calls Tryz.prog 51 #[.int .i64 3, .int .i64 4] w (Ret (.agg #[.int .i64 3, .int .u64 1077936128, .int .u64 1082130432, .string { data := #[] }]) w) := whole_c 3 4 1077936128 1082130432 w (by decide +kernel) (by decide +kernel)
theorem wh_m34 (w : World) : Calls Tryz.prog 51 #[.int .i64 (-3), .int .i64 4] w (Ret (.agg #[.int .i64 3, .int .u64 3225419776, .int .u64 1082130432, .string { data := #[] }]) w) := whole_c (-3) 4 3225419776 1082130432 w (by decide +kernel) (by decide +kernel)
theorem wh_11 (w : World) : Calls Tryz.prog 51 #[.int .i64 1, .int .i64 1] w (Ret (.agg #[.int .i64 3, .int .u64 1065353216, .int .u64 1065353216, .string { data := #[] }]) w) := whole_c 1 1 1065353216 1065353216 w (by decide +kernel) (by decide +kernel)
theorem wh_m510 (w : World) : Calls Tryz.prog 51 #[.int .i64 (-5), .int .i64 10] w (Ret (.agg #[.int .i64 3, .int .u64 3231711232, .int .u64 1092616192, .string { data := #[] }]) w) := whole_c (-5) 10 3231711232 1092616192 w (by decide +kernel) (by decide +kernel)
theorem both_k (w : World) : Calls Tryz.prog 52 #[.agg #[.int .i64 3, .int .u64 1065353216, .int .u64 1073741824, .string { data := #[] }], .agg #[.int .i64 3, .int .u64 1077936128, .int .u64 1082130432, .string { data := #[] }]] w (Ret (.tuple #[.int .i64 1, .agg #[.int .u64 1065353216, .int .u64 1073741824], .agg #[.int .u64 1077936128, .int .u64 1082130432], .int .i64 0]) w) := by
 have h := both_c 3 1065353216 1073741824 { data := #[] } 3 1077936128 1082130432 { data := #[] } w (by decide) (by decide) (by decide) (by decide)
 rw [show bothV 3 1065353216 1073741824 { data := #[] } 3 1077936128 1082130432 { data := #[] } = (1, 1065353216, 1073741824, 1077936128, 1082130432, 0) by decide +kernel] at h
 exact h
theorem apply_k (w : World) : Calls Tryz.prog 12 #[.int .i64 2, .agg #[.int .i64 3, .int .u64 1065353216, .int .u64 1073741824, .string { data := #[] }], .agg #[.int .i64 3, .int .u64 1077936128, .int .u64 1082130432, .string { data := #[] }]] w (Ret (.tuple #[.agg #[.int .i64 3, .int .u64 3231711232, .int .u64 1092616192, .string { data := #[] }], .int .i64 0]) w) :=
 apply_2 3 1065353216 1073741824 { data := #[] } 3 1077936128 1082130432 { data := #[] } 1 1065353216 1073741824 1077936128 1082130432 3231711232 1092616192 3 3231711232 1092616192 { data := #[] } w both_k (fun w => fd_times.calls 1 1065353216 1073741824 1077936128 1082130432 3231711232 1092616192 w (by decide +kernel)) (fun w => fd_value.calls 1 3231711232 1092616192 3 3231711232 1092616192 { data := #[] } w (by decide +kernel))
theorem size_k (w : World) : Calls Tryz.prog 26 #[.agg #[.int .i64 3, .int .u64 1077936128, .int .u64 1082130432, .string { data := #[] }]] w (Ret (.tuple #[.agg #[.int .i64 1, .int .u64 1084227584, .int .u64 0, .string { data := #[] }], .int .i64 0]) w) :=
 cx_SizeOf.calls 9 3 1077936128 1082130432 { data := #[] } 1 1084227584 0 { data := #[] } 0 w (by decide +kernel)
theorem sqrt_k (w : World) : Calls Tryz.prog 28 #[.agg #[.int .i64 3, .int .u64 3225419776, .int .u64 1082130432, .string { data := #[] }]] w (Ret (.tuple #[.agg #[.int .i64 3, .int .u64 1065353216, .int .u64 1073741824, .string { data := #[] }], .int .i64 0]) w) :=
 SqrtOf_w 3 3225419776 1082130432 { data := #[] } 3 1065353216 1073741824 { data := #[] } 0 w (fun w => of_SqrtOf_ok 3 3225419776 1082130432 { data := #[] } 1 3225419776 1082130432 1065353216 1073741824 3 1065353216 1073741824 { data := #[] } w
  (fun w => cx_open.calls 3 3225419776 1082130432 { data := #[] } 1 3225419776 1082130432 0 w (by decide +kernel)) (fun w => fd_squareRoot.calls 9 1 3225419776 1082130432 1065353216 1073741824 w (by decide +kernel)) (fun w => fd_value.calls 1 1065353216 1073741824 3 1065353216 1073741824 { data := #[] } w (by decide +kernel)))
theorem power_k (w : World) : Calls Tryz.prog 22 #[.agg #[.int .i64 3, .int .u64 1065353216, .int .u64 1065353216, .string { data := #[] }], .int .i64 4] w (Ret (.tuple #[.agg #[.int .i64 3, .int .u64 3229614080, .int .u64 0, .string { data := #[] }], .int .i64 0]) w) :=
 cx_PowerOf.calls 40 3 1065353216 1065353216 { data := #[] } 4 3 3229614080 0 { data := #[] } 0 w (by decide +kernel)
theorem kd_one {w : World} {g : Nat} {x y : Int} {s : ByteArray} (h : ∀ i, w.cell? ⟨g, i, none⟩ = (#[.int .i64 3, .int .u64 x, .int .u64 y, .string s] : Array Value)[i]?) : Kd.C k24 w (some ⟨g, 0, none⟩) ([(⟨3, x, y, s⟩ : S24)] : List S24).length [(⟨3, x, y, s⟩ : S24)] := by
 refine ⟨rfl, by simp, fun _ => ⟨_, rfl, fun j p hj => ?_⟩⟩
 rcases j with _ | j
 ·obtain rfl : (⟨3, x, y, s⟩ : S24) = p := by simpa using hj
  refine ⟨[.int .i64 3, .int .u64 x, .int .u64 y, .string s], rfl, k24_mk w _, fun i u hu => ?_⟩
  have e : (⟨g, 0, none⟩ : Addr).add (0 * k24.sz + i) = ⟨g, i, none⟩ := by cases i <;> simp [Addr.add]
  rw [e, h i, ← hu]
  simp
 ·simp at hj
theorem dot_k (g1 g2 : Nat) (w : World) (h1 : ∀ i, w.cell? ⟨g1, i, none⟩ = (#[.int .i64 3, .int .u64 1065353216, .int .u64 1065353216, .string { data := #[] }] : Array Value)[i]?) (h2 : ∀ i, w.cell? ⟨g2, i, none⟩ = (#[.int .i64 3, .int .u64 1065353216, .int .u64 1065353216, .string { data := #[] }] : Array Value)[i]?) :
  Calls Tryz.prog 38 #[.int .i64 3, .slice (some ⟨g1, 0, none⟩) 1 1, .slice (some ⟨g2, 0, none⟩) 1 1] w (Ret (.tuple #[.agg #[.int .i64 3, .int .u64 1073741824, .int .u64 0, .string { data := #[] }], .int .i64 0]) w) :=
 cx_DotOf.calls 9 3 (some ⟨g1, 0, none⟩) 1 [⟨3, 1065353216, 1065353216, { data := #[] }⟩] (some ⟨g2, 0, none⟩) 1 [⟨3, 1065353216, 1065353216, { data := #[] }⟩] 3 1073741824 0 { data := #[] } 0 w (kd_one h1) (by decide) (kd_one h2) (by decide) (by decide +kernel)
set_option maxRecDepth 100000 in
set_option maxHeartbeats 8000000 in
theorem awake_c (w : World) : Calls Tryz.prog 10 #[] w (Ret (.bool true) w) := by
 obtain ⟨z, c4⟩ : ∃ z : Int, ∀ w, Calls Tryz.prog 22 #[.agg #[.int .i64 3, .int .u64 1065353216, .int .u64 1065353216, .string { data := #[] }], .int .i64 4] w (Ret (.tuple #[.agg #[.int .i64 3, .int .u64 3229614080, .int .u64 0, .string { data := #[] }], .int .i64 0]) w) := ⟨0, fun w => power_k w⟩
 have L0 : Blks w [] := fun p hp => by cases hp
 have HE := Below.refl w.heap.size w
 go_enter Tryz.func10, Tryz.ntmps10
 go_upto_region 2 with (first | (go_at_call 51; (with_reducible refine (wh_12 _).mono ?_); rintro e wh ⟨rfl, hbh⟩; have HE := below_call HE hbh) | (go_at_call 51; (with_reducible refine (wh_34 _).mono ?_); rintro e wh ⟨rfl, hbh⟩; have HE := below_call HE hbh) | (go_at_call 12; (with_reducible refine (apply_k _).mono ?_); rintro e wa ⟨rfl, hba⟩; have HE := below_call HE hba))
 refine hideB L0 (Below.refl _ _) HE (fun V1 g1 hg1 L1 B1 => ?_)
 rw [hg1]
 clear hbh hba HE hg1
 have HE := Below.refl V1.heap.size V1
 go_upto_region 3 with (first | (go_at_call 51; (with_reducible refine (wh_34 _).mono ?_); rintro e wh ⟨rfl, hbh⟩; have HE := below_call HE hbh) | (go_at_call 26; (with_reducible refine (size_k _).mono ?_); rintro e wa ⟨rfl, hba⟩; have HE := below_call HE hba))
 refine hideB L1 B1 HE (fun V2 g2 hg2 L2 B2 => ?_)
 rw [hg2]
 clear hbh hba HE hg2
 have HE := Below.refl V2.heap.size V2
 go_upto_region 4 with (first | (go_at_call 51; (with_reducible refine (wh_m34 _).mono ?_); rintro e wh ⟨rfl, hbh⟩; have HE := below_call HE hbh) | (go_at_call 28; (with_reducible refine (sqrt_k _).mono ?_); rintro e wa ⟨rfl, hba⟩; have HE := below_call HE hba))
 refine hideB L2 B2 HE (fun V3 g3 hg3 L3 B3 => ?_)
 rw [hg3]
 clear hbh hba HE hg3
 have HE := Below.refl V3.heap.size V3
 go_upto_region 5 with (first | (go_at_call 51; (with_reducible refine (wh_11 _).mono ?_); rintro e wh ⟨rfl, hbh⟩; have HE := below_call HE hbh) | (go_at_call 22; (with_reducible refine (c4 _).mono ?_); rintro e wa ⟨rfl, hba⟩; have HE := below_call HE hba))
 refine hideB L3 B3 HE (fun V4 g4 hg4 L4 B4 => ?_)
 rw [hg4]
 clear hbh hba HE hg4
 have HE := Below.refl V4.heap.size V4
 go_upto_region 6 with (first | (go_at_call 51; (with_reducible refine (wh_11 _).mono ?_); rintro e wh ⟨rfl, hbh⟩; first | have HE := below_call HE hbh | (have HS := (blk_new' _ _ _).call hbh; have HE := below_call (below_alloc0 HE _) hbh)) | (go_at_call 38; refine (dot_k _ _ _ ((HS.call (below_alloc0 (Below.refl _ _) _)) _ List.mem_cons_self).1 ((blk_new' _ _ _) _ List.mem_cons_self).1).mono ?_; rintro e wa ⟨rfl, hba⟩; have HE := below_call (below_alloc0 HE _) hba))
 refine hideB L4 B4 HE (fun V5 g5 hg5 L5 B5 => ?_)
 rw [hg5]
 clear hbh hba HE hg5 L4 L3 L2 L1 L0
 have a1 := L5 _ (.tail _ (.tail _ (.tail _ (.tail _ (.head _)))))
 have a2 := L5 _ (.tail _ (.tail _ (.tail _ (.head _))))
 have a3 := L5 _ (.tail _ (.tail _ (.head _)))
 have a4 := L5 _ (.tail _ (.head _))
 have a5 := L5 _ (.head _)
 obtain ⟨k1, s1⟩ := a1
 obtain ⟨k2, s2⟩ := a2
 obtain ⟨k3, s3⟩ := a3
 obtain ⟨k4, s4⟩ := a4
 obtain ⟨k5, s5⟩ := a5
 dsimp only at k1 k2 k3 k4 k5 s1 s2 s3 s4 s5
 clear L5
 have HV : Ext w V5 V5 := Ext.refl B5
 first | (go_region_held3 (fun w' => Ext w V5 w') (first | assumption | (with_reducible exact Ext.call (by assumption) hb9) | ((with_reducible refine Ext.drew ?_); assumption)) (first | (go_at_call 51; (with_reducible refine (wh_m510 _).mono ?_); rintro e w9 ⟨rfl, hb9⟩) | (go_at_call 51; (with_reducible refine (wh_12 _).mono ?_); rintro e w9 ⟨rfl, hb9⟩))) | fail
 go_wp2
 go_ret
 exact ⟨rfl, Ext.end (by assumption)⟩
end Go.Proofs.YtmoimcblmmcffaaGreat.B

namespace Go.Proofs.YtmoimcblmmcffaaGreat
open Go.RowKit
def l10_awake.f : Option Bool := some true
theorem l10_awake.calls (r : Bool) (w : World) (h : l10_awake.f = some r) : Calls Tryz.prog 10 #[] w fun e w' => e = .returned (.bool r) ∧ Below w.heap.size w w' := by
 obtain rfl := Option.some.inj h
 exact B.awake_c w
end Go.Proofs.YtmoimcblmmcffaaGreat

namespace Go.Proofs.YtmoimcblmmcffaaGreat.B
open Go.RowKit NC N PPC PRA Go.Proofs.YtmoimcblmmcffaaGreatW.PrintWords
set_option linter.unusedSimpArgs false
set_option linter.unusedVariables false
theorem valueErr_f {t a b : Int} (S : ByteArray) (ha : U64 a) (hb : U64 b) : r10_ValueErr.f t a b S = some (openErrV t a b S) := by
 unfold r10_ValueErr.f r10_TypeErr.f openErrV ctypeErrV cpart bitsErrV
 by_cases h3 : t = 3
 ·subst h3
  simp only [if_true, Option.bind_some]
  by_cases hs : S.toList = []
  ·rw [if_pos hs, if_pos hs]
   by_cases h1 : a ≥ 4294967296
   ·rw [if_pos h1, if_neg]
    simp; omega
   ·rw [if_neg h1]
    by_cases h2 : b ≥ 4294967296
    ·rw [if_pos h2, if_neg]
     simp; omega
    ·rw [if_neg h2, if_pos]
     simp; omega
  ·rw [if_neg hs, if_neg hs]
 ·by_cases h4 : t = 4
  ·subst h4
   by_cases hs : S.toList = []
   ·simp [hs]
   ·simp [hs]
  ·rw [if_neg h3, if_neg h4]
   simp [h3, h4]
def twoV (t a b : Int) (S : ByteArray) (t' a' b' : Int) (S' : ByteArray) : Int :=
 if openErrV t a b S = 0 then (if openErrV t' a' b' S' = 0 then (if t = t' then 0 else 27) else openErrV t' a' b' S') else openErrV t a b S
theorem twoErr_f {t a b t' a' b' : Int} (S S' : ByteArray) (ha : U64 a) (hb : U64 b) (ha' : U64 a') (hb' : U64 b') : r10_TwoErr.f t a b S t' a' b' S' = some (twoV t a b S t' a' b' S') := by
 unfold r10_TwoErr.f twoV
 rw [valueErr_f S ha hb, valueErr_f S' ha' hb', Option.bind_some, Option.bind_some]
 by_cases h : openErrV t a b S = 0
 ·rw [if_pos h, if_pos h]
  by_cases h2 : openErrV t' a' b' S' = 0
  ·rw [if_pos h2, if_pos h2]
   by_cases h3 : t = t'
   ·rw [if_pos h3, if_pos h3]
   ·rw [if_neg h3, if_neg h3]
  ·rw [if_neg h2, if_neg h2]
 ·rw [if_neg h, if_neg h]
theorem open_ok {t a b : Int} {S : ByteArray} (ha : U64 a) (hb : U64 b) (h : openErrV t a b S = 0) : ∃ s x y, t = ct s ∧ a = ((x : Nat) : Int) ∧ b = ((y : Nat) : Int) ∧ x < 2 * signN s ∧ y < 2 * signN s := by
 obtain ⟨x, rfl⟩ := Int.eq_ofNat_of_zero_le ha.1
 obtain ⟨y, rfl⟩ := Int.eq_ofNat_of_zero_le hb.1
 unfold openErrV ctypeErrV cpart at h
 by_cases h3 : t = 3
 ·subst h3
  simp only [if_true] at h
  by_cases hs : S.toList = []
  ·rw [if_pos hs] at h
   by_cases hb : bitsErrV 1 [(x : Int), (y : Int)] = 0
   ·refine ⟨true, x, y, rfl, rfl, rfl, ?_, ?_⟩
    all_goals
     unfold bitsErrV at hb
     simp at hb
     show _ < 4294967296
     omega
   ·rw [if_neg hb] at h; cases h
  ·rw [if_neg hs] at h; cases h
 ·by_cases h4 : t = 4
  ·subst h4
   refine ⟨false, x, y, rfl, rfl, rfl, ?_, ?_⟩
   ·have := ha.2; show _ < 18446744073709551616; omega
   ·have := hb.2; show _ < 18446744073709551616; omega
  ·rw [if_neg h3, if_neg h4, if_neg (by decide)] at h; exact absurd h (by decide)
theorem both_err {t a b t' a' b' : Int} {S S' : ByteArray} : (bothV t a b S t' a' b' S').2.2.2.2.2 = twoV t a b S t' a' b' S' := by
 unfold bothV twoV
 by_cases h : openErrV t a b S = 0
 ·rw [if_pos h, if_pos h]
  simp only []
  by_cases h2 : openErrV t' a' b' S' = 0
  ·rw [if_pos h2, if_pos h2]
   have g1 : t = 3 ∨ t = 4 := by
    unfold openErrV ctypeErrV at h
    by_cases k3 : t = 3
    ·exact .inl k3
    ·by_cases k4 : t = 4
     ·exact .inr k4
     ·rw [if_neg k3, if_neg k4, if_neg (by decide)] at h; exact absurd h (by decide)
   have g2 : t' = 3 ∨ t' = 4 := by
    unfold openErrV ctypeErrV at h2
    by_cases k3 : t' = 3
    ·exact .inl k3
    ·by_cases k4 : t' = 4
     ·exact .inr k4
     ·rw [if_neg k3, if_neg k4, if_neg (by decide)] at h2; exact absurd h2 (by decide)
   rcases g1 with rfl | rfl <;> rcases g2 with rfl | rfl <;> rfl
  ·rw [if_neg h2, if_neg h2]
 ·rw [if_neg h, if_neg h]
end Go.Proofs.YtmoimcblmmcffaaGreat.B

namespace Go.Proofs.YtmoimcblmmcffaaGreat.B
open Go.RowKit NC N PPC PRA Go.Proofs.YtmoimcblmmcffaaGreatW.PrintWords
set_option linter.unusedSimpArgs false
set_option linter.unusedVariables false
theorem fits_f {p x y : Int} (hx : U64 x) (hy : U64 y) : fd_fits.f 3 p [x, y] = some (decide (bitsErrV p [x, y] = 0)) := by
 unfold fd_fits.f
 have r0 : rd [x, y] 0 = x := rfl
 have r1 : rd [x, y] 1 = y := rfl
 have w1 : wrap64 (0 + 1) = 1 := by unfold wrap64; decide
 have w2 : wrap64 (1 + 1) = 2 := by unfold wrap64; decide
 have l2 : (([x, y] : List Int).length : Int) = 2 := rfl
 have hd : ∀ z : Int, U64 z → (z / 4294967296 = 0 ↔ z < 4294967296) := fun z hz => by have := hz.1; omega
 simp only [fd_fits.l0, l2, r0, r1, w1, w2]
 unfold bitsErrV
 by_cases hp : p = 1
 ·subst hp
  by_cases h1 : x < 4294967296
  ·by_cases h2 : y < 4294967296
   ·simp [(hd x hx).2 h1, (hd y hy).2 h2]; omega
   ·have : ¬ y / 4294967296 = 0 := fun h => h2 ((hd y hy).1 h)
    simp [(hd x hx).2 h1, this]; omega
  ·have : ¬ x / 4294967296 = 0 := fun h => h1 ((hd x hx).1 h)
   simp [this]; omega
 ·simp [hp]
def madeErrV (t x y : Int) : Int := if ctypeErrV t = 0 then bitsErrV (cpart t) [x, y] else ctypeErrV t
theorem made_f {t x y : Int} (hx : U64 x) (hy : U64 y) : cx_Made.f 3 t x y = some (if madeErrV t x y = 0 then (t, x, y, (⟨#[]⟩ : ByteArray), 0) else (0, 0, 0, (⟨#[]⟩ : ByteArray), madeErrV t x y)) := by
 unfold cx_Made.f madeErrV
 rw [show cx_partType.f t = some (cpart t, ctypeErrV t) from rfl, Option.bind_some]
 by_cases he : ctypeErrV t = 0
 ·rw [if_pos he, if_pos he]
  dsimp only
  rw [fits_f hx hy, Option.bind_some]
  by_cases hb : bitsErrV (cpart t) [x, y] = 0
  ·rw [decide_eq_true hb, if_pos rfl, if_pos hb]
   unfold ctypeErrV at he
   by_cases h3 : t = 3
   ·subst h3; rfl
   ·by_cases h4 : t = 4
    ·subst h4; rfl
    ·rw [if_neg h3, if_neg h4] at he; exact absurd he (by decide)
  ·rw [decide_eq_false hb, if_neg (by decide), if_neg hb]
   unfold bitsErrV at hb ⊢
   by_cases hc : cpart t = 1 ∧ (([x, y] : List Int).any fun a => decide (4294967296 ≤ a)) = true
   ·rw [if_pos hc]
   ·rw [if_neg hc] at hb; exact absurd rfl hb
 ·rw [if_neg he, if_neg he, if_neg he]
theorem partsOf_f {t a b : Int} {S : ByteArray} (ha : U64 a) (hb : U64 b) : cx_PartsOf.f t a b S = some (if openErrV t a b S = 0 then (cpart t, a, b, 0) else (0, 0, 0, openErrV t a b S)) := by
 have hu : ∀ z : Int, U64 z → u64B z = true := fun z hz => by unfold u64B; rw [decide_eq_true hz.1, decide_eq_true hz.2]; rfl
 unfold cx_PartsOf.f cx_open.f
 rw [hu a ha, hu b hb, if_pos (by decide), Option.bind_some]
 by_cases h : openErrV t a b S = 0
 ·rw [if_pos h, if_pos h]
 ·rw [if_neg h, if_neg h]
end Go.Proofs.YtmoimcblmmcffaaGreat.B

namespace Go.Proofs.YtmoimcblmmcffaaGreat.PLV
open Go.RowKit Go.Proofs.YtmoimcblmmcffaaGreatW.PrintWords Go.Proofs.YtmoimcblmmcffaaGreatW.PrintLast Go.Proofs.YtmoimcblmmcffaaGreatW.PrintMore
attribute [local go_sem] max2_int min2_int max_two min_two max_three min_three max_four min_four   -- for this text's walks alone
set_option linter.unusedVariables false
set_option linter.unusedSimpArgs false
def errW : Option Int → Value
 | none => .nilIface
 | some c => .iface 0 (.int .i64 c)
theorem errW_none : errW none = .nilIface := rfl
theorem errW_some (c : Int) : errW (some c) = .iface 0 (.int .i64 c) := rfl
end Go.Proofs.YtmoimcblmmcffaaGreat.PLV

namespace Go.Proofs.YtmoimcblmmcffaaGreat.PLV
open Go.RowKit Go.Proofs.YtmoimcblmmcffaaGreat.PPC Go.Proofs.YtmoimcblmmcffaaGreat.PRA Go.Proofs.YtmoimcblmmcffaaGreatW.PrintWords Go.Proofs.YtmoimcblmmcffaaGreatW.PrintLast Go.Proofs.YtmoimcblmmcffaaGreatW.PrintMore Go.Proofs.YtmoimcblmmcffaaGreatW.PrintZ
attribute [local go_sem] max2_int min2_int max_two min_two max_three min_three max_four min_four   -- for this text's walks alone
set_option linter.unusedVariables false
set_option linter.unusedSimpArgs false
theorem eqA24 (d : Nat) (w : World) (x0 y0 : Int) (x1 y1 : Int) (x2 y2 : Int) (x3 y3 : ByteArray) :
  (Op.equalIn (d + 2) 24 (.agg #[.int .i64 x0, .int .u64 x1, .int .u64 x2, .string x3]) (.agg #[.int .i64 y0, .int .u64 y1, .int .u64 y2, .string y3])).run Tryz.prog w = .ok (x0 == y0 && (x1 == y1 && (x2 == y2 && (x3.toList == y3.toList)))) w := by
 refine eqA_of Tryz.underlying24 (by kernel_rfl) ?_
 refine eqf_cons (by rfl) (by go_simp; rfl) (by go_simp; rfl) (by go_simp) ?_
 refine eqf_cons (by rfl) (by go_simp; rfl) (by go_simp; rfl) (by go_simp) ?_
 refine eqf_cons (by rfl) (by go_simp; rfl) (by go_simp; rfl) (by go_simp) ?_
 exact eqf_last (by rfl) (by go_simp; rfl) (by go_simp; rfl) (by go_simp)
end Go.Proofs.YtmoimcblmmcffaaGreat.PLV

namespace Go.Proofs.YtmoimcblmmcffaaGreat.PLV
open Go.RowKit Go.Proofs.YtmoimcblmmcffaaGreat.PPC Go.Proofs.YtmoimcblmmcffaaGreat.PRA Go.Proofs.YtmoimcblmmcffaaGreatW.PrintWords Go.Proofs.YtmoimcblmmcffaaGreatW.PrintLast Go.Proofs.YtmoimcblmmcffaaGreatW.PrintMore Go.Proofs.YtmoimcblmmcffaaGreatW.PrintZ
attribute [local go_sem] max2_int min2_int max_two min_two max_three min_three max_four min_four   -- for this text's walks alone
set_option linter.unusedVariables false
set_option linter.unusedSimpArgs false
theorem eqA62 (d : Nat) (w : World) (x0 y0 : Int) (x1 y1 : Int) (x2 y2 : Int) :
  (Op.equalIn (d + 2) 62 (.agg #[.int .i64 x0, .int .u64 x1, .int .u64 x2]) (.agg #[.int .i64 y0, .int .u64 y1, .int .u64 y2])).run Tryz.prog w = .ok (x0 == y0 && (x1 == y1 && (x2 == y2))) w := by
 refine eqA_of Tryz.underlying62 (by kernel_rfl) ?_
 refine eqf_cons (by rfl) (by go_simp; rfl) (by go_simp; rfl) (by go_simp) ?_
 refine eqf_cons (by rfl) (by go_simp; rfl) (by go_simp; rfl) (by go_simp) ?_
 exact eqf_last (by rfl) (by go_simp; rfl) (by go_simp; rfl) (by go_simp)
end Go.Proofs.YtmoimcblmmcffaaGreat.PLV

namespace Go.Proofs.YtmoimcblmmcffaaGreat.PLV
open Go.RowKit Go.Proofs.YtmoimcblmmcffaaGreat.PPC Go.Proofs.YtmoimcblmmcffaaGreat.PRA Go.Proofs.YtmoimcblmmcffaaGreatW.PrintWords Go.Proofs.YtmoimcblmmcffaaGreatW.PrintLast Go.Proofs.YtmoimcblmmcffaaGreatW.PrintMore Go.Proofs.YtmoimcblmmcffaaGreatW.PrintZ
attribute [local go_sem] max2_int min2_int max_two min_two max_three min_three max_four min_four   -- for this text's walks alone
set_option linter.unusedVariables false
set_option linter.unusedSimpArgs false
def r10_Same.f (a0_0 : Int) (a0_1 : Int) (a0_2 : Int) (a0_3 : ByteArray) (a1_0 : Int) (a1_1 : Int) (a1_2 : Int) (a1_3 : ByteArray) : Option (Bool) := (r10_PartType.f a0_0).bind fun t103 => ((r8_Compare.f t103 a0_1 a1_1).bind fun t104 => (if t104 = 0 then ((r8_Compare.f t103 a0_2 a1_2).bind fun t105 => (some (t105 == 0))) else (some false)))
set_option maxHeartbeats 8000000 in
set_option maxRecDepth 100000 in
theorem r10_Same.calls (a0_0 : Int) (a0_1 : Int) (a0_2 : Int) (a0_3 : ByteArray) (a1_0 : Int) (a1_1 : Int) (a1_2 : Int) (a1_3 : ByteArray) (r : Bool) (w : World) (h : r10_Same.f a0_0 a0_1 a0_2 a0_3 a1_0 a1_1 a1_2 a1_3 = some r) :
  Calls Tryz.prog 46 #[.agg #[.int .i64 a0_0, .int .u64 a0_1, .int .u64 a0_2, .string a0_3], .agg #[.int .i64 a1_0, .int .u64 a1_1, .int .u64 a1_2, .string a1_3]] w fun e w' => e = .returned (.bool r) ∧ Below w.heap.size w w' := by
 have hu24 := Tryz.underlying24
 have HB := Aside0.mk (Below.refl w.heap.size w)
 have H : ((r10_PartType.f a0_0).bind fun t103 => ((r8_Compare.f t103 a0_1 a1_1).bind fun t104 => (if t104 = 0 then ((r8_Compare.f t103 a0_2 a1_2).bind fun t105 => (some (t105 == 0))) else (some false)))) = some r := h
 clear h
 replace H := Option.bind_eq_some_iff.mp H
 obtain ⟨t103, A3, H⟩ := H
 try dsimp only at H
 replace A3 := Aside0.mk A3
 replace H := Option.bind_eq_some_iff.mp H
 obtain ⟨t104, A4, H⟩ := H
 try dsimp only at H
 replace A4 := Aside0.mk A4
 by_cases c5 : t104 = 0
 ·rw [if_pos c5] at H
  have c5b0 : (t104 == 0) = true := beq_iff_eq.mpr c5
  have c5b1 : (t104 != 0) = false := bne_eq_false_iff_eq.mpr c5
  clear c5
  replace H := Option.bind_eq_some_iff.mp H
  obtain ⟨t105, A6, H⟩ := H
  try dsimp only at H
  replace A6 := Aside0.mk A6
  obtain rfl := Option.some.inj H
  go_enter Tryz.func46, Tryz.ntmps46
  go_wp2_with (first | ((with_reducible refine gate_dst (N := 2) rfl ?_); refine bxe 2 (cs := #[.int .i64 a0_0, .int .u64 a0_1, .int .u64 a0_2, .string a0_3]) (t := 24) ?_; intro gb101 hg w7 hbox hb; have BK101 := Aside0.mk hbox; have GW101 := bsz HB hg; have GE101 := bsz HB hg; replace HB := bls HB hb; clear hb hbox hg) | ((with_reducible refine gate_dst (N := 3) rfl ?_); refine bxe 3 (cs := #[.int .i64 a1_0, .int .u64 a1_1, .int .u64 a1_2, .string a1_3]) (t := 24) ?_; intro gb102 hg w8 hbox hb; have BK102 := Aside0.mk hbox; have GW102 := bsz HB hg; have GE102 := bsz HB hg; have NB101_102 := bnl BK101 hg; have NB102_101 := bng BK101 hg; replace BK101 := bkb BK101 hb; replace HB := bls HB hb; clear hb hbox hg; have hnb9 := NB101_102.out; have hnc9 := NB102_101.out; have hcz10_0 : w8.cell? ⟨gb101, 0, none⟩ = some (.int .i64 a0_0) := (blk_cell BK101.out 0).trans rfl; have hcz10_1 : w8.cell? ⟨gb101, 1, none⟩ = some (.int .u64 a0_1) := (blk_cell BK101.out 1).trans rfl; have hcz10_2 : w8.cell? ⟨gb101, 2, none⟩ = some (.int .u64 a0_2) := (blk_cell BK101.out 2).trans rfl; have hcz10_3 : w8.cell? ⟨gb101, 3, none⟩ = some (.string a0_3) := (blk_cell BK101.out 3).trans rfl; have hfz10_0 := blk_frozen BK101.out 0; have hfz10_1 := blk_frozen BK101.out 1; have hfz10_2 := blk_frozen BK101.out 2; have hfz10_3 := blk_frozen BK101.out 3) | ((with_reducible refine gate_callee (f := 16) rfl ?_); refine gL 8 Tryz.func16 #[.int .i64 a0_0] ?_; (with_reducible refine (r10_PartType.calls a0_0 t103 _ A3.out).mono ?_); rintro e w' ⟨rfl, ⟨nd, rfl⟩⟩; refine ⟨_, rfl, ?_⟩; have hcz11_0 : w8.cell? ⟨gb102, 0, none⟩ = some (.int .i64 a1_0) := (blk_cell BK102.out 0).trans rfl; have hcz11_1 : w8.cell? ⟨gb102, 1, none⟩ = some (.int .u64 a1_1) := (blk_cell BK102.out 1).trans rfl; have hcz11_2 : w8.cell? ⟨gb102, 2, none⟩ = some (.int .u64 a1_2) := (blk_cell BK102.out 2).trans rfl; have hcz11_3 : w8.cell? ⟨gb102, 3, none⟩ = some (.string a1_3) := (blk_cell BK102.out 3).trans rfl; have hfz11_0 := blk_frozen BK102.out 0; have hfz11_1 := blk_frozen BK102.out 1; have hfz11_2 := blk_frozen BK102.out 2; have hfz11_3 := blk_frozen BK102.out 3) | ((with_reducible refine gate_callee (f := 62) rfl ?_); refine gL 14 Tryz.func62 #[.int .i64 t103, .int .u64 a0_1, .int .u64 a1_1] ?_; (with_reducible refine (r8_Compare.calls t103 a0_1 a1_1 t104 _ A4.out).mono ?_); rintro e w12 ⟨rfl, hb⟩; refine ⟨_, rfl, ?_⟩; replace BK101 := bkb BK101 hb; replace BK102 := bkb BK102 hb; replace HB := bls HB hb; clear hb; obtain ⟨hcz13_0, hcz13_1, hcz13_2, hcz13_3, hfz13_0, hfz13_1, hfz13_2, hfz13_3⟩ := cf4 BK101; have hcz14_0 : w12.cell? ⟨gb102, 0, none⟩ = some (.int .i64 a1_0) := (blk_cell BK102.out 0).trans rfl; have hcz14_1 : w12.cell? ⟨gb102, 1, none⟩ = some (.int .u64 a1_1) := (blk_cell BK102.out 1).trans rfl; have hcz14_2 : w12.cell? ⟨gb102, 2, none⟩ = some (.int .u64 a1_2) := (blk_cell BK102.out 2).trans rfl; have hcz14_3 : w12.cell? ⟨gb102, 3, none⟩ = some (.string a1_3) := (blk_cell BK102.out 3).trans rfl; have hfz14_0 := blk_frozen BK102.out 0; have hfz14_1 := blk_frozen BK102.out 1; have hfz14_2 := blk_frozen BK102.out 2; have hfz14_3 := blk_frozen BK102.out 3) | (go_at_call 62; (with_reducible refine (r8_Compare.calls t103 a0_2 a1_2 t105 _ A6.out).mono ?_); rintro e w15 ⟨rfl, hb⟩; replace BK101 := bkb BK101 hb; replace BK102 := bkb BK102 hb; replace HB := bls HB hb; clear hb))
  go_ret
  exact ⟨by first | rfl | (simp [errW_none, errW_some] <;> rfl) | (simp [*, errW_none, errW_some] <;> rfl), (blt HB).out⟩
 ·rw [if_neg c5] at H
  have c5b0 : (t104 == 0) = false := beq_eq_false_iff_ne.mpr c5
  have c5b1 : (t104 != 0) = true := bne_iff_ne.mpr c5
  obtain rfl := Option.some.inj H
  go_enter Tryz.func46, Tryz.ntmps46
  go_wp2_with (first | ((with_reducible refine gate_dst (N := 2) rfl ?_); refine bxe 2 (cs := #[.int .i64 a0_0, .int .u64 a0_1, .int .u64 a0_2, .string a0_3]) (t := 24) ?_; intro gb101 hg w16 hbox hb; have BK101 := Aside0.mk hbox; have GW101 := bsz HB hg; have GE101 := bsz HB hg; replace HB := bls HB hb; clear hb hbox hg) | ((with_reducible refine gate_dst (N := 3) rfl ?_); refine bxe 3 (cs := #[.int .i64 a1_0, .int .u64 a1_1, .int .u64 a1_2, .string a1_3]) (t := 24) ?_; intro gb102 hg w17 hbox hb; have BK102 := Aside0.mk hbox; have GW102 := bsz HB hg; have GE102 := bsz HB hg; have NB101_102 := bnl BK101 hg; have NB102_101 := bng BK101 hg; replace BK101 := bkb BK101 hb; replace HB := bls HB hb; clear hb hbox hg; have hnb18 := NB101_102.out; have hnc18 := NB102_101.out; have hcz19_0 : w17.cell? ⟨gb101, 0, none⟩ = some (.int .i64 a0_0) := (blk_cell BK101.out 0).trans rfl; have hcz19_1 : w17.cell? ⟨gb101, 1, none⟩ = some (.int .u64 a0_1) := (blk_cell BK101.out 1).trans rfl; have hcz19_2 : w17.cell? ⟨gb101, 2, none⟩ = some (.int .u64 a0_2) := (blk_cell BK101.out 2).trans rfl; have hcz19_3 : w17.cell? ⟨gb101, 3, none⟩ = some (.string a0_3) := (blk_cell BK101.out 3).trans rfl; have hfz19_0 := blk_frozen BK101.out 0; have hfz19_1 := blk_frozen BK101.out 1; have hfz19_2 := blk_frozen BK101.out 2; have hfz19_3 := blk_frozen BK101.out 3) | ((with_reducible refine gate_callee (f := 16) rfl ?_); refine gL 8 Tryz.func16 #[.int .i64 a0_0] ?_; (with_reducible refine (r10_PartType.calls a0_0 t103 _ A3.out).mono ?_); rintro e w' ⟨rfl, ⟨nd, rfl⟩⟩; refine ⟨_, rfl, ?_⟩; have hcz20_0 : w17.cell? ⟨gb102, 0, none⟩ = some (.int .i64 a1_0) := (blk_cell BK102.out 0).trans rfl; have hcz20_1 : w17.cell? ⟨gb102, 1, none⟩ = some (.int .u64 a1_1) := (blk_cell BK102.out 1).trans rfl; have hcz20_2 : w17.cell? ⟨gb102, 2, none⟩ = some (.int .u64 a1_2) := (blk_cell BK102.out 2).trans rfl; have hcz20_3 : w17.cell? ⟨gb102, 3, none⟩ = some (.string a1_3) := (blk_cell BK102.out 3).trans rfl; have hfz20_0 := blk_frozen BK102.out 0; have hfz20_1 := blk_frozen BK102.out 1; have hfz20_2 := blk_frozen BK102.out 2; have hfz20_3 := blk_frozen BK102.out 3) | ((with_reducible refine gate_callee (f := 62) rfl ?_); refine gL 14 Tryz.func62 #[.int .i64 t103, .int .u64 a0_1, .int .u64 a1_1] ?_; (with_reducible refine (r8_Compare.calls t103 a0_1 a1_1 t104 _ A4.out).mono ?_); rintro e w21 ⟨rfl, hb⟩; refine ⟨_, rfl, ?_⟩; replace BK101 := bkb BK101 hb; replace BK102 := bkb BK102 hb; replace HB := bls HB hb; clear hb))
  go_ret
  exact ⟨by first | rfl | (simp [errW_none, errW_some] <;> rfl) | (simp [*, errW_none, errW_some] <;> rfl), (blt HB).out⟩
end Go.Proofs.YtmoimcblmmcffaaGreat.PLV
