/- Contracts and plain laws that the law ComplexesRoots leans on (texts joined by program; what it does not come to is left out). -/
import Derived.Test.YtmoimcblmmcffaaGreatQComplexesRootsA
import Derived.Test.YtmoimcblmmcffaaGreatQComplexesRootsH
import Derived.Test.YtmoimcblmmcffaaGreatQComplexesRootsI
import Derived.Test.YtmoimcblmmcffaaGreatQComplexesRootsG
import Derived.Test.YtmoimcblmmcffaaGreatProg
import Derived.Below
import Derived.Deep.Draws
import Derived.Deep.AppendLies
import Derived.Maps.AppendAt
import Derived.OwnWalk
import Derived.Laws.BytesArg
import Derived.Laws.MakeOwn
import Derived.Laws.OwnMore
import Derived.Deep.OwnRows
import Derived.Tactics
import Derived.Lib.ConvBytes
import Derived.Laws.Slices
import Derived.WalkKit
import Derived.KernelRfl
import Derived.RowKit3
import Derived.Deep.LoopGhost
import Derived.Deep.QuietTactic
import Derived.BigQuiet
import Derived.WideLaws
import Derived.Deep.DeepCutAuto
import Derived.Deep.CutBlock
import Derived.Deep.RegionHeld3
import Derived.Laws.Rows
import Derived.Lib.AppendStr
import Derived.ArgAppend
import Derived.Laws.IdiomCopy
import Derived.OrdersHeld
import Derived.Laws.BitsLemmas
import Derived.RowKit

namespace Go.Proofs.YtmoimcblmmcffaaGreat.PPC
open Go.RowKit Go.Proofs.YtmoimcblmmcffaaGreatW.PrintWords Go.Proofs.YtmoimcblmmcffaaGreatW.PrintLast Go.Proofs.YtmoimcblmmcffaaGreatW.PrintMore Go.Proofs.YtmoimcblmmcffaaGreatW.PrintZ
attribute [local go_sem] max2_int min2_int max_two min_two max_three min_three max_four min_four   -- for this text's walks alone
set_option linter.unusedVariables false
set_option linter.unusedSimpArgs false
def fd_squareRoot.j0 : Nat → Int → Bool → Int → Int → Option (Int × Int)
 | 0, _, _, _, _ => none
 | k + 1, x0, x17, x186000, x186001 => if x17 = true then (some (0, x186001)) else ((fd_size.f x0 x186000).bind fun t189 => ((fd_distance.f k x0 x186000 x186001).bind fun t190 => ((fd_add.f x0 t189 t190).bind fun t191 => ((fd_half.f x0).bind fun t192 => ((fd_mul.f x0 t191 t192).bind fun t193 => ((fd_root.f x0 t193).bind fun t194 => ((fd_order.f x0 x186000 0).bind fun t195 => (if t195 = (-1) then ((fd_size.f x0 x186001).bind fun t199 => ((fd_div.f x0 t199 t194).bind fun t200 => ((fd_half.f x0).bind fun t201 => ((fd_mul.f x0 t200 t201).bind fun t202 => ((fd_operation.f x0 4 t194 x186001).bind fun t203 => (some (t202, t203))))))) else ((fd_div.f x0 x186001 t194).bind fun t196 => ((fd_half.f x0).bind fun t197 => ((fd_mul.f x0 t196 t197).bind fun t198 => (some (t194, t198)))))))))))))
def fd_squareRoot.f (k : Nat) (a0 : Int) (a1_0 : Int) (a1_1 : Int) : Option (Int × Int) := (fd_kind.f a0 a1_0).bind fun t187 => (if t187 = 0 then ((fd_kind.f a0 a1_1).bind fun t188 => (fd_squareRoot.j0 k a0 (t188 == 0) a1_0 a1_1)) else (fd_squareRoot.j0 k a0 false a1_0 a1_1))
def fd_squareRoot.T3 : Bool × List (List Nat × List Nat) := (true, [([], []), ([], []), ([], []), ([], []), ([], []), ([4], [4]), ([3, 5], [3, 5]), ([], []), ([], []), ([7, 8, 6], [7, 8]), ([2, 6, 9, 9], [2, 6, 9]), ([], []), ([11, 10], [11]), ([1, 10, 12, 12], [1, 10, 12]), ([0, 13, 13], [0, 13]), ([14, 14, 0, 1, 2, 3, 4, 5, 6, 7, 8, 9, 10, 11, 12, 13, 14], [14])])
def fd_squareRoot.B3 : List Nat := [0, 0, 0, 0, 0, 16, 56, 0, 0, 504, 1020, 0, 4092, 8190, 16383, 32767]
theorem fd_squareRoot.tab3 : rtab .any (opsOf Tryz.f82 3) = fd_squareRoot.T3 := by kernel_rfl
theorem fd_squareRoot.bits3 : waitsOk fd_squareRoot.T3.2 fd_squareRoot.B3 = true := by kernel_rfl
def fd_squareRoot.T6 : Bool × List (List Nat × List Nat) := (true, [([], []), ([], []), ([], []), ([], []), ([3], [3]), ([2, 4], [2, 4]), ([], []), ([1, 5, 6, 5], [1, 5, 6]), ([], []), ([8, 7], [8]), ([0, 7, 9, 9], [0, 7, 9]), ([], []), ([], []), ([], []), ([13], [13]), ([11, 12, 14, 10], [11, 12, 14]), ([10, 15], [10, 15]), ([16, 15, 0, 1, 2, 3, 4, 5, 6, 7, 8, 9, 10, 11, 12, 13, 14, 15, 16], [16])])
def fd_squareRoot.B6 : List Nat := [0, 0, 0, 0, 8, 28, 0, 126, 0, 510, 1023, 0, 0, 0, 8192, 32767, 65535, 131071]
theorem fd_squareRoot.tab6 : rtab .any (opsOf Tryz.f82 6) = fd_squareRoot.T6 := by kernel_rfl
theorem fd_squareRoot.bits6 : waitsOk fd_squareRoot.T6.2 fd_squareRoot.B6 = true := by kernel_rfl
set_option maxHeartbeats 8000000 in
set_option maxRecDepth 100000 in
theorem fd_squareRoot.calls (k : Nat) (a0 : Int) (a1_0 : Int) (a1_1 : Int) (r1 : Int) (r2 : Int) (w : World) (h : fd_squareRoot.f k a0 a1_0 a1_1 = some (r1, r2)) :
  Calls Tryz.prog 82 #[.int .i64 a0, .agg #[.int .u64 a1_0, .int .u64 a1_1]] w fun e w' => e = .returned (.agg #[.int .u64 r1, .int .u64 r2]) ∧ Below w.heap.size w w' := by
 have hu74 := Tryz.underlying74
 have HB := Zs.mk (Below.refl w.heap.size w)
 have H : ((fd_kind.f a0 a1_0).bind fun t187 => (if t187 = 0 then ((fd_kind.f a0 a1_1).bind fun t188 => (fd_squareRoot.j0 k a0 (t188 == 0) a1_0 a1_1)) else (fd_squareRoot.j0 k a0 false a1_0 a1_1))) = some (r1, r2) := h
 clear h
 have HC3 := Zs.mk H
 clear H
 go_enter Tryz.func82, Tryz.ntmps82
 go_upto_region 1 with (first | ((with_reducible refine gd_ (N := 3) rfl ?_); refine bxe 3 (cs := #[.int .u64 a1_0, .int .u64 a1_1]) (t := 74) ?_; intro gb185 hg w4 hbox hb; have BK185 := Zs.mk hbox; have GW185 := bsz HB hg; have GE185 := bsz HB hg; replace HB := bls HB hb; clear hb hbox hg) | ((with_reducible refine gd_ (N := 4) rfl ?_); refine bxe 4 (cs := #[.int .u64 0, .int .u64 0]) (t := 74) ?_; intro gb186 hg w5 hbox hb; have BK186 := Zs.mk hbox; have GW186 := bsz HB hg; have GE186 := bsz HB hg; have NB185_186 := bnl BK185 hg; have NB186_185 := bng BK185 hg; replace BK185 := bkb BK185 hb; replace HB := bls HB hb; clear hb hbox hg))
 (try simp only [Act.put, List.setIfInBounds_toArray, List.set_cons_zero, List.set_cons_succ])
 go_cut [17] (fun v17 wc => ∃ (kq : Nat) (x17_2 : Bool), v17 = .bool x17_2 ∧ Zs (fd_squareRoot.j0 kq a0 x17_2 a1_0 a1_1 = some (r1, r2)) ∧ Zs (kq ≤ k) ∧ Zs (wc.heap[gb185]? = some (.cells #[.int .u64 a1_0, .int .u64 a1_1] 74 (0, 0))) ∧ Zs (wc.heap[gb186]? = some (.cells #[.int .u64 0, .int .u64 0] 74 (0, 0))) ∧ Zs (Below w.heap.size w wc))
 case first =>
  have H := HC3.out
  clear HC3
  replace H := Option.bind_eq_some_iff.mp H
  obtain ⟨t187, A6, H⟩ := H
  try dsimp only at H
  replace A6 := Zs.mk A6
  by_cases c7 : t187 = 0
  ·rw [if_pos c7] at H
   have c7b0 : (t187 == 0) = true := beq_iff_eq.mpr c7
   have c7b1 : (t187 != 0) = false := bne_eq_false_iff_eq.mpr c7
   clear c7
   (first | rw [c7b0] | (simp only [i64_w, i32_w]; rw [c7b0]) | skip)
   replace H := Option.bind_eq_some_iff.mp H
   obtain ⟨t188, A8, H⟩ := H
   try dsimp only at H
   replace A8 := Zs.mk A8
   have H' := Zs.mk H
   clear H
   have hnb9 := NB185_186.out
   have hnc9 := NB186_185.out
   obtain ⟨hcz10_0, hcz10_1, hfz10_0, hfz10_1⟩ := cf2 BK185
   go_wp2_with (first | ((with_reducible refine gc_ (f := 119) rfl ?_); refine gLc 9 Tryz.func119 (fd_kind.calls a0 a1_0 t187 _ A6.out) (fun w11 hb => ?_); replace BK185 := bkb BK185 hb; replace BK186 := bkb BK186 hb; replace HB := bls HB hb; clear hb; obtain ⟨hcz12_0, hcz12_1, hfz12_0, hfz12_1⟩ := cf2 BK185) | (go_at_call 119; (with_reducible refine (fd_kind.calls a0 a1_1 t188 _ A8.out).mono ?_); rintro e w13 ⟨rfl, hb⟩; replace BK185 := bkb BK185 hb; replace BK186 := bkb BK186 hb; replace HB := bls HB hb; clear hb))
   go_meet
   case rel => exact ⟨_, ((t188 == 0)), (by first | rfl | (simp; done) | (simp [*]; done)), H', ⟨by first | omega | exact Nat.le_refl _⟩, bks BK185, bks BK186, blt HB⟩
  ·rw [if_neg c7] at H
   have c7b0 : (t187 == 0) = false := beq_eq_false_iff_ne.mpr c7
   have c7b1 : (t187 != 0) = true := bne_iff_ne.mpr c7
   (first | rw [c7b0] | (simp only [i64_w, i32_w]; rw [c7b0]) | skip)
   have H' := Zs.mk H
   clear H
   have hnb14 := NB185_186.out
   have hnc14 := NB186_185.out
   obtain ⟨hcz15_0, hcz15_1, hfz15_0, hfz15_1⟩ := cf2 BK185
   go_wp2_with (first | ((with_reducible refine gc_ (f := 119) rfl ?_); refine gLc 9 Tryz.func119 (fd_kind.calls a0 a1_0 t187 _ A6.out) (fun w16 hb => ?_); replace BK185 := bkb BK185 hb; replace BK186 := bkb BK186 hb; replace HB := bls HB hb; clear hb))
   go_meet
   case rel => exact ⟨_, (false), (by first | rfl | (simp; done) | (simp [*]; done)), H', ⟨by first | omega | exact Nat.le_refl _⟩, bks BK185, bks BK186, blt HB⟩
 case rest =>
  clear HC3
  try clear c1
  try clear p2
  try clear c7
  try clear c7b0
  try clear c7b1
  try clear c8
  try clear c9
  try clear c11
  try clear c14
  try clear hcz10_0
  try clear hcz10_1
  try clear hcz12_0
  try clear hcz12_1
  try clear hcz15_0
  try clear hcz15_1
  try clear hfz10_0
  try clear hfz10_1
  try clear hfz12_0
  try clear hfz12_1
  try clear hfz15_0
  try clear hfz15_1
  obtain ⟨kq, x17_2, rfl, HA, HJ2, BK185, BK186, HB⟩ := hcut
  cases kq with
  | zero => exact absurd HA.out (by simp [fd_squareRoot.j0])
  | succ kj2 =>
   have H := HA.out
   clear HA
   simp only [fd_squareRoot.j0] at H
   by_cases c17 : x17_2 = true
   ·subst c17
    have H1 : (some (0, a1_1)) = some (r1, r2) := by rw [if_pos rfl] at H; exact H
    clear H
    have H := H1
    clear H1
    simp only [Option.some.injEq, Prod.mk.injEq] at H
    obtain ⟨rfl, rfl⟩ := H
    have hnb18 := NB185_186.out
    have hnc18 := NB186_185.out
    obtain ⟨hcz19_0, hcz19_1, hfz19_0, hfz19_1⟩ := cf2 BK185
    obtain ⟨hcz20_0, hcz20_1, hfz20_0, hfz20_1⟩ := cf2 BK186
    go_wp2
    refine bodyPost_ret (results_cell_row rfl _ _ gb186 74 #[.int .u64 0, .int .u64 a1_1] (0, 0) _ rfl (by (with_reducible repeat (first | refine zn ?_ _ | refine zd ?_ | refine za ?_ _)); apply bp2; (with_reducible repeat (first | refine zn ?_ _ | refine zd ?_ | refine za ?_ _)); exact BK186.out) Tryz.underlying74 rfl (by kernel_rfl)) rfl ?_
    exact fin_ (blt HB)
   ·replace c17 := Bool.eq_false_iff.mpr c17
    subst c17
    have H1 : ((fd_size.f a0 a1_0).bind fun t189 => ((fd_distance.f kj2 a0 a1_0 a1_1).bind fun t190 => ((fd_add.f a0 t189 t190).bind fun t191 => ((fd_half.f a0).bind fun t192 => ((fd_mul.f a0 t191 t192).bind fun t193 => ((fd_root.f a0 t193).bind fun t194 => ((fd_order.f a0 a1_0 0).bind fun t195 => (if t195 = (-1) then ((fd_size.f a0 a1_1).bind fun t199 => ((fd_div.f a0 t199 t194).bind fun t200 => ((fd_half.f a0).bind fun t201 => ((fd_mul.f a0 t200 t201).bind fun t202 => ((fd_operation.f a0 4 t194 a1_1).bind fun t203 => (some (t202, t203))))))) else ((fd_div.f a0 a1_1 t194).bind fun t196 => ((fd_half.f a0).bind fun t197 => ((fd_mul.f a0 t196 t197).bind fun t198 => (some (t194, t198))))))))))))) = some (r1, r2) := by rw [if_neg (show ¬ (false = true) by decide)] at H; exact H
    clear H
    have H := H1
    clear H1
    replace H := Option.bind_eq_some_iff.mp H
    obtain ⟨t189, A21, H⟩ := H
    try dsimp only at H
    replace A21 := Zs.mk A21
    replace H := Option.bind_eq_some_iff.mp H
    obtain ⟨t190, A22, H⟩ := H
    try dsimp only at H
    replace A22 := Zs.mk A22
    replace H := Option.bind_eq_some_iff.mp H
    obtain ⟨t191, A23, H⟩ := H
    try dsimp only at H
    replace A23 := Zs.mk A23
    replace H := Option.bind_eq_some_iff.mp H
    obtain ⟨t192, A24, H⟩ := H
    try dsimp only at H
    replace A24 := Zs.mk A24
    replace H := Option.bind_eq_some_iff.mp H
    obtain ⟨t193, A25, H⟩ := H
    try dsimp only at H
    replace A25 := Zs.mk A25
    replace H := Option.bind_eq_some_iff.mp H
    obtain ⟨t194, A26, H⟩ := H
    try dsimp only at H
    replace A26 := Zs.mk A26
    replace H := Option.bind_eq_some_iff.mp H
    obtain ⟨t195, A27, H⟩ := H
    try dsimp only at H
    replace A27 := Zs.mk A27
    by_cases c28 : t195 = (-1)
    ·rw [if_pos c28] at H
     have c28b0 : (t195 == (-1)) = true := beq_iff_eq.mpr c28
     have c28b1 : (t195 != (-1)) = false := bne_eq_false_iff_eq.mpr c28
     clear c28
     replace H := Option.bind_eq_some_iff.mp H
     obtain ⟨t199, A29, H⟩ := H
     try dsimp only at H
     replace A29 := Zs.mk A29
     replace H := Option.bind_eq_some_iff.mp H
     obtain ⟨t200, A30, H⟩ := H
     try dsimp only at H
     replace A30 := Zs.mk A30
     replace H := Option.bind_eq_some_iff.mp H
     obtain ⟨t201, A31, H⟩ := H
     try dsimp only at H
     replace A31 := Zs.mk A31
     replace H := Option.bind_eq_some_iff.mp H
     obtain ⟨t202, A32, H⟩ := H
     try dsimp only at H
     replace A32 := Zs.mk A32
     replace H := Option.bind_eq_some_iff.mp H
     obtain ⟨t203, A33, H⟩ := H
     try dsimp only at H
     replace A33 := Zs.mk A33
     simp only [Option.some.injEq, Prod.mk.injEq] at H
     obtain ⟨rfl, rfl⟩ := H
     try go_wp2
     replace BK185 := Zs.mk (zd BK185.out)
     replace BK186 := Zs.mk (zd BK186.out)
     replace HB := Zs.mk (below_drew1 HB.out)
     refine start_ (n := 16) (S := fun w' => w'.cell? ⟨gb185, 0, none⟩ = some (.int .u64 a1_0) ∧ w'.cell? ⟨gb185, 1, none⟩ = some (.int .u64 a1_1)) (ds := []) #[false, false, false, false, false, false, false, false, false, false, false, false, false, false, false, false] (by kernel_rfl) rfl rfl (cf2c BK185) (fun hHeld => ?_); refine with_tabW fd_squareRoot.tab3 fd_squareRoot.bits3 (fun HT_ HW_ => ?_)
     generalize wc.drew = w34 at BK185 BK186 HB hHeld ⊢
     refine pu 0 21 HT_ ?_
     refine pu 1 22 HT_ ?_
     refine pu 2 23 HT_ ?_
     refine pu 3 24 HT_ ?_
     refine pu 4 25 HT_ ?_
     refine pu 7 28 HT_ ?_
     refine pu 11 32 HT_ ?_
     refine tk 5 26 HT_ HW_ hHeld ?_
     refine tk 8 29 HT_ HW_ hHeld ?_
     refine on 6 27 HT_ (fun K hK => ?_)
     refine gsc Tryz.func100 (fd_size.calls a0 a1_0 t189 _ A21.out) (fun w35 hb => ?_)
     replace BK185 := bkb BK185 hb
     replace BK186 := bkb BK186 hb
     replace HB := bls HB hb
     (try clear hb)
     (try clear hb2)
     (try clear hk)
     (try clear hi)
     refine hK.out _ _ (cf2c BK185) (fun hHeld => ?_)
     clear hK K
     refine nm 27 ?_
     refine on 9 30 HT_ (fun K hK => ?_)
     refine gsc Tryz.func79 (fd_distance.calls kj2 a0 a1_0 a1_1 t190 _ A22.out) (fun w36 hb => ?_)
     replace BK185 := bkb BK185 hb
     replace BK186 := bkb BK186 hb
     replace HB := bls HB hb
     (try clear hb)
     (try clear hb2)
     (try clear hk)
     (try clear hi)
     refine hK.out _ _ (cf2c BK185) (fun hHeld => ?_)
     clear hK K
     refine nm 30 ?_
     refine on 10 31 HT_ (fun K hK => ?_)
     refine gsc Tryz.func97 (fd_add.calls a0 t189 t190 t191 _ A23.out) (fun w37 hb => ?_)
     replace BK185 := bkb BK185 hb
     replace BK186 := bkb BK186 hb
     replace HB := bls HB hb
     (try clear hb)
     (try clear hb2)
     (try clear hk)
     (try clear hi)
     refine hK.out _ _ (cf2c BK185) (fun hHeld => ?_)
     clear hK K
     refine nm 31 ?_
     refine on 12 33 HT_ (fun K hK => ?_)
     refine gsc Tryz.func123 (fd_half.calls a0 t192 _ A24.out) (fun w38 hb => ?_)
     replace BK185 := bkb BK185 hb
     replace BK186 := bkb BK186 hb
     replace HB := bls HB hb
     (try clear hb)
     (try clear hb2)
     (try clear hk)
     (try clear hi)
     refine hK.out _ _ (cf2c BK185) (fun hHeld => ?_)
     clear hK K
     refine nm 33 ?_
     refine on 13 34 HT_ (fun K hK => ?_)
     refine gsc Tryz.func99 (fd_mul.calls a0 t191 t192 t193 _ A25.out) (fun w39 hb => ?_)
     replace BK185 := bkb BK185 hb
     replace BK186 := bkb BK186 hb
     replace HB := bls HB hb
     (try clear hb)
     (try clear hb2)
     (try clear hk)
     (try clear hi)
     refine hK.out _ _ (cf2c BK185) (fun hHeld => ?_)
     clear hK K
     refine nm 34 ?_
     refine on 14 35 HT_ (fun K hK => ?_)
     refine gsc Tryz.func121 (fd_root.calls a0 t193 t194 _ A26.out) (fun w40 hb => ?_)
     replace BK185 := bkb BK185 hb
     replace BK186 := bkb BK186 hb
     replace HB := bls HB hb
     (try clear hb)
     (try clear hb2)
     (try clear hk)
     (try clear hi)
     refine hK.out _ _ (cf2c BK185) (fun hHeld => ?_)
     clear hK K
     refine nm 35 ?_
     refine pu 15 5 HT_ ?_
     refine done_ (done_of HT_.out (by kernel_rfl)) ?_
     have hnb41 := NB185_186.out
     have hnc41 := NB186_185.out
     obtain ⟨hcz42_0, hcz42_1, hfz42_0, hfz42_1⟩ := cf2 BK185
     try go_wp2_with (first | ((with_reducible refine gc_ (f := 92) rfl ?_); refine gLc 39 Tryz.func92 (fd_order.calls a0 a1_0 0 t195 _ A27.out) (fun w43 hb => ?_); replace BK185 := bkb BK185 hb; replace BK186 := bkb BK186 hb; replace HB := bls HB hb; clear hb))
     replace BK185 := Zs.mk (zd BK185.out)
     replace BK186 := Zs.mk (zd BK186.out)
     replace HB := Zs.mk (below_drew1 HB.out)
     refine start_ (n := 18) (S := fun w' => w'.cell? ⟨gb185, 0, none⟩ = some (.int .u64 a1_0) ∧ w'.cell? ⟨gb185, 1, none⟩ = some (.int .u64 a1_1)) (ds := []) #[false, false, false, false, false, false, false, false, false, false, false, false, false, false, false, false, false, false] (by kernel_rfl) rfl rfl (cf2c BK185) (fun hHeld => ?_); refine with_tabW fd_squareRoot.tab6 fd_squareRoot.bits6 (fun HT_ HW_ => ?_)
     generalize w43.drew = w44 at BK185 BK186 HB hHeld ⊢
     refine pu 0 52 HT_ ?_
     refine pu 1 53 HT_ ?_
     refine pu 2 54 HT_ ?_
     refine pu 3 55 HT_ ?_
     refine pu 6 58 HT_ ?_
     refine pu 8 60 HT_ ?_
     refine pu 11 63 HT_ ?_
     refine pu 12 64 HT_ ?_
     refine pu 13 65 HT_ ?_
     refine tk 4 56 HT_ HW_ hHeld ?_
     refine tk 14 66 HT_ HW_ hHeld ?_
     refine on 5 57 HT_ (fun K hK => ?_)
     refine gsc Tryz.func100 (fd_size.calls a0 a1_1 t199 _ A29.out) (fun w45 hb => ?_)
     replace BK185 := bkb BK185 hb
     replace BK186 := bkb BK186 hb
     replace HB := bls HB hb
     (try clear hb)
     (try clear hb2)
     (try clear hk)
     (try clear hi)
     refine hK.out _ _ (cf2c BK185) (fun hHeld => ?_)
     clear hK K
     refine nm 57 ?_
     refine on 7 59 HT_ (fun K hK => ?_)
     refine gsc Tryz.func101 (fd_div.calls a0 t199 t194 t200 _ A30.out) (fun w46 hb => ?_)
     replace BK185 := bkb BK185 hb
     replace BK186 := bkb BK186 hb
     replace HB := bls HB hb
     (try clear hb)
     (try clear hb2)
     (try clear hk)
     (try clear hi)
     refine hK.out _ _ (cf2c BK185) (fun hHeld => ?_)
     clear hK K
     refine nm 59 ?_
     refine on 9 61 HT_ (fun K hK => ?_)
     refine gsc Tryz.func123 (fd_half.calls a0 t201 _ A31.out) (fun w47 hb => ?_)
     replace BK185 := bkb BK185 hb
     replace BK186 := bkb BK186 hb
     replace HB := bls HB hb
     (try clear hb)
     (try clear hb2)
     (try clear hk)
     (try clear hi)
     refine hK.out _ _ (cf2c BK185) (fun hHeld => ?_)
     clear hK K
     refine nm 61 ?_
     refine on 10 62 HT_ (fun K hK => ?_)
     refine gsc Tryz.func99 (fd_mul.calls a0 t200 t201 t202 _ A32.out) (fun w48 hb => ?_)
     replace BK185 := bkb BK185 hb
     replace BK186 := bkb BK186 hb
     replace HB := bls HB hb
     (try clear hb)
     (try clear hb2)
     (try clear hk)
     (try clear hi)
     refine hK.out _ _ (cf2c BK185) (fun hHeld => ?_)
     clear hK K
     refine nm 62 ?_
     refine on 15 67 HT_ (fun K hK => ?_)
     refine gsc Tryz.func120 (fd_operation.calls a0 4 t194 a1_1 t203 _ A33.out) (fun w49 hb => ?_)
     replace BK185 := bkb BK185 hb
     replace BK186 := bkb BK186 hb
     replace HB := bls HB hb
     (try clear hb)
     (try clear hb2)
     (try clear hk)
     (try clear hi)
     refine hK.out _ _ (cf2c BK185) (fun hHeld => ?_)
     clear hK K
     refine nm 67 ?_
     refine pu 16 68 HT_ ?_
     refine one_ (i := 17) (N := none) #[true, true, true, true, true, true, true, true, true, true, true, true, true, true, true, true, true, true] rfl rfl (one_of HT_.out (by kernel_rfl)) (by decide) (fun K hK => ?_)
     have hs50 : w49.cell? ⟨gb186, 0, none⟩ = some (.int .u64 0) := (zc BK186.out 0).trans rfl
     have hfs50 := zf BK186.out 0
     have hns50_0 := NB185_186.out
     have hms50_0 := NB186_185.out
     have hs51 : w49.cell? ⟨gb186, 1, none⟩ = some (.int .u64 0) := (zc BK186.out 1).trans rfl
     have hfs51 := zf BK186.out 1
     have hns51_0 := NB185_186.out
     have hms51_0 := NB186_185.out
     refine skip_ (w1 := ?_) (by rfl) rfl ?_ ?_
     rotate_left
     ·go_simp
      rfl
     refine hK.out _ _ ⟨((cell_far (p := ⟨gb186, _, none⟩) NB185_186.out _).trans (((cell_far (p := ⟨gb186, _, none⟩) NB185_186.out _).trans (hHeld.1)))), ((cell_far (p := ⟨gb186, _, none⟩) NB185_186.out _).trans (((cell_far (p := ⟨gb186, _, none⟩) NB185_186.out _).trans (hHeld.2))))⟩ (fun hHeld => ?_)
     clear hK K
     refine done_ (done_of HT_.out (by kernel_rfl)) ?_
     try go_wp2
     refine bodyPost_ret (results_cell_row rfl _ _ gb186 74 #[.int .u64 t202, .int .u64 t203] (0, 0) _ rfl (by (with_reducible repeat (first | refine zn ?_ _ | refine zd ?_ | refine za ?_ _)); apply bp2; (with_reducible repeat (first | refine zn ?_ _ | refine zd ?_ | refine za ?_ _)); exact BK186.out) Tryz.underlying74 rfl (by kernel_rfl)) rfl ?_
     exact fin_ (blt HB)
    ·rw [if_neg c28] at H
     have c28b0 : (t195 == (-1)) = false := beq_eq_false_iff_ne.mpr c28
     have c28b1 : (t195 != (-1)) = true := bne_iff_ne.mpr c28
     replace H := Option.bind_eq_some_iff.mp H
     obtain ⟨t196, A52, H⟩ := H
     try dsimp only at H
     replace A52 := Zs.mk A52
     replace H := Option.bind_eq_some_iff.mp H
     obtain ⟨t197, A53, H⟩ := H
     try dsimp only at H
     replace A53 := Zs.mk A53
     replace H := Option.bind_eq_some_iff.mp H
     obtain ⟨t198, A54, H⟩ := H
     try dsimp only at H
     replace A54 := Zs.mk A54
     simp only [Option.some.injEq, Prod.mk.injEq] at H
     obtain ⟨rfl, rfl⟩ := H
     try go_wp2
     replace BK185 := Zs.mk (zd BK185.out)
     replace BK186 := Zs.mk (zd BK186.out)
     replace HB := Zs.mk (below_drew1 HB.out)
     refine start_ (n := 16) (S := fun w' => w'.cell? ⟨gb185, 0, none⟩ = some (.int .u64 a1_0) ∧ w'.cell? ⟨gb185, 1, none⟩ = some (.int .u64 a1_1)) (ds := []) #[false, false, false, false, false, false, false, false, false, false, false, false, false, false, false, false] (by kernel_rfl) rfl rfl (cf2c BK185) (fun hHeld => ?_); refine with_tabW fd_squareRoot.tab3 fd_squareRoot.bits3 (fun HT_ HW_ => ?_)
     generalize wc.drew = w55 at BK185 BK186 HB hHeld ⊢
     refine pu 0 21 HT_ ?_
     refine pu 1 22 HT_ ?_
     refine pu 2 23 HT_ ?_
     refine pu 3 24 HT_ ?_
     refine pu 4 25 HT_ ?_
     refine pu 7 28 HT_ ?_
     refine pu 11 32 HT_ ?_
     refine tk 5 26 HT_ HW_ hHeld ?_
     refine tk 8 29 HT_ HW_ hHeld ?_
     refine on 6 27 HT_ (fun K hK => ?_)
     refine gsc Tryz.func100 (fd_size.calls a0 a1_0 t189 _ A21.out) (fun w56 hb => ?_)
     replace BK185 := bkb BK185 hb
     replace BK186 := bkb BK186 hb
     replace HB := bls HB hb
     (try clear hb)
     (try clear hb2)
     (try clear hk)
     (try clear hi)
     refine hK.out _ _ (cf2c BK185) (fun hHeld => ?_)
     clear hK K
     refine nm 27 ?_
     refine on 9 30 HT_ (fun K hK => ?_)
     refine gsc Tryz.func79 (fd_distance.calls kj2 a0 a1_0 a1_1 t190 _ A22.out) (fun w57 hb => ?_)
     replace BK185 := bkb BK185 hb
     replace BK186 := bkb BK186 hb
     replace HB := bls HB hb
     (try clear hb)
     (try clear hb2)
     (try clear hk)
     (try clear hi)
     refine hK.out _ _ (cf2c BK185) (fun hHeld => ?_)
     clear hK K
     refine nm 30 ?_
     refine on 10 31 HT_ (fun K hK => ?_)
     refine gsc Tryz.func97 (fd_add.calls a0 t189 t190 t191 _ A23.out) (fun w58 hb => ?_)
     replace BK185 := bkb BK185 hb
     replace BK186 := bkb BK186 hb
     replace HB := bls HB hb
     (try clear hb)
     (try clear hb2)
     (try clear hk)
     (try clear hi)
     refine hK.out _ _ (cf2c BK185) (fun hHeld => ?_)
     clear hK K
     refine nm 31 ?_
     refine on 12 33 HT_ (fun K hK => ?_)
     refine gsc Tryz.func123 (fd_half.calls a0 t192 _ A24.out) (fun w59 hb => ?_)
     replace BK185 := bkb BK185 hb
     replace BK186 := bkb BK186 hb
     replace HB := bls HB hb
     (try clear hb)
     (try clear hb2)
     (try clear hk)
     (try clear hi)
     refine hK.out _ _ (cf2c BK185) (fun hHeld => ?_)
     clear hK K
     refine nm 33 ?_
     refine on 13 34 HT_ (fun K hK => ?_)
     refine gsc Tryz.func99 (fd_mul.calls a0 t191 t192 t193 _ A25.out) (fun w60 hb => ?_)
     replace BK185 := bkb BK185 hb
     replace BK186 := bkb BK186 hb
     replace HB := bls HB hb
     (try clear hb)
     (try clear hb2)
     (try clear hk)
     (try clear hi)
     refine hK.out _ _ (cf2c BK185) (fun hHeld => ?_)
     clear hK K
     refine nm 34 ?_
     refine on 14 35 HT_ (fun K hK => ?_)
     refine gsc Tryz.func121 (fd_root.calls a0 t193 t194 _ A26.out) (fun w61 hb => ?_)
     replace BK185 := bkb BK185 hb
     replace BK186 := bkb BK186 hb
     replace HB := bls HB hb
     (try clear hb)
     (try clear hb2)
     (try clear hk)
     (try clear hi)
     refine hK.out _ _ (cf2c BK185) (fun hHeld => ?_)
     clear hK K
     refine nm 35 ?_
     refine pu 15 5 HT_ ?_
     refine done_ (done_of HT_.out (by kernel_rfl)) ?_
     have hnb62 := NB185_186.out
     have hnc62 := NB186_185.out
     obtain ⟨hcz63_0, hcz63_1, hfz63_0, hfz63_1⟩ := cf2 BK185
     try go_wp2_with (first | ((with_reducible refine gc_ (f := 92) rfl ?_); refine gLc 39 Tryz.func92 (fd_order.calls a0 a1_0 0 t195 _ A27.out) (fun w64 hb => ?_); replace BK185 := bkb BK185 hb; replace BK186 := bkb BK186 hb; replace HB := bls HB hb; clear hb; obtain ⟨hcz65_0, hcz65_1, hfz65_0, hfz65_1⟩ := cf2 BK185) | ((with_reducible refine gc_ (f := 101) rfl ?_); refine gLc 47 Tryz.func101 (fd_div.calls a0 a1_1 t194 t196 _ A52.out) (fun w66 hb => ?_); replace BK185 := bkb BK185 hb; replace BK186 := bkb BK186 hb; replace HB := bls HB hb; clear hb) | ((with_reducible refine gc_ (f := 123) rfl ?_); refine gLc 49 Tryz.func123 (fd_half.calls a0 t197 _ A53.out) (fun w67 hb => ?_); replace BK185 := bkb BK185 hb; replace BK186 := bkb BK186 hb; replace HB := bls HB hb; clear hb) | ((with_reducible refine gc_ (f := 99) rfl ?_); refine gLc 50 Tryz.func99 (fd_mul.calls a0 t196 t197 t198 _ A54.out) (fun w68 hb => ?_); replace BK185 := bkb BK185 hb; replace BK186 := bkb BK186 hb; replace HB := bls HB hb; clear hb; obtain ⟨hcz69_0, hcz69_1, hfz69_0, hfz69_1⟩ := cf2 BK186))
     refine bodyPost_ret (results_cell_row rfl _ _ gb186 74 #[.int .u64 t194, .int .u64 t198] (0, 0) _ rfl (by (with_reducible repeat (first | refine zn ?_ _ | refine zd ?_ | refine za ?_ _)); apply bp2; (with_reducible repeat (first | refine zn ?_ _ | refine zd ?_ | refine za ?_ _)); exact BK186.out) Tryz.underlying74 rfl (by kernel_rfl)) rfl ?_
     exact fin_ (blt HB)
end Go.Proofs.YtmoimcblmmcffaaGreat.PPC

namespace Go.Proofs.YtmoimcblmmcffaaGreat.PPC
open Go.RowKit Go.Proofs.YtmoimcblmmcffaaGreatW.PrintWords Go.Proofs.YtmoimcblmmcffaaGreatW.PrintLast Go.Proofs.YtmoimcblmmcffaaGreatW.PrintMore Go.Proofs.YtmoimcblmmcffaaGreatW.PrintZ
attribute [local go_sem] max2_int min2_int max_two min_two max_three min_three max_four min_four   -- for this text's walks alone
set_option linter.unusedVariables false
set_option linter.unusedSimpArgs false


mutual
def cx_list.l0 : Nat → Int → List (S74) → List (S24) → Int → Int → Option ((List (S74)) × Int)
 | 0, _, _, _, _, _ => none
 | k + 1, x0, x6, x12, x13, x14 => if x14 < x13 then (if 0 ≤ x14 then (if x14 < (x12.length : Int) then ((cx_open.f ((rd_T24 x12 x14).f0) ((rd_T24 x12 x14).f1) ((rd_T24 x12 x14).f2) ((rd_T24 x12 x14).f3)).bind fun bt245 => (if bt245.2.2.2 = 0 then (cx_list.j1 k x0 x6 bt245.2.2.2 x12 x13 x14 (((rd_T24 x12 x14).f0) != x0) bt245.2.1 bt245.2.2.1) else (cx_list.j1 k x0 x6 bt245.2.2.2 x12 x13 x14 false bt245.2.1 bt245.2.2.1))) else (none)) else (none)) else (some (x6, 0))
def cx_list.j1 : Nat → Int → List (S74) → Int → List (S24) → Int → Int → Bool → Int → Int → Option ((List (S74)) × Int)
 | 0, _, _, _, _, _, _, _, _, _ => none
 | k + 1, x0, x6, x11, x12, x13, x14, x31, x250000, x250001 => if x31 = true then (if 27 = 0 then (if x6.length < 8796093022208 then (cx_list.l0 k x0 (x6 ++ [(⟨x250000, x250001⟩ : S74)]) x12 x13 (wrap64 (x14 + 1))) else (none)) else (some (([] : List (S74)), 27))) else (if x11 = 0 then (if x6.length < 8796093022208 then (cx_list.l0 k x0 (x6 ++ [(⟨x250000, x250001⟩ : S74)]) x12 x13 (wrap64 (x14 + 1))) else (none)) else (some (([] : List (S74)), x11)))
end
def cx_list.f (k : Nat) (a0 : Int) (l1 : List (S24)) : Option ((List (S74)) × Int) := cx_list.l0 k a0 ([] : List (S74)) l1 (l1.length : Int) 0
set_option maxHeartbeats 8000000 in
set_option maxRecDepth 100000 in
theorem cx_list.calls (k : Nat) (a0 : Int) (A1 : Option Addr) (c1 : Nat) (l1 : List (S24)) (r1 : List (S74)) (r2 : Int) (w : World) (hr1 : Kd.C k24 w A1 l1.length l1) (hc1 : l1.length ≤ c1) (h : cx_list.f k a0 l1 = some (r1, r2)) :
  Calls Tryz.prog 89 #[.int .i64 a0, .slice A1 l1.length c1] w fun e w' => ∃ v0_ : Value, e = .returned (.tuple #[v0_, .int .i64 r2]) ∧ Kd.R k74 74 w' w.heap.size (fun _ => True) v0_ r1 ∧ Below w.heap.size w w' := by
 have hu24 := Tryz.underlying24
 have hu74 := Tryz.underlying74
 have HR1 := Zs.mk hr1
 have HC1 := Zs.mk hc1
 clear hr1 hc1
 have HB := Zs.mk (Below.refl w.heap.size w)
 have H : (cx_list.l0 k a0 ([] : List (S74)) l1 (l1.length : Int) 0) = some (r1, r2) := h
 clear h
 have H' := Zs.mk H
 clear H
 go_enter Tryz.func89, Tryz.ntmps89
 go_wp2
 go_loopg [6, 14] k (fun kq v6 v14 w' => ∃ (x6_1 : List (S74)) (x14_1 : Int), v14 = .int .i64 x14_1 ∧ Zs (cx_list.l0 kq a0 x6_1 l1 (l1.length : Int) x14_1 = some (r1, r2)) ∧ Zs (kq ≤ k) ∧ Zs (Kd.R k74 74 w' w.heap.size (fun _ => True) v6 x6_1) ∧ Zs (Below w.heap.size w w'))
 case atStart => exact ⟨(([] : List (S74))), (0), (by first | rfl | (simp; done) | (simp [*]; done)), H', ⟨Nat.le_refl _⟩, ⟨by first | exact Kd.R_nil _ _ _ _ _ | exact Kd.N_nil _ _ _ _ _ | exact Kd.V_nil _ _ _ _ _ | exact Kd.Q_nil _ _ _ _ _ | exact Kd.S_nil _ _ _ _ _⟩, blt HB⟩
 case round =>
  clear H'
  try clear c1
  try clear p2
  obtain ⟨x6_1, x14_1, rfl, HA, HK1, HO_6, HB⟩ := hrel
  cases gk with
  | zero => exact absurd HA.out (by simp [cx_list.l0])
  | succ k1 =>
   have H := HA.out
   clear HA
   simp only [cx_list.l0] at H
   by_cases c3 : x14_1 < (l1.length : Int)
   ·rw [if_pos c3] at H
    have c3b0 : decide (x14_1 < (l1.length : Int)) = true := decide_eq_true c3
    clear c3
    by_cases c4 : 0 ≤ x14_1
    ·rw [if_pos c4] at H
     have c4b0 : decide (0 ≤ x14_1) = true := decide_eq_true c4
     clear c4
     by_cases c5 : x14_1 < (l1.length : Int)
     ·rw [if_pos c5] at H
      have c5b0 : decide (x14_1 < (l1.length : Int)) = true := decide_eq_true c5
      clear c5
      replace H := Option.bind_eq_some_iff.mp H
      obtain ⟨⟨t245, t246, t247, t248⟩, A6, H⟩ := H
      try dsimp only at H
      replace A6 := Zs.mk A6
      have HC7 := Zs.mk H
      clear H
      have p243 : 0 ≤ (x14_1 : Int) := of_decide_eq_true (by first | (with_reducible assumption) | assumption)
      have q243 : x14_1 < (l1.length : Int) := of_decide_eq_true (by first | (with_reducible assumption) | assumption)
      obtain ⟨ad243, e243, hx243_0, hx243_1, hx243_2, hx243_3⟩ := at_T24 HR1.out x14_1 p243 q243
      cases e243
      replace hx243_0 := (HB.out.cell (World.block_lt_of_cell? w _ hx243_0)).trans hx243_0
      replace hx243_1 := (HB.out.cell (World.block_lt_of_cell? w _ hx243_1)).trans hx243_1
      replace hx243_2 := (HB.out.cell (World.block_lt_of_cell? w _ hx243_2)).trans hx243_2
      replace hx243_3 := (HB.out.cell (World.block_lt_of_cell? w _ hx243_3)).trans hx243_3
      replace p243 := eq_true p243
      replace q243 := eq_true q243
      go_upto_region 6 with (first | ((with_reducible refine gd_ (N := 8) rfl ?_); refine bxe 8 (cs := #[.int .i64 0, .int .u64 0, .int .u64 0, .string (⟨#[]⟩ : ByteArray)]) (t := 24) ?_; intro gb244 hg w8 hbox hb; have BK244 := Zs.mk hbox; have GW244 := bsz HB hg; have GE244 := bsz HB hg; replace HO_6 := Zs.mk (Kd.R_below (by (with_reducible repeat (first | apply Kd.R_alloc | apply Kd.R_drewN | apply Kd.R_drew)); exact HO_6.out) hb); replace HB := bls HB hb; clear hb hbox hg; obtain ⟨hcz9_0, hcz9_1, hcz9_2, hcz9_3, hfz9_0, hfz9_1, hfz9_2, hfz9_3⟩ := cf4 BK244) | ((with_reducible refine gc_ (f := 72) rfl ?_); refine gLc 20 Tryz.func72 (cx_open.calls ((rd_T24 l1 x14_1).f0) ((rd_T24 l1 x14_1).f1) ((rd_T24 l1 x14_1).f2) ((rd_T24 l1 x14_1).f3) t245 t246 t247 t248 _ A6.out) (fun w10 hb => ?_); replace HO_6 := Zs.mk (Kd.R_below (by (with_reducible repeat (first | apply Kd.R_alloc | apply Kd.R_drewN | apply Kd.R_drew)); exact (Kd.R_mono (Kd.R_far (p := ⟨gb244, 3, none⟩) (Kd.R_far (p := ⟨gb244, 2, none⟩) (Kd.R_far (p := ⟨gb244, 1, none⟩) (Kd.R_far (p := ⟨gb244, 0, none⟩) (Kd.R_types HO_6.out BK244.out (by decide)) (fun _ hk => hk.2) (.int .i64 ((rd_T24 l1 x14_1).f0))) (fun _ hk => hk.2) (.int .u64 ((rd_T24 l1 x14_1).f1))) (fun _ hk => hk.2) (.int .u64 ((rd_T24 l1 x14_1).f2))) (fun _ hk => hk.2) (.string ((rd_T24 l1 x14_1).f3))) (fun _ h_ => h_.1))) hb); replace BK244 := Zs.mk (blk_below (g := gb244) (o := .cells #[.int .i64 ((rd_T24 l1 x14_1).f0), .int .u64 ((rd_T24 l1 x14_1).f1), .int .u64 ((rd_T24 l1 x14_1).f2), .string ((rd_T24 l1 x14_1).f3)] 24 (0, 0)) (by (with_reducible repeat (first | refine zn ?_ _ | refine zd ?_ | refine za ?_ _)); apply bp4; (with_reducible repeat (first | refine zn ?_ _ | refine zd ?_ | refine za ?_ _)); exact BK244.out) hb); replace HB := bls HB hb; clear hb) | ((with_reducible refine gd_ (N := 10) rfl ?_); refine bxe 10 (cs := #[.int .u64 0, .int .u64 0]) (t := 74) ?_; intro gb249 hg w11 hbox hb; have BK249 := Zs.mk hbox; have GW249 := bsz HB hg; have GE249 := bsz HB hg; have NB244_249 := bnl BK244 hg; have NB249_244 := bng BK244 hg; replace HO_6 := Zs.mk (Kd.R_below (Kd.R_elderB (by (with_reducible repeat (first | apply Kd.R_alloc | apply Kd.R_drewN | apply Kd.R_drew)); exact HO_6.out) gb249 (Nat.le_of_eq hg.symm)) hb); replace BK244 := bkb BK244 hb; replace HB := bls HB hb; clear hb hbox hg; have hnb12 := NB249_244.out; have hnc12 := NB244_249.out; obtain ⟨hcz13_0, hcz13_1, hfz13_0, hfz13_1⟩ := cf2 BK249))
      (try simp only [Act.put, List.setIfInBounds_toArray, List.set_cons_zero, List.set_cons_succ])
      go_cut [31] (fun v31 wc => ∃ (kq : Nat) (x31_6 : Bool), v31 = .bool x31_6 ∧ Zs (cx_list.j1 kq a0 x6_1 t248 l1 (l1.length : Int) x14_1 x31_6 t246 t247 = some (r1, r2)) ∧ Zs (kq ≤ k1) ∧ Zs (Kd.R k74 74 wc w.heap.size (fun k_ => k_ ≠ gb249) u6 x6_1) ∧ Zs (wc.heap[gb244]? = some (.cells #[.int .i64 ((rd_T24 l1 x14_1).f0), .int .u64 ((rd_T24 l1 x14_1).f1), .int .u64 ((rd_T24 l1 x14_1).f2), .string ((rd_T24 l1 x14_1).f3)] 24 (0, 0))) ∧ Zs (wc.heap[gb249]? = some (.cells #[.int .u64 t246, .int .u64 t247] 74 (0, 0))) ∧ Zs (Below w.heap.size w wc))
      case first =>
       have H := HC7.out
       clear HC7
       by_cases c14 : t248 = 0
       ·rw [if_pos c14] at H
        have c14b0 : (t248 == 0) = true := beq_iff_eq.mpr c14
        have c14b1 : (t248 != 0) = false := bne_eq_false_iff_eq.mpr c14
        clear c14
        (first | rw [c14b0] | (simp only [i64_w, i32_w]; rw [c14b0]) | skip)
        have H' := Zs.mk H
        clear H
        have hnb15 := NB244_249.out
        have hnc15 := NB249_244.out
        obtain ⟨hcz16_0, hcz16_1, hcz16_2, hcz16_3, hfz16_0, hfz16_1, hfz16_2, hfz16_3⟩ := cf4 BK244
        go_wp2
        go_meet
        case rel => exact ⟨_, ((((rd_T24 l1 x14_1).f0) != a0)), (by first | rfl | (simp; done) | (simp [*]; done)), H', ⟨by have := HK1.out; first | omega | exact Nat.le_refl _⟩, ⟨by (with_reducible repeat (first | apply Kd.R_alloc | apply Kd.R_drewN | apply Kd.R_drew)); exact Kd.R_mono (Kd.R_far (p := ⟨gb249, 1, none⟩) (Kd.R_far (p := ⟨gb249, 0, none⟩) (Kd.R_mono HO_6.out (fun k_ hk => (⟨hk, hk.2⟩ : _ ∧ k_ ≠ gb249))) (fun _ hk => hk.2) (.int .u64 t246)) (fun _ hk => hk.2) (.int .u64 t247)) (fun _ hk => hk.1.2)⟩, bkf BK244, ⟨by (with_reducible repeat (first | refine zn ?_ _ | refine zd ?_ | refine za ?_ _)); apply bp2; (with_reducible repeat (first | refine zn ?_ _ | refine zd ?_ | refine za ?_ _)); exact BK249.out⟩, blt HB⟩
       ·rw [if_neg c14] at H
        have c14b0 : (t248 == 0) = false := beq_eq_false_iff_ne.mpr c14
        have c14b1 : (t248 != 0) = true := bne_iff_ne.mpr c14
        (first | rw [c14b0] | (simp only [i64_w, i32_w]; rw [c14b0]) | skip)
        have H' := Zs.mk H
        clear H
        go_wp2
        go_meet
        case rel => exact ⟨_, (false), (by first | rfl | (simp; done) | (simp [*]; done)), H', ⟨by have := HK1.out; first | omega | exact Nat.le_refl _⟩, ⟨by (with_reducible repeat (first | apply Kd.R_alloc | apply Kd.R_drewN | apply Kd.R_drew)); exact Kd.R_mono (Kd.R_far (p := ⟨gb249, 1, none⟩) (Kd.R_far (p := ⟨gb249, 0, none⟩) (Kd.R_mono HO_6.out (fun k_ hk => (⟨hk, hk.2⟩ : _ ∧ k_ ≠ gb249))) (fun _ hk => hk.2) (.int .u64 t246)) (fun _ hk => hk.2) (.int .u64 t247)) (fun _ hk => hk.1.2)⟩, bkf BK244, ⟨by (with_reducible repeat (first | refine zn ?_ _ | refine zd ?_ | refine za ?_ _)); apply bp2; (with_reducible repeat (first | refine zn ?_ _ | refine zd ?_ | refine za ?_ _)); exact BK249.out⟩, blt HB⟩
      case rest =>
       clear HC7
       try clear c1
       try clear p2
       try clear q2
       try clear hx2
       try clear c3
       try clear c3b0
       try clear c4
       try clear c4b0
       try clear c5
       try clear c5b0
       try clear c7
       try clear c8
       try clear c12
       try clear c14
       try clear c14b0
       try clear c14b1
       try clear c15
       try clear hcz13_0
       try clear hcz13_1
       try clear hcz16_0
       try clear hcz16_1
       try clear hcz16_2
       try clear hcz16_3
       try clear hcz9_0
       try clear hcz9_1
       try clear hcz9_2
       try clear hcz9_3
       try clear hfz13_0
       try clear hfz13_1
       try clear hfz16_0
       try clear hfz16_1
       try clear hfz16_2
       try clear hfz16_3
       try clear hfz9_0
       try clear hfz9_1
       try clear hfz9_2
       try clear hfz9_3
       try clear hx243_0
       try clear hx243_1
       try clear hx243_2
       try clear hx243_3
       try clear p2
       try clear p243
       try clear q243
       obtain ⟨kq, x31_6, rfl, HA, HJ6, HO_6, BK244, BK249, HB⟩ := hcut
       cases kq with
       | zero => exact absurd HA.out (by simp [cx_list.j1])
       | succ kj6 =>
        have H := HA.out
        clear HA
        simp only [cx_list.j1] at H
        by_cases c17 : x31_6 = true
        ·subst c17
         have H1 : (if 27 = 0 then (if x6_1.length < 8796093022208 then (cx_list.l0 kj6 a0 (x6_1 ++ [(⟨t246, t247⟩ : S74)]) l1 (l1.length : Int) (wrap64 (x14_1 + 1))) else (none)) else (some (([] : List (S74)), 27))) = some (r1, r2) := by rw [if_pos rfl] at H; exact H
         clear H
         have H := H1
         clear H1
         by_cases c18 : 27 = 0
         ·exact absurd c18 (by decide)
         ·rw [if_neg c18] at H
          have c18b0 : (27 == 0) = false := beq_eq_false_iff_ne.mpr c18
          have c18b1 : (27 != 0) = true := bne_iff_ne.mpr c18
          simp only [Option.some.injEq, Prod.mk.injEq] at H
          obtain ⟨rfl, rfl⟩ := H
          go_wp2
          go_ret2
          exact ⟨_, by first | rfl | (simp [errW_none, errW_some] <;> rfl) | (simp [*, errW_none, errW_some] <;> rfl), by first | exact Kd.R_nil _ _ _ _ _ | exact Kd.N_nil _ _ _ _ _ | exact Kd.V_nil _ _ _ _ _ | exact Kd.Q_nil _ _ _ _ _ | exact Kd.S_nil _ _ _ _ _, (blt HB).out⟩
        ·replace c17 := Bool.eq_false_iff.mpr c17
         subst c17
         have H1 : (if t248 = 0 then (if x6_1.length < 8796093022208 then (cx_list.l0 kj6 a0 (x6_1 ++ [(⟨t246, t247⟩ : S74)]) l1 (l1.length : Int) (wrap64 (x14_1 + 1))) else (none)) else (some (([] : List (S74)), t248))) = some (r1, r2) := by rw [if_neg (show ¬ (false = true) by decide)] at H; exact H
         clear H
         have H := H1
         clear H1
         by_cases c23 : t248 = 0
         ·rw [if_pos c23] at H
          have c23b0 : (t248 == 0) = true := beq_iff_eq.mpr c23
          have c23b1 : (t248 != 0) = false := bne_eq_false_iff_eq.mpr c23
          clear c23
          by_cases c24 : x6_1.length < 8796093022208
          ·rw [if_pos c24] at H
           have LMc24 := Zs.mk c24
           clear c24
           obtain ⟨y253, hy253⟩ : ∃ y_ : List (S74), y_ = (x6_1 ++ [(⟨t246, t247⟩ : S74)]) := ⟨_, rfl⟩
           replace H : (cx_list.l0 kj6 a0 y253 l1 (l1.length : Int) (wrap64 (x14_1 + 1))) = some (r1, r2) := by first | (rw [hy253]; with_reducible exact H) | (have H2_ := (Option.bind_some _ _).symm.trans H; rw [hy253]; with_reducible exact H2_) | (have H2_ := (Option.bind_some _ _).symm.trans H; with_reducible exact H2_) | with_reducible exact H | (rw [hy253]; exact H) | exact H
           have Ny253 := Zs.mk hy253
           clear hy253
           have H' := Zs.mk H
           clear H
           have hnb25 := NB249_244.out
           have hnc25 := NB244_249.out
           obtain ⟨hcz26_0, hcz26_1, hfz26_0, hfz26_1⟩ := cf2 BK249
           go_wp2_with (first | ((with_reducible refine gate_builtin (b := .append) (xs := #[.tmp 35, .tmp 37]) rfl ?_); at_builtin; refine Kd.R_append k74 (w0 := w) w.heap.size rfl (.tmp 35) (.tmp 37) 103 74 (.agg #[(.int .u64 0), (.int .u64 0)]) 16 rfl Tryz.underlying103 info74 rfl (by decide) (by omega) u6 x6_1 (⟨t246, t247⟩ : S74) [.int .u64 t246, .int .u64 t247] (fun k_ => k_ ≠ gb249) (fun _ => False) rfl rfl ?aP (fun _ hk => hk.elim) ?aF ?aO ?aB ?aS ?aL ?_; (case aP => exact k74_mkM _ _ _ (⟨t246, t247⟩ : S74)); (case aB => exact (blt HB).out); (case aF => exact (fun k_ hk => Kd.freshB (g := gb249) (o := .cells #[.int .u64 t246, .int .u64 t247] 74 (0, 0)) (bks BK249).out k_ hk)); (case aO => exact (by (with_reducible repeat (first | apply Kd.R_alloc | apply Kd.R_drewN | apply Kd.R_drew)); exact HO_6.out)); (case aS => exact (below_size (blt HB).out)); (case aL => have := LMc24.out; omega); intro v254 w27 ho hb hg hat; rw [← Ny253.out] at ho; have n0_ := Zs.mk (blk_grown (g := gb244) (o := .cells #[.int .i64 ((rd_T24 l1 x14_1).f0), .int .u64 ((rd_T24 l1 x14_1).f1), .int .u64 ((rd_T24 l1 x14_1).f2), .string ((rd_T24 l1 x14_1).f3)] 24 (0, 0)) (bks BK244).out hg (Kd.R_ne HO_6.out BK244.out (by decide))); have n1_ := Zs.mk (blk_grown (g := gb249) (o := .cells #[.int .u64 t246, .int .u64 t247] 74 (0, 0)) (bks BK249).out hg (Kd.R_away HO_6.out (fun _ hk => hk))); have n2_ := Zs.mk (hb); have n3_ := Zs.mk (ho); clear BK244; clear BK249; clear HB; clear HO_6; have BK244 := n0_; have BK249 := n1_; have HB := n2_; have HO255 := n3_; clear n0_ n1_ n2_ n3_; clear ho hb hg hat))
           go_roundg kj6
           case measure => have := HK1.out; have := HJ6.out; omega
           case rel => exact ⟨(y253), (wrap64 (x14_1 + 1)), (by first | rfl | (simp; done) | (simp [*]; done)), H', ⟨by have := HK1.out; have := HJ6.out; omega⟩, ⟨by (with_reducible repeat (first | apply Kd.R_alloc | apply Kd.R_drewN | apply Kd.R_drew)); exact Kd.R_mono HO255.out (fun _ hk => trivial)⟩, blt HB⟩
          ·rw [if_neg c24] at H
           exact absurd H (by simp)
         ·rw [if_neg c23] at H
          have c23b0 : (t248 == 0) = false := beq_eq_false_iff_ne.mpr c23
          have c23b1 : (t248 != 0) = true := bne_iff_ne.mpr c23
          simp only [Option.some.injEq, Prod.mk.injEq] at H
          obtain ⟨rfl, rfl⟩ := H
          go_wp2
          go_ret2
          exact ⟨_, by first | rfl | (simp [errW_none, errW_some] <;> rfl) | (simp [*, errW_none, errW_some] <;> rfl), by first | exact Kd.R_nil _ _ _ _ _ | exact Kd.N_nil _ _ _ _ _ | exact Kd.V_nil _ _ _ _ _ | exact Kd.Q_nil _ _ _ _ _ | exact Kd.S_nil _ _ _ _ _, (blt HB).out⟩
     ·rw [if_neg c5] at H
      exact absurd H (by simp)
    ·rw [if_neg c4] at H
     exact absurd H (by simp)
   ·rw [if_neg c3] at H
    have c3b0 : decide (x14_1 < (l1.length : Int)) = false := decide_eq_false c3
    clear c3
    simp only [Option.some.injEq, Prod.mk.injEq] at H
    obtain ⟨rfl, rfl⟩ := H
    go_wp2
    go_ret2
    exact ⟨_, by first | rfl | (simp [errW_none, errW_some] <;> rfl) | (simp [*, errW_none, errW_some] <;> rfl), by (with_reducible repeat (first | apply Kd.R_alloc | apply Kd.R_drewN | apply Kd.R_drew)); exact HO_6.out, (blt HB).out⟩
def fd_sum.f (a0 : Int) (l1 : List (S74)) : Option (Int × Int) := if l1.length = 1 then some ((rd_T74 l1 0).f0, (rd_T74 l1 0).f1) else none
set_option maxHeartbeats 8000000 in
set_option maxRecDepth 100000 in
theorem fd_sum.calls (a0 : Int) (A1 : Option Addr) (c1 : Nat) (l1 : List (S74)) (r1 : Int) (r2 : Int) (w : World) (hr1 : Kd.C k74 w A1 l1.length l1) (hc1 : l1.length ≤ c1) (h : fd_sum.f a0 l1 = some (r1, r2)) :
  Calls Tryz.prog 90 #[.int .i64 a0, .slice A1 l1.length c1] w fun e w' => e = .returned (.agg #[.int .u64 r1, .int .u64 r2]) ∧ Below w.heap.size w w' := by
 by_cases hl : l1.length = 1
 ·unfold fd_sum.f at h
  rw [if_pos hl] at h
  obtain ⟨x, rfl⟩ := List.length_eq_one_iff.1 hl
  have h := Option.some.inj h
  simp only [Prod.mk.injEq] at h
  obtain ⟨rfl, rfl⟩ := h
  generalize hy0 : (rd_T74 [x] 0).f0 = y0
  generalize hy1 : (rd_T74 [x] 0).f1 = y1
  have HR := Zs.mk hr1
  have HC := Zs.mk hc1
  clear hr1 hc1 hl
  by_cases hcap : c1 = 1
  all_goals
   go_enter Tryz.func90, Tryz.ntmps90
   go_upto_region 1 with (fail)
   refine B.hide0own (fun W n hn ho hlt hB => ?_)
   rw [hn]
   obtain ⟨ad, e, hx0, hx1⟩ := at_T74 (Kd.C_below HR.out hB) 0 (by simp) (by simp)
   cases e
   have ea : ad.add (((0 : Int)).toNat * 2) = ad := by cases ad; rfl
   rw [ea] at hx0 hx1
   rw [hy0] at hx0
   rw [hy1] at hx1
   go_upto_region 4 with (fail)
   refine B.hideLoc ho hlt hB (fun V gx hgx k0 k1 ho2 hB2 => ?_)
   rw [hgx]
   clear hx0 hx1 ho hlt hB
   go_wp2
   go_loop [18] (fun i => i = .int .i64 0) (fun _ => 0)
   case atStart => rfl
   case round =>
    subst hrel
    go_wp2
    have hr := B.Own.read2 (n := 0) ((ho2.set ⟨n, 0, none⟩ (.int .u64 y0)).set ⟨n, 1, none⟩ (.int .u64 y1))
    exact bodyPost_ret (v := .agg #[.int .u64 y0, .int .u64 y1]) (by simp [results, Tryz.results90, go_sem, hr.1, hr.2]) rfl ⟨rfl, by have hz := B.below_two hB2 (Nat.le_of_eq hn) (.int .u64 y0) (.int .u64 y1); rw [hn] at hz; exact hz⟩
 ·unfold fd_sum.f at h
  rw [if_neg hl] at h
  cases h
end Go.Proofs.YtmoimcblmmcffaaGreat.PPC

namespace Go.Proofs.YtmoimcblmmcffaaGreat.PPC
open Go.RowKit Go.Proofs.YtmoimcblmmcffaaGreatW.PrintWords Go.Proofs.YtmoimcblmmcffaaGreatW.PrintLast Go.Proofs.YtmoimcblmmcffaaGreatW.PrintMore Go.Proofs.YtmoimcblmmcffaaGreatW.PrintZ
attribute [local go_sem] max2_int min2_int max_two min_two max_three min_three max_four min_four   -- for this text's walks alone
set_option linter.unusedVariables false
set_option linter.unusedSimpArgs false


mutual
def cx_DotOf.j0 : Nat → Int → List (S24) → List (S24) → Int → Int → Option (Int × Int × Int × ByteArray × Int)
 | 0, _, _, _, _, _ => none
 | k + 1, x0, x1, x2, x8, x9 => if x9 = 0 then ((cx_list.f k x0 x1).bind fun bt259 => (if bt259.2 = 0 then ((cx_list.f k x0 x2).bind fun bt263 => (if bt263.2 = 0 then (cx_DotOf.l0 k x8 bt259.1 bt263.1 (bt259.1.length : Int) 0) else (some (0, 0, 0, (⟨#[]⟩ : ByteArray), bt263.2)))) else (some (0, 0, 0, (⟨#[]⟩ : ByteArray), bt259.2)))) else (some (0, 0, 0, (⟨#[]⟩ : ByteArray), x9))
def cx_DotOf.l0 : Nat → Int → List (S74) → List (S74) → Int → Int → Option (Int × Int × Int × ByteArray × Int)
 | 0, _, _, _, _, _ => none
 | k + 1, x8, x10, x11, x56, x57 => if x57 < x56 then (if 0 ≤ x57 then (if x57 < (x10.length : Int) then ((fd_conjugate.f x8 ((rd_T74 x10 x57).f0) ((rd_T74 x10 x57).f1)).bind fun bt268 => (if x57 < (x11.length : Int) then ((fd_times.f x8 bt268.1 bt268.2 ((rd_T74 x11 x57).f0) ((rd_T74 x11 x57).f1)).bind fun bt271 => (cx_DotOf.l0 k x8 (x10.set (x57 : Int).toNat (⟨bt271.1, bt271.2⟩ : S74)) x11 x56 (wrap64 (x57 + 1)))) else (none))) else (none)) else (none)) else ((fd_sum.f x8 x10).bind fun bt274 => ((fd_value.f x8 bt274.1 bt274.2).bind fun bt276 => (some (bt276.1, bt276.2.1, bt276.2.2.1, bt276.2.2.2, 0))))
end
def cx_DotOf.f (k : Nat) (a0 : Int) (l1 : List (S24)) (l2 : List (S24)) : Option (Int × Int × Int × ByteArray × Int) := (cx_partType.f a0).bind fun bt257 => (if bt257.2 = 0 then (if (l1.length : Int) = (l2.length : Int) then (if (l1.length : Int) > 40 then (cx_DotOf.j0 k a0 l1 l2 bt257.1 8) else (cx_DotOf.j0 k a0 l1 l2 bt257.1 bt257.2)) else (cx_DotOf.j0 k a0 l1 l2 bt257.1 10)) else (cx_DotOf.j0 k a0 l1 l2 bt257.1 bt257.2))
def cx_DotOf.T18 : Bool × List (List Nat × List Nat) := (true, [([], []), ([], []), ([], []), ([], []), ([], []), ([], []), ([4, 5], [4, 5]), ([6], [6]), ([3, 7], [3, 7]), ([], []), ([], []), ([9, 10], [9, 10]), ([11], [11]), ([2, 8, 12, 8], [2, 8, 12]), ([0, 1, 0, 1, 2, 3, 4, 5, 6, 7, 8, 9, 10, 11, 12, 13], [0, 1]), ([14, 13, 13, 0, 1, 2, 3, 4, 5, 6, 7, 8, 9, 10, 11, 12, 13], [13, 14])])
def cx_DotOf.B18 : List Nat := [0, 0, 0, 0, 0, 0, 48, 112, 248, 0, 0, 1536, 3584, 8188, 16383, 32767]
theorem cx_DotOf.tab18 : rtab .any (opsOf Tryz.f38 18) = cx_DotOf.T18 := by kernel_rfl
theorem cx_DotOf.bits18 : waitsOk cx_DotOf.T18.2 cx_DotOf.B18 = true := by kernel_rfl
set_option maxHeartbeats 8000000 in
set_option maxRecDepth 100000 in
theorem cx_DotOf.calls (k : Nat) (a0 : Int) (A1 : Option Addr) (c1 : Nat) (l1 : List (S24)) (A2 : Option Addr) (c2 : Nat) (l2 : List (S24)) (r1 : Int) (r2 : Int) (r3 : Int) (r4 : ByteArray) (r5 : Int) (w : World) (hr1 : Kd.C k24 w A1 l1.length l1) (hc1 : l1.length ≤ c1) (hr2 : Kd.C k24 w A2 l2.length l2) (hc2 : l2.length ≤ c2) (h : cx_DotOf.f k a0 l1 l2 = some (r1, r2, r3, r4, r5)) :
  Calls Tryz.prog 38 #[.int .i64 a0, .slice A1 l1.length c1, .slice A2 l2.length c2] w fun e w' => e = .returned (.tuple #[.agg #[.int .i64 r1, .int .u64 r2, .int .u64 r3, .string r4], .int .i64 r5]) ∧ Below w.heap.size w w' := by
 have hu24 := Tryz.underlying24
 have hu74 := Tryz.underlying74
 have HR1 := Zs.mk hr1
 have HC1 := Zs.mk hc1
 clear hr1 hc1
 have HR2 := Zs.mk hr2
 have HC2 := Zs.mk hc2
 clear hr2 hc2
 have HB := Zs.mk (Below.refl w.heap.size w)
 have H : ((cx_partType.f a0).bind fun bt257 => (if bt257.2 = 0 then (if (l1.length : Int) = (l2.length : Int) then (if (l1.length : Int) > 40 then (cx_DotOf.j0 k a0 l1 l2 bt257.1 8) else (cx_DotOf.j0 k a0 l1 l2 bt257.1 bt257.2)) else (cx_DotOf.j0 k a0 l1 l2 bt257.1 10)) else (cx_DotOf.j0 k a0 l1 l2 bt257.1 bt257.2))) = some (r1, r2, r3, r4, r5) := h
 clear h
 replace H := Option.bind_eq_some_iff.mp H
 obtain ⟨⟨t257, t258⟩, A4, H⟩ := H
 try dsimp only at H
 replace A4 := Zs.mk A4
 have HC5 := Zs.mk H
 clear H
 go_enter Tryz.func38, Tryz.ntmps38
 go_upto_block 0 with (first | ((with_reducible refine gd_ (N := 6) rfl ?_); refine bxe 6 (cs := #[.int .i64 0, .int .u64 0, .int .u64 0, .string (⟨#[]⟩ : ByteArray)]) (t := 24) ?_; intro gb256 hg w6 hbox hb; have BK256 := Zs.mk hbox; have GW256 := bsz HB hg; have GE256 := bsz HB hg; replace HB := bls HB hb; clear hb hbox hg) | ((with_reducible refine gc_ (f := 88) rfl ?_); refine gLc 15 Tryz.func88 (cx_partType.calls a0 t257 t258 _ A4.out) (fun w7 hb => ?_); replace BK256 := bkb BK256 hb; replace HB := bls HB hb; clear hb))
 (try simp only [Act.put, List.setIfInBounds_toArray, List.set_cons_zero, List.set_cons_succ])
 go_cut [9] (fun v9 wc => ∃ (kq : Nat) (x9_4 : Int), v9 = .int .i64 x9_4 ∧ Zs (cx_DotOf.j0 kq a0 l1 l2 t257 x9_4 = some (r1, r2, r3, r4, r5)) ∧ Zs (kq ≤ k) ∧ Zs (wc.heap[gb256]? = some (.cells #[.int .i64 0, .int .u64 0, .int .u64 0, .string (⟨#[]⟩ : ByteArray)] 24 (0, 0))) ∧ Zs (Below w.heap.size w wc))
 case first =>
  have H := HC5.out
  clear HC5
  by_cases c8 : t258 = 0
  ·rw [if_pos c8] at H
   have c8b0 : (t258 == 0) = true := beq_iff_eq.mpr c8
   have c8b1 : (t258 != 0) = false := bne_eq_false_iff_eq.mpr c8
   clear c8
   (first | rw [c8b0] | (simp only [i64_w, i32_w]; rw [c8b0]) | skip)
   by_cases c9 : (l1.length : Int) = (l2.length : Int)
   ·rw [if_pos c9] at H
    have c9b0 : ((l1.length : Int) == (l2.length : Int)) = true := beq_iff_eq.mpr c9
    have c9b1 : ((l1.length : Int) != (l2.length : Int)) = false := bne_eq_false_iff_eq.mpr c9
    have c9b2 : (l1.length == l2.length) = true := by first | simpa using c9 | (simp at c9 ⊢; omega)
    clear c9
    by_cases c10 : (l1.length : Int) > 40
    ·rw [if_pos c10] at H
     have c10b0 : decide (40 < (l1.length : Int)) = true := decide_eq_true c10
     have c10b1 : decide (40 < l1.length) = true := decide_eq_true (by omega)
     clear c10
     have H' := Zs.mk H
     clear H
     go_wp2
     go_meet
     case rel => exact ⟨_, (8), (by first | rfl | (simp; done) | (simp [*]; done)), H', ⟨by first | omega | exact Nat.le_refl _⟩, bks BK256, blt HB⟩
    ·rw [if_neg c10] at H
     have c10b0 : decide (40 < (l1.length : Int)) = false := decide_eq_false c10
     have c10b1 : decide (40 < l1.length) = false := decide_eq_false (by omega)
     clear c10
     have H' := Zs.mk H
     clear H
     go_wp2
     go_meet
     case rel => exact ⟨_, (t258), (by first | rfl | (simp; done) | (simp [*]; done)), H', ⟨by first | omega | exact Nat.le_refl _⟩, bks BK256, blt HB⟩
   ·rw [if_neg c9] at H
    have c9b0 : ((l1.length : Int) == (l2.length : Int)) = false := beq_eq_false_iff_ne.mpr c9
    have c9b1 : ((l1.length : Int) != (l2.length : Int)) = true := bne_iff_ne.mpr c9
    have c9b2 : (l1.length == l2.length) = false := by first | simpa using c9 | (simp at c9 ⊢; omega)
    have H' := Zs.mk H
    clear H
    go_wp2
    go_meet
    case rel => exact ⟨_, (10), (by first | rfl | (simp; done) | (simp [*]; done)), H', ⟨by first | omega | exact Nat.le_refl _⟩, bks BK256, blt HB⟩
  ·rw [if_neg c8] at H
   have c8b0 : (t258 == 0) = false := beq_eq_false_iff_ne.mpr c8
   have c8b1 : (t258 != 0) = true := bne_iff_ne.mpr c8
   (first | rw [c8b0] | (simp only [i64_w, i32_w]; rw [c8b0]) | skip)
   have H' := Zs.mk H
   clear H
   go_wp2
   go_meet
   case rel => exact ⟨_, (t258), (by first | rfl | (simp; done) | (simp [*]; done)), H', ⟨by first | omega | exact Nat.le_refl _⟩, bks BK256, blt HB⟩
 case rest =>
  clear HC5
  try clear c1
  try clear c2
  try clear p2
  try clear c3
  try clear c8
  try clear c8b0
  try clear c8b1
  try clear c9
  try clear c9b0
  try clear c9b1
  try clear c9b2
  try clear c10
  try clear c10b0
  try clear c10b1
  obtain ⟨kq, x9_4, rfl, HA, HJ4, BK256, HB⟩ := hcut
  cases kq with
  | zero => exact absurd HA.out (by simp [cx_DotOf.j0])
  | succ kj4 =>
   have H := HA.out
   clear HA
   simp only [cx_DotOf.j0] at H
   by_cases c11 : x9_4 = 0
   ·rw [if_pos c11] at H
    have c11b0 : (x9_4 == 0) = true := beq_iff_eq.mpr c11
    have c11b1 : (x9_4 != 0) = false := bne_eq_false_iff_eq.mpr c11
    clear c11
    replace H := Option.bind_eq_some_iff.mp H
    obtain ⟨⟨t259, t260⟩, A12, H⟩ := H
    try dsimp only at H
    replace A12 := Zs.mk A12
    by_cases c13 : t260 = 0
    ·rw [if_pos c13] at H
     have c13b0 : (t260 == 0) = true := beq_iff_eq.mpr c13
     have c13b1 : (t260 != 0) = false := bne_eq_false_iff_eq.mpr c13
     clear c13
     replace H := Option.bind_eq_some_iff.mp H
     obtain ⟨⟨t263, t264⟩, A14, H⟩ := H
     try dsimp only at H
     replace A14 := Zs.mk A14
     by_cases c15 : t264 = 0
     ·rw [if_pos c15] at H
      have c15b0 : (t264 == 0) = true := beq_iff_eq.mpr c15
      have c15b1 : (t264 != 0) = false := bne_eq_false_iff_eq.mpr c15
      clear c15
      have H' := Zs.mk H
      clear H
      go_wp2_with (first | ((with_reducible refine gc_ (f := 89) rfl ?_); refine gL 38 Tryz.func89 #[.int .i64 a0, .slice A1 l1.length c1] ?_; (with_reducible refine (cx_list.calls kj4 a0 _ _ l1 t259 t260 _ ?side1 ?side2 A12.out).mono ?_); (case side1 => repeat (first | exact (Kd.C_below HR1.out HB.out) | (with_reducible refine Kd.C_alloc ?_ _) | (with_reducible refine Kd.C_drewN ?_ _) | (with_reducible refine Kd.C_drew ?_))); (case side2 => exact HC1.out); rintro e w16 ⟨v261, rfl, ho0, hb⟩; refine ⟨_, rfl, ?_⟩; have HO262 := Zs.mk (Kd.R_lower ho0 (below_size (blt HB).out)); replace BK256 := bkb BK256 hb; replace HB := bls HB hb; (try clear hb); (try clear hb2); (try clear hk); (try clear hi); (try clear ho0)) | ((with_reducible refine gc_ (f := 89) rfl ?_); refine gL 48 Tryz.func89 #[.int .i64 a0, .slice A2 l2.length c2] ?_; (with_reducible refine (cx_list.calls kj4 a0 _ _ l2 t263 t264 _ ?side1 ?side2 A14.out).mono ?_); (case side1 => repeat (first | exact (Kd.C_below HR2.out HB.out) | (with_reducible refine Kd.C_alloc ?_ _) | (with_reducible refine Kd.C_drewN ?_ _) | (with_reducible refine Kd.C_drew ?_))); (case side2 => exact HC2.out); rintro e w17 ⟨v265, rfl, ho0, hb⟩; refine ⟨_, rfl, ?_⟩; have HO266 := Zs.mk (Kd.R_lower (Kd.R_new' ho0 (Kd.R_lt (by (with_reducible repeat (first | apply Kd.R_alloc | apply Kd.R_drewN | apply Kd.R_drew)); exact HO262.out))) (below_size (blt HB).out)); replace HO262 := Zs.mk (Kd.R_elder' (by (with_reducible repeat (first | apply Kd.R_alloc | apply Kd.R_drewN | apply Kd.R_drew)); exact HO262.out) (Kd.R_base ho0) hb); replace BK256 := bkb BK256 hb; replace HB := bls HB hb; (try clear hb); (try clear hb2); (try clear hk); (try clear hi); (try clear ho0); obtain ⟨Ao18, co18, eo18⟩ := Kd.R_slice HO262.out; subst eo18))
      go_loopg [57] kj4 (fun kq v57 w' => ∃ (x10_2 : List (S74)) (x57_2 : Int), v57 = .int .i64 x57_2 ∧ Zs (cx_DotOf.l0 kq t257 x10_2 t263 (t259.length : Int) x57_2 = some (r1, r2, r3, r4, r5)) ∧ Zs (kq ≤ kj4) ∧ Zs (Kd.R k74 74 w' w.heap.size (fun k_ => some k_ ≠ (v265 : Value).ownBlock) (.slice Ao18 t259.length co18) x10_2) ∧ Zs (Kd.R k74 74 w' w.heap.size (fun k_ => some k_ ≠ ((.slice Ao18 t259.length co18) : Value).ownBlock) v265 t263) ∧ Zs (w'.heap[gb256]? = some (.cells #[.int .i64 0, .int .u64 0, .int .u64 0, .string (⟨#[]⟩ : ByteArray)] 24 (0, 0))) ∧ Zs (Below w.heap.size w w'))
      case atStart => exact ⟨(t259), (0), (by first | rfl | (simp; done) | (simp [*]; done)), H', ⟨Nat.le_refl _⟩, ⟨by (with_reducible repeat (first | apply Kd.R_alloc | apply Kd.R_drewN | apply Kd.R_drew)); exact Kd.R_mono HO262.out (fun _ hk => hk.2)⟩, ⟨by (with_reducible repeat (first | apply Kd.R_alloc | apply Kd.R_drewN | apply Kd.R_drew)); exact Kd.R_mono HO266.out (fun _ hk => hk.2)⟩, bks BK256, blt HB⟩
      case round =>
       clear H'
       try clear c1
       try clear c2
       try clear p2
       try clear c3
       try clear c8
       try clear c8b0
       try clear c8b1
       try clear c9
       try clear c9b0
       try clear c9b1
       try clear c9b2
       try clear c10
       try clear c10b0
       try clear c10b1
       try clear c11
       try clear c11b0
       try clear c11b1
       try clear c13
       try clear c13b0
       try clear c13b1
       try clear c15
       try clear c15b0
       try clear c15b1
       try clear p2
       obtain ⟨x10_2, x57_2, rfl, HA, HK2, HO_10, HO_11, BK256, HB⟩ := hrel
       have hl10_2 := (Kd.R_reads' HO_10.out).1
       rw [hl10_2] at HO_10
       (try simp only [hl10_2])
       (try simp only [hl10_2] at BK256)
       (try simp only [hl10_2] at HO_11)
       cases gk with
       | zero => exact absurd HA.out (by simp [cx_DotOf.l0])
       | succ k2 =>
        have H := HA.out
        clear HA
        simp only [cx_DotOf.l0] at H
        by_cases c19 : x57_2 < (t259.length : Int)
        ·rw [if_pos c19] at H
         have c19b0 : decide (x57_2 < (t259.length : Int)) = true := decide_eq_true c19
         clear c19
         by_cases c20 : 0 ≤ x57_2
         ·rw [if_pos c20] at H
          have c20b0 : decide (0 ≤ x57_2) = true := decide_eq_true c20
          clear c20
          by_cases c21 : x57_2 < (x10_2.length : Int)
          ·rw [if_pos c21] at H
           have c21b0 : decide (x57_2 < (x10_2.length : Int)) = true := decide_eq_true c21
           clear c21
           replace H := Option.bind_eq_some_iff.mp H
           obtain ⟨⟨t268, t269⟩, A22, H⟩ := H
           try dsimp only at H
           replace A22 := Zs.mk A22
           by_cases c23 : x57_2 < (t263.length : Int)
           ·rw [if_pos c23] at H
            have c23b0 : decide (x57_2 < (t263.length : Int)) = true := decide_eq_true c23
            clear c23
            replace H := Option.bind_eq_some_iff.mp H
            obtain ⟨⟨t271, t272⟩, A24, H⟩ := H
            try dsimp only at H
            replace A24 := Zs.mk A24
            obtain ⟨y273, hy273⟩ : ∃ y_ : List (S74), y_ = (x10_2.set (x57_2 : Int).toNat (⟨t271, t272⟩ : S74)) := ⟨_, rfl⟩
            replace H : (cx_DotOf.l0 k2 t257 y273 t263 (t259.length : Int) (wrap64 (x57_2 + 1))) = some (r1, r2, r3, r4, r5) := by first | (rw [hy273]; with_reducible exact H) | (have H2_ := (Option.bind_some _ _).symm.trans H; rw [hy273]; with_reducible exact H2_) | (have H2_ := (Option.bind_some _ _).symm.trans H; with_reducible exact H2_) | with_reducible exact H | (rw [hy273]; exact H) | exact H
            have Ny273 := Zs.mk hy273
            clear hy273
            have H' := Zs.mk H
            clear H
            try go_wp2
            replace HO_10 := Zs.mk (Kd.R_drew HO_10.out)
            replace HO_11 := Zs.mk (Kd.R_drew HO_11.out)
            replace BK256 := Zs.mk (zd BK256.out)
            replace HB := Zs.mk (below_drew1 HB.out)
            have p267 : 0 ≤ (x57_2 : Int) := of_decide_eq_true (by first | (with_reducible assumption) | assumption)
            have q267 : x57_2 < (x10_2.length : Int) := of_decide_eq_true (by first | (with_reducible assumption) | assumption)
            obtain ⟨ad267, e267, hx267_0, hx267_1⟩ := at_T74 (Kd.R_reads' HO_10.out).2.2 x57_2 p267 q267
            cases e267
            replace p267 := eq_true p267
            replace q267 := eq_true q267
            obtain ⟨Ao27, co27, eo27⟩ := Kd.R_slice HO_11.out
            (first | subst eo27 | (injection eo27 with f1_ f2_ f3_; have f4_ := f1_.symm; have f5_ := f3_.symm; clear f1_ f2_ f3_; subst f4_; subst f5_))
            have p270 : 0 ≤ (x57_2 : Int) := of_decide_eq_true (by first | (with_reducible assumption) | assumption)
            have q270 : x57_2 < (t263.length : Int) := of_decide_eq_true (by first | (with_reducible assumption) | assumption)
            obtain ⟨ad270, e270, hx270_0, hx270_1⟩ := at_T74 (Kd.R_reads' HO_11.out).2.2 x57_2 p270 q270
            cases e270
            replace p270 := eq_true p270
            replace q270 := eq_true q270
            refine start_ (n := 16) (S := fun w' => w'.cell? (ad267.add ((x57_2).toNat * 2)) = some (.int .u64 ((rd_T74 x10_2 x57_2).f0)) ∧ w'.cell? ⟨(ad267.add ((x57_2).toNat * 2)).block, (ad267.add ((x57_2).toNat * 2)).off + 1, none⟩ = some (.int .u64 ((rd_T74 x10_2 x57_2).f1)) ∧ w'.cell? (ad270.add ((x57_2).toNat * 2)) = some (.int .u64 ((rd_T74 t263 x57_2).f0)) ∧ w'.cell? ⟨(ad270.add ((x57_2).toNat * 2)).block, (ad270.add ((x57_2).toNat * 2)).off + 1, none⟩ = some (.int .u64 ((rd_T74 t263 x57_2).f1))) (ds := [15]) #[false, false, false, false, false, false, false, false, false, false, false, false, false, false, false, false] (by kernel_rfl) rfl rfl ⟨hx267_0, hx267_1, hx270_0, hx270_1⟩ (fun hHeld => ?_); refine with_tabW cx_DotOf.tab18 cx_DotOf.bits18 (fun HT_ HW_ => ?_)
            generalize wr.drew = w26 at HO_10 HO_11 BK256 HB hx267_0 hx267_1 hx270_0 hx270_1 hHeld ⊢
            refine pu 0 60 HT_ ?_
            refine pu 1 61 HT_ ?_
            refine pu 2 62 HT_ ?_
            refine pu 3 63 HT_ ?_
            refine pu 4 64 HT_ ?_
            refine pu 5 65 HT_ ?_
            refine pu 6 66 HT_ ?_
            refine pu 9 69 HT_ ?_
            refine pu 10 70 HT_ ?_
            refine pu 11 71 HT_ ?_
            refine tk 7 67 HT_ HW_ hHeld ?_
            refine tk 12 72 HT_ HW_ hHeld ?_
            refine on 8 68 HT_ (fun K hK => ?_)
            refine goes_ Tryz.func78 (by kernel_rfl) rfl #[.int .i64 t257, .agg #[.int .u64 ((rd_T74 x10_2 x57_2).f0), .int .u64 ((rd_T74 x10_2 x57_2).f1)]] (by rfl) rfl rfl (by (try simp only [List.map_toArray, List.map_cons, List.map_nil]); first | done | rfl | (simp only [List.length_drop, List.length_take]; rfl)) ?_
            with_reducible refine (fd_conjugate.calls t257 ((rd_T74 x10_2 x57_2).f0) ((rd_T74 x10_2 x57_2).f1) t268 t269 _ A22.out).mono ?_
            rintro e w28 ⟨rfl, hb⟩
            have HS0_ := (hb.cell (World.block_lt_of_cell? _ _ (hHeld.1))).trans (hHeld.1)
            have HS1_ := (hb.cell (World.block_lt_of_cell? _ _ (hHeld.2.1))).trans (hHeld.2.1)
            have HS2_ := (hb.cell (World.block_lt_of_cell? _ _ (hHeld.2.2.1))).trans (hHeld.2.2.1)
            have HS3_ := (hb.cell (World.block_lt_of_cell? _ _ (hHeld.2.2.2))).trans (hHeld.2.2.2)
            refine ⟨_, rfl, ?_⟩
            replace HO_10 := Zs.mk (Kd.R_below (by (with_reducible repeat (first | apply Kd.R_alloc | apply Kd.R_drewN | apply Kd.R_drew)); exact HO_10.out) hb)
            replace HO_11 := Zs.mk (Kd.R_below (by (with_reducible repeat (first | apply Kd.R_alloc | apply Kd.R_drewN | apply Kd.R_drew)); exact HO_11.out) hb)
            replace BK256 := bkb BK256 hb
            replace HB := bls HB hb
            (try clear hb)
            (try clear hb2)
            (try clear hk)
            (try clear hi)
            refine hK.out _ _ ⟨HS0_, HS1_, HS2_, HS3_⟩ (fun hHeld => ?_)
            clear hK K
            refine nm 68 ?_
            refine on 13 73 HT_ (fun K hK => ?_)
            refine goes_ Tryz.func55 (by kernel_rfl) rfl #[.int .i64 t257, .agg #[.int .u64 t268, .int .u64 t269], .agg #[.int .u64 ((rd_T74 t263 x57_2).f0), .int .u64 ((rd_T74 t263 x57_2).f1)]] (by rfl) rfl rfl (by (try simp only [List.map_toArray, List.map_cons, List.map_nil]); first | done | rfl | (simp only [List.length_drop, List.length_take]; rfl)) ?_
            with_reducible refine (fd_times.calls t257 t268 t269 ((rd_T74 t263 x57_2).f0) ((rd_T74 t263 x57_2).f1) t271 t272 _ A24.out).mono ?_
            rintro e w29 ⟨rfl, hb⟩
            have HS0_ := (hb.cell (World.block_lt_of_cell? _ _ (hHeld.1))).trans (hHeld.1)
            have HS1_ := (hb.cell (World.block_lt_of_cell? _ _ (hHeld.2.1))).trans (hHeld.2.1)
            have HS2_ := (hb.cell (World.block_lt_of_cell? _ _ (hHeld.2.2.1))).trans (hHeld.2.2.1)
            have HS3_ := (hb.cell (World.block_lt_of_cell? _ _ (hHeld.2.2.2))).trans (hHeld.2.2.2)
            refine ⟨_, rfl, ?_⟩
            replace HO_10 := Zs.mk (Kd.R_below (by (with_reducible repeat (first | apply Kd.R_alloc | apply Kd.R_drewN | apply Kd.R_drew)); exact HO_10.out) hb)
            replace HO_11 := Zs.mk (Kd.R_below (by (with_reducible repeat (first | apply Kd.R_alloc | apply Kd.R_drewN | apply Kd.R_drew)); exact HO_11.out) hb)
            replace BK256 := bkb BK256 hb
            replace HB := bls HB hb
            (try clear hb)
            (try clear hb2)
            (try clear hk)
            (try clear hi)
            have p25 : 0 ≤ (x57_2 : Int) := of_decide_eq_true (by first | (with_reducible assumption) | assumption)
            have q25 : (x57_2 : Int) < ((x10_2.length : Int) : Int) := of_decide_eq_true (by first | (with_reducible assumption) | assumption)
            obtain ⟨go25, co25, eo25, gb25, gl25, cl25, HG25⟩ := Kd.R_form HO_10.out (by omega)
            (first | cases eo25 | (injection eo25 with ea_ en_ ec_; (first | subst ea_ | (injection ea_ with ea_; subst ea_)); subst ec_; clear en_))
            have GB25 := Zs.mk gb25
            have GG25 := Zs.mk HG25
            clear gb25 gl25 HG25
            (first | simp only [add_plain] at hx267_0 | skip)
            (first | simp only [add_plain] at hx267_1 | skip)
            obtain ⟨ce25, hcl25, hM25, hcc25, hfr25⟩ := Kd.R_elem HO_10.out z74 (x57_2 : Int) p25 q25
            obtain rfl := k74_openM hM25
            have hx25_0 : World.cell? _ ⟨go25, (x57_2 : Int).toNat * 2, none⟩ = some (.int .u64 ((rd_T74 x10_2 x57_2).f0)) := hcc25 0 _ rfl
            have hx25_1 : World.cell? _ ⟨go25, (x57_2 : Int).toNat * 2 + 1, none⟩ = some (.int .u64 ((rd_T74 x10_2 x57_2).f1)) := hcc25 1 _ rfl
            have hf25_0 : World.frozen? _ ⟨go25, (x57_2 : Int).toNat * 2, none⟩ = false := hfr25 0
            have hf25_1 : World.frozen? _ ⟨go25, (x57_2 : Int).toNat * 2 + 1, none⟩ = false := hfr25 1
            clear hcl25 hcc25 hfr25 hM25
            replace p25 := eq_true p25
            replace q25 := eq_true q25
            obtain ⟨ce30, hcl30, hM30, hcc30, hfr30⟩ := Kd.R_elem HO_10.out z74 (x57_2 : Int) (of_decide_eq_true (by first | (with_reducible assumption) | assumption)) (by have h_ : (x57_2 : Int) < ((x10_2.length : Int) : Int) := of_decide_eq_true (by first | (with_reducible assumption) | assumption); first | exact h_ | (have e_ := (Kd.R_reads' HO_10.out).1; omega) | simpa using h_)
            obtain rfl := k74_openM hM30
            have HP30 := (Kd.R_seg HO_10.out (x57_2 : Int) (of_decide_eq_true (by first | (with_reducible assumption) | assumption)) (by have h_ : (x57_2 : Int) < ((x10_2.length : Int) : Int) := of_decide_eq_true (by first | (with_reducible assumption) | assumption); first | exact h_ | (have e_ := (Kd.R_reads' HO_10.out).1; omega) | simpa using h_) (seg := [.int .u64 t271, .int .u64 t272]) (j := 0) hcl30 hcc30 (show 2 ≤ 2 from by decide) (x' := (⟨t271, t272⟩ : S74)) (k74_mkM _ _ _ (⟨t271, t272⟩ : S74) ) (fun _ hk => hk)).1
            rw [← Ny273.out] at HP30
            have HQ30 := Zs.mk HP30
            clear hcl30 hcc30 hfr30 hM30 HP30
            refine hK.out _ _ ⟨HS0_, HS1_, HS2_, HS3_⟩ (fun hHeld => ?_)
            clear hK K
            refine nm 73 ?_
            refine pu 14 74 HT_ ?_
            refine last_ (i := 15) (N := none) #[true, true, true, true, true, true, true, true, true, true, true, true, true, true, true, true] rfl rfl (one_of HT_.out (by kernel_rfl)) (by decide) (fun K hK => ?_)
            refine skip_ (w1 := ?_) (by rfl) rfl ?_ ?_
            rotate_left
            ·go_simp
             rfl
            refine hK.out _ _ ?_
            clear hK K
            refine done_ (done_of HT_.out (by kernel_rfl)) ?_
            try go_wp2
            (try simp only [← hl10_2])
            go_roundg k2
            case measure => have := HJ4.out; have := HK2.out; omega
            case rel => exact ⟨(y273), (wrap64 (x57_2 + 1)), (by first | rfl | (simp; done) | (simp [*]; done)), H', ⟨by have := HJ4.out; have := HK2.out; omega⟩, ⟨by (try simp only [hl10_2]); (with_reducible repeat (first | apply Kd.R_alloc | apply Kd.R_drewN | apply Kd.R_drew)); exact HQ30.out⟩, ⟨by (try simp only [hl10_2]); (with_reducible repeat (first | apply Kd.R_alloc | apply Kd.R_drewN | apply Kd.R_drew)); exact Kd.R_mono (Kd.R_far (p := ⟨go25, (x57_2 : Int).toNat * 2 + 1, none⟩) (Kd.R_far (p := ⟨go25, (x57_2 : Int).toNat * 2, none⟩) (Kd.R_mono HO_11.out (fun k_ hk => (⟨hk, fun e_ => hk (by rw [e_]; rfl)⟩ : _ ∧ k_ ≠ go25))) (fun _ hk => hk.2) (.int .u64 t271)) (fun _ hk => hk.2) (.int .u64 t272)) (fun _ hk => hk.1)⟩, ⟨by (try simp only [hl10_2]); (with_reducible repeat (first | refine zn ?_ _ | refine zd ?_ | refine za ?_ _)); refine blk_far ?_ (by have h_ := Kd.R_ne HO_10.out BK256.out (by decide); intro e_; exact h_ (by rw [e_]; rfl)) _; (with_reducible repeat (first | refine zn ?_ _ | refine zd ?_ | refine za ?_ _)); refine blk_far ?_ (by have h_ := Kd.R_ne HO_10.out BK256.out (by decide); intro e_; exact h_ (by rw [e_]; rfl)) _; (with_reducible repeat (first | refine zn ?_ _ | refine zd ?_ | refine za ?_ _)); exact BK256.out⟩, ⟨by repeat (first | (with_reducible first | exact HB.out | apply below_alloc | apply pw_below_drewN | apply below_drew1 | refine below_set ?_ GB25.out | refine below_set ?_ GB25.out | refine below_set ?_ GE256.out) | exact HB.out)⟩⟩
           ·rw [if_neg c23] at H
            exact absurd H (by simp)
          ·rw [if_neg c21] at H
           exact absurd H (by simp)
         ·rw [if_neg c20] at H
          exact absurd H (by simp)
        ·rw [if_neg c19] at H
         have c19b0 : decide (x57_2 < (t259.length : Int)) = false := decide_eq_false c19
         (try simp only [hl10_2] at c19b0)
         clear c19
         replace H := Option.bind_eq_some_iff.mp H
         obtain ⟨⟨t274, t275⟩, A31, H⟩ := H
         try dsimp only at H
         replace A31 := Zs.mk A31
         replace H := Option.bind_eq_some_iff.mp H
         obtain ⟨⟨t276, t277, t278, t279⟩, A32, H⟩ := H
         try dsimp only at H
         replace A32 := Zs.mk A32
         simp only [Option.some.injEq, Prod.mk.injEq] at H
         obtain ⟨rfl, rfl, rfl, rfl, rfl⟩ := H
         go_wp2_with (first | ((with_reducible refine gc_ (f := 90) rfl ?_); refine gL 79 Tryz.func90 #[.int .i64 t257, .slice Ao18 x10_2.length co18] ?_; (with_reducible refine (fd_sum.calls t257 _ _ x10_2 t274 t275 _ ?side1 ?side2 A31.out).mono ?_); (case side1 => repeat (first | exact (Kd.R_reads' HO_10.out).2.2 | (with_reducible refine Kd.C_alloc ?_ _) | (with_reducible refine Kd.C_drewN ?_ _) | (with_reducible refine Kd.C_drew ?_))); (case side2 => exact (Kd.R_reads' HO_10.out).2.1); rintro e w33 ⟨rfl, hb⟩; refine ⟨_, rfl, ?_⟩; replace HO_10 := Zs.mk (Kd.R_below (by (with_reducible repeat (first | apply Kd.R_alloc | apply Kd.R_drewN | apply Kd.R_drew)); exact HO_10.out) hb); replace HO_11 := Zs.mk (Kd.R_below (by (with_reducible repeat (first | apply Kd.R_alloc | apply Kd.R_drewN | apply Kd.R_drew)); exact HO_11.out) hb); replace BK256 := bkb BK256 hb; replace HB := bls HB hb; clear hb) | ((with_reducible refine gc_ (f := 57) rfl ?_); refine gLc 80 Tryz.func57 (fd_value.calls t257 t274 t275 t276 t277 t278 t279 _ A32.out) (fun w34 hb => ?_); replace HO_10 := Zs.mk (Kd.R_below (by (with_reducible repeat (first | apply Kd.R_alloc | apply Kd.R_drewN | apply Kd.R_drew)); exact HO_10.out) hb); replace HO_11 := Zs.mk (Kd.R_below (by (with_reducible repeat (first | apply Kd.R_alloc | apply Kd.R_drewN | apply Kd.R_drew)); exact HO_11.out) hb); replace BK256 := bkb BK256 hb; replace HB := bls HB hb; clear hb; obtain ⟨hcz35_0, hcz35_1, hcz35_2, hcz35_3, hfz35_0, hfz35_1, hfz35_2, hfz35_3⟩ := cf4 BK256))
         refine bodyPost_ret (results_ct rfl _ _ gb256 24 #[.int .i64 t276, .int .u64 t277, .int .u64 t278, .string t279] (0, 0) _ rfl (by (with_reducible repeat (first | refine zn ?_ _ | refine zd ?_ | refine za ?_ _)); apply bp4; (with_reducible repeat (first | refine zn ?_ _ | refine zd ?_ | refine za ?_ _)); exact BK256.out) Tryz.underlying24 rfl (by kernel_rfl)) rfl ?_
         exact fin_ (blt HB)
     ·rw [if_neg c15] at H
      have c15b0 : (t264 == 0) = false := beq_eq_false_iff_ne.mpr c15
      have c15b1 : (t264 != 0) = true := bne_iff_ne.mpr c15
      simp only [Option.some.injEq, Prod.mk.injEq] at H
      obtain ⟨rfl, rfl, rfl, rfl, rfl⟩ := H
      go_wp2_with (first | ((with_reducible refine gc_ (f := 89) rfl ?_); refine gL 38 Tryz.func89 #[.int .i64 a0, .slice A1 l1.length c1] ?_; (with_reducible refine (cx_list.calls kj4 a0 _ _ l1 t259 t260 _ ?side1 ?side2 A12.out).mono ?_); (case side1 => repeat (first | exact (Kd.C_below HR1.out HB.out) | (with_reducible refine Kd.C_alloc ?_ _) | (with_reducible refine Kd.C_drewN ?_ _) | (with_reducible refine Kd.C_drew ?_))); (case side2 => exact HC1.out); rintro e w36 ⟨v261, rfl, ho0, hb⟩; refine ⟨_, rfl, ?_⟩; have HO262 := Zs.mk (Kd.R_lower ho0 (below_size (blt HB).out)); replace BK256 := bkb BK256 hb; replace HB := bls HB hb; (try clear hb); (try clear hb2); (try clear hk); (try clear hi); (try clear ho0)) | ((with_reducible refine gc_ (f := 89) rfl ?_); refine gL 48 Tryz.func89 #[.int .i64 a0, .slice A2 l2.length c2] ?_; (with_reducible refine (cx_list.calls kj4 a0 _ _ l2 t263 t264 _ ?side1 ?side2 A14.out).mono ?_); (case side1 => repeat (first | exact (Kd.C_below HR2.out HB.out) | (with_reducible refine Kd.C_alloc ?_ _) | (with_reducible refine Kd.C_drewN ?_ _) | (with_reducible refine Kd.C_drew ?_))); (case side2 => exact HC2.out); rintro e w37 ⟨v265, rfl, ho0, hb⟩; refine ⟨_, rfl, ?_⟩; have HO266 := Zs.mk (Kd.R_lower (Kd.R_new' ho0 (Kd.R_lt (by (with_reducible repeat (first | apply Kd.R_alloc | apply Kd.R_drewN | apply Kd.R_drew)); exact HO262.out))) (below_size (blt HB).out)); replace HO262 := Zs.mk (Kd.R_elder' (by (with_reducible repeat (first | apply Kd.R_alloc | apply Kd.R_drewN | apply Kd.R_drew)); exact HO262.out) (Kd.R_base ho0) hb); replace BK256 := bkb BK256 hb; replace HB := bls HB hb; (try clear hb); (try clear hb2); (try clear hk); (try clear hi); (try clear ho0); obtain ⟨hcz38_0, hcz38_1, hcz38_2, hcz38_3, hfz38_0, hfz38_1, hfz38_2, hfz38_3⟩ := cf4 BK256))
      refine bodyPost_ret (results_ct rfl _ _ gb256 24 #[.int .i64 0, .int .u64 0, .int .u64 0, .string (⟨#[]⟩ : ByteArray)] (0, 0) _ rfl (by (with_reducible repeat (first | refine zn ?_ _ | refine zd ?_ | refine za ?_ _)); apply bp4; (with_reducible repeat (first | refine zn ?_ _ | refine zd ?_ | refine za ?_ _)); exact BK256.out) Tryz.underlying24 rfl (by kernel_rfl)) rfl ?_
      exact fin_ (blt HB)
    ·rw [if_neg c13] at H
     have c13b0 : (t260 == 0) = false := beq_eq_false_iff_ne.mpr c13
     have c13b1 : (t260 != 0) = true := bne_iff_ne.mpr c13
     simp only [Option.some.injEq, Prod.mk.injEq] at H
     obtain ⟨rfl, rfl, rfl, rfl, rfl⟩ := H
     go_wp2_with (first | ((with_reducible refine gc_ (f := 89) rfl ?_); refine gL 38 Tryz.func89 #[.int .i64 a0, .slice A1 l1.length c1] ?_; (with_reducible refine (cx_list.calls kj4 a0 _ _ l1 t259 t260 _ ?side1 ?side2 A12.out).mono ?_); (case side1 => repeat (first | exact (Kd.C_below HR1.out HB.out) | (with_reducible refine Kd.C_alloc ?_ _) | (with_reducible refine Kd.C_drewN ?_ _) | (with_reducible refine Kd.C_drew ?_))); (case side2 => exact HC1.out); rintro e w39 ⟨v261, rfl, ho0, hb⟩; refine ⟨_, rfl, ?_⟩; have HO262 := Zs.mk (Kd.R_lower ho0 (below_size (blt HB).out)); replace BK256 := bkb BK256 hb; replace HB := bls HB hb; (try clear hb); (try clear hb2); (try clear hk); (try clear hi); (try clear ho0); obtain ⟨hcz40_0, hcz40_1, hcz40_2, hcz40_3, hfz40_0, hfz40_1, hfz40_2, hfz40_3⟩ := cf4 BK256))
     refine bodyPost_ret (results_ct rfl _ _ gb256 24 #[.int .i64 0, .int .u64 0, .int .u64 0, .string (⟨#[]⟩ : ByteArray)] (0, 0) _ rfl (by (with_reducible repeat (first | refine zn ?_ _ | refine zd ?_ | refine za ?_ _)); apply bp4; (with_reducible repeat (first | refine zn ?_ _ | refine zd ?_ | refine za ?_ _)); exact BK256.out) Tryz.underlying24 rfl (by kernel_rfl)) rfl ?_
     exact fin_ (blt HB)
   ·rw [if_neg c11] at H
    have c11b0 : (x9_4 == 0) = false := beq_eq_false_iff_ne.mpr c11
    have c11b1 : (x9_4 != 0) = true := bne_iff_ne.mpr c11
    simp only [Option.some.injEq, Prod.mk.injEq] at H
    obtain ⟨rfl, rfl, rfl, rfl, rfl⟩ := H
    obtain ⟨hcz41_0, hcz41_1, hcz41_2, hcz41_3, hfz41_0, hfz41_1, hfz41_2, hfz41_3⟩ := cf4 BK256
    go_wp2
    refine bodyPost_ret (results_ct rfl _ _ gb256 24 #[.int .i64 0, .int .u64 0, .int .u64 0, .string (⟨#[]⟩ : ByteArray)] (0, 0) _ rfl (by (with_reducible repeat (first | refine zn ?_ _ | refine zd ?_ | refine za ?_ _)); apply bp4; (with_reducible repeat (first | refine zn ?_ _ | refine zd ?_ | refine za ?_ _)); exact BK256.out) Tryz.underlying24 rfl (by kernel_rfl)) rfl ?_
    exact fin_ (blt HB)
end Go.Proofs.YtmoimcblmmcffaaGreat.PPC

namespace Go.Proofs.YtmoimcblmmcffaaGreat.B
open Go.RowKit NC N PPC Go.Proofs.YtmoimcblmmcffaaGreatW.PrintWords
set_option linter.unusedSimpArgs false
set_option linter.unusedVariables false
def Blks (V : World) (L : List (Nat × Array Value)) : Prop := ∀ p ∈ L, (∀ i, V.cell? ⟨p.1, i, none⟩ = p.2[i]?) ∧ p.1 < V.heap.size
theorem Blks.call {V V' : World} {L : List (Nat × Array Value)} (h : Blks V L) (hb : Below V.heap.size V V') : Blks V' L := fun p hp =>
 ⟨fun i => ((bcell hb).1 _ i (h p hp).2).trans ((h p hp).1 i), Nat.lt_of_lt_of_le (h p hp).2 hb.size⟩
theorem blk_new' (W : World) (cs : Array Value) (t : TypeId) : Blks (W.alloc (.cells cs t (0, 0))) [(W.heap.size, cs)] := fun p hp => by
 obtain rfl := List.mem_singleton.1 hp
 exact ⟨fun i => cell_of_row _ _ i cs t (0, 0) (heap_alloc_new W _), by simp⟩
theorem hideB {P : Program} {c : Code} {Q : Exit → Act → World → Prop} {a : Act} {w W w1 : World} {cs : Array Value} {t : TypeId} {L : List (Nat × Array Value)} (hL : Blks W L) (hW : Below w.heap.size w W) (hb : Below W.heap.size W w1)
  (h : ∀ V g, w1.heap.size = g → Blks V ((g, cs) :: L) → Below w.heap.size w V → c.wp P Q a V) : c.wp P Q a (w1.alloc (.cells cs t (0, 0))) := by
 have hb2 : Below W.heap.size W (w1.alloc (.cells cs t (0, 0))) := below_alloc0 hb _
 refine h _ _ rfl (fun p hp => ?_) (hW.trans (hb2.mono hW.size))
 rcases List.mem_cons.1 hp with rfl | hp
 ·exact ⟨fun i => cell_of_row _ _ i cs t (0, 0) (heap_alloc_new w1 _), by simp⟩
 ·exact (hL.call hb2) p hp
set_option maxRecDepth 100000 in
set_option maxHeartbeats 1000000 in
theorem whole_c (re im x y : Int) (w : World) (h : r8_FromInteger.f 1 re = some x) (h' : r8_FromInteger.f 1 im = some y) :
  Calls Tryz.prog 51 #[.int .i64 re, .int .i64 im] w (Ret (.agg #[.int .i64 3, .int .u64 x, .int .u64 y, .string { data := #[] }]) w) := by
 have c1 : ∀ w, Calls Tryz.prog 23 #[.int .i64 1, .int .i64 re] w (Ret (.int .u64 x) w) := fun w => r8_FromInteger.calls 1 re x w h
 have c2 : ∀ w, Calls Tryz.prog 23 #[.int .i64 1, .int .i64 im] w (Ret (.int .u64 y) w) := fun w => r8_FromInteger.calls 1 im y w h'
 clear h h'
 go_enter Tryz.func51, Tryz.ntmps51
 go_upto_region 1 with (fail)
 refine hide0own (fun W n hn ho hlt hB => ?_)
 rw [hn]
 have HO : ExO n w W n 4 W := ⟨ExtN.refl (Nat.le_of_lt hlt) hB, ho⟩
 go_wp2_with (go_at_call 23; (first | ((with_reducible refine (c1 _).mono ?_); rintro e w1 ⟨rfl, hb1⟩; have HO := HO.call hb1) | ((with_reducible refine (c2 _).mono ?_); rintro e w1 ⟨rfl, hb1⟩; have HO := HO.call hb1)))
 have hr := Own.read4 (n := 0) ((((HO.2.set ⟨n, 0, none⟩ (.int .i64 3)).set ⟨n, 1, none⟩ (.int .u64 x)).set ⟨n, 2, none⟩ (.int .u64 y)).set ⟨n, 3, none⟩ (.string { data := #[] }))
 exact bodyPost_ret (v := .agg #[.int .i64 3, .int .u64 x, .int .u64 y, .string { data := #[] }]) (by simp [results, Tryz.results51, go_sem, hr.1, hr.2.1, hr.2.2.1, hr.2.2.2]) rfl ⟨rfl, by have hz := below_row HO.1.2.2 (.int .i64 3) (.int .u64 x) (.int .u64 y) (.string { data := #[] }) (g := n) (Nat.le_of_eq hn); exact hz⟩
theorem wh_12 (w : World) : Calls Tryz.prog 51 #[.int .i64 1, .int .i64 2] w (Ret (.agg #[.int .i64 3, .int .u64 1065353216, .int .u64 1073741824, .string { data := #[] }]) w) := whole_c 1 2 1065353216 1073741824 w (by decide +kernel) (by decide +kernel)
theorem wh_34 (w : World) : Calls Tryz.prog 51 #[.int .i64 3, .int .i64 4] w (Ret (.agg #[.int .i64 3, .int .u64 1077936128, .int .u64 1082130432, .string { data := #[] }]) w) := whole_c 3 4 1077936128 1082130432 w (by decide +kernel) (by decide +kernel)
theorem wh_m34 (w : World) : Calls Tryz.prog 51 #[.int .i64 (-3), .int .i64 4] w (Ret (.agg #[.int .i64 3, .int .u64 3225419776, .int .u64 1082130432, .string { data := #[] }]) w) := whole_c (-3) 4 3225419776 1082130432 w (by decide +kernel) (by decide +kernel)
theorem wh_11 (w : World) : Calls Tryz.prog 51 #[.int .i64 1, .int .i64 1] w (Ret (.agg #[.int .i64 3, .int .u64 1065353216, .int .u64 1065353216, .string { data := #[] }]) w) := whole_c 1 1 1065353216 1065353216 w (by decide +kernel) (by decide +kernel)
theorem wh_m510 (w : World) : Calls Tryz.prog 51 #[.int .i64 (-5), .int .i64 10] w (Ret (.agg #[.int .i64 3, .int .u64 3231711232, .int .u64 1092616192, .string { data := #[] }]) w) := whole_c (-5) 10 3231711232 1092616192 w (by decide +kernel) (by decide +kernel)
theorem both_k (w : World) : Calls Tryz.prog 52 #[.agg #[.int .i64 3, .int .u64 1065353216, .int .u64 1073741824, .string { data := #[] }], .agg #[.int .i64 3, .int .u64 1077936128, .int .u64 1082130432, .string { data := #[] }]] w (Ret (.tuple #[.int .i64 1, .agg #[.int .u64 1065353216, .int .u64 1073741824], .agg #[.int .u64 1077936128, .int .u64 1082130432], .int .i64 0]) w) := by
 have h := both_c 3 1065353216 1073741824 { data := #[] } 3 1077936128 1082130432 { data := #[] } w (by decide) (by decide) (by decide) (by decide)
 rw [show bothV 3 1065353216 1073741824 { data := #[] } 3 1077936128 1082130432 { data := #[] } = (1, 1065353216, 1073741824, 1077936128, 1082130432, 0) by decide +kernel] at h
 exact h
theorem apply_k (w : World) : Calls Tryz.prog 12 #[.int .i64 2, .agg #[.int .i64 3, .int .u64 1065353216, .int .u64 1073741824, .string { data := #[] }], .agg #[.int .i64 3, .int .u64 1077936128, .int .u64 1082130432, .string { data := #[] }]] w (Ret (.tuple #[.agg #[.int .i64 3, .int .u64 3231711232, .int .u64 1092616192, .string { data := #[] }], .int .i64 0]) w) :=
 apply_2 3 1065353216 1073741824 { data := #[] } 3 1077936128 1082130432 { data := #[] } 1 1065353216 1073741824 1077936128 1082130432 3231711232 1092616192 3 3231711232 1092616192 { data := #[] } w both_k (fun w => fd_times.calls 1 1065353216 1073741824 1077936128 1082130432 3231711232 1092616192 w (by decide +kernel)) (fun w => fd_value.calls 1 3231711232 1092616192 3 3231711232 1092616192 { data := #[] } w (by decide +kernel))
theorem size_k (w : World) : Calls Tryz.prog 26 #[.agg #[.int .i64 3, .int .u64 1077936128, .int .u64 1082130432, .string { data := #[] }]] w (Ret (.tuple #[.agg #[.int .i64 1, .int .u64 1084227584, .int .u64 0, .string { data := #[] }], .int .i64 0]) w) :=
 cx_SizeOf.calls 9 3 1077936128 1082130432 { data := #[] } 1 1084227584 0 { data := #[] } 0 w (by decide +kernel)
theorem sqrt_k (w : World) : Calls Tryz.prog 28 #[.agg #[.int .i64 3, .int .u64 3225419776, .int .u64 1082130432, .string { data := #[] }]] w (Ret (.tuple #[.agg #[.int .i64 3, .int .u64 1065353216, .int .u64 1073741824, .string { data := #[] }], .int .i64 0]) w) :=
 SqrtOf_w 3 3225419776 1082130432 { data := #[] } 3 1065353216 1073741824 { data := #[] } 0 w (fun w => of_SqrtOf_ok 3 3225419776 1082130432 { data := #[] } 1 3225419776 1082130432 1065353216 1073741824 3 1065353216 1073741824 { data := #[] } w
  (fun w => cx_open.calls 3 3225419776 1082130432 { data := #[] } 1 3225419776 1082130432 0 w (by decide +kernel)) (fun w => fd_squareRoot.calls 9 1 3225419776 1082130432 1065353216 1073741824 w (by decide +kernel)) (fun w => fd_value.calls 1 1065353216 1073741824 3 1065353216 1073741824 { data := #[] } w (by decide +kernel)))
theorem power_k (w : World) : Calls Tryz.prog 22 #[.agg #[.int .i64 3, .int .u64 1065353216, .int .u64 1065353216, .string { data := #[] }], .int .i64 4] w (Ret (.tuple #[.agg #[.int .i64 3, .int .u64 3229614080, .int .u64 0, .string { data := #[] }], .int .i64 0]) w) :=
 cx_PowerOf.calls 40 3 1065353216 1065353216 { data := #[] } 4 3 3229614080 0 { data := #[] } 0 w (by decide +kernel)
theorem kd_one {w : World} {g : Nat} {x y : Int} {s : ByteArray} (h : ∀ i, w.cell? ⟨g, i, none⟩ = (#[.int .i64 3, .int .u64 x, .int .u64 y, .string s] : Array Value)[i]?) : Kd.C k24 w (some ⟨g, 0, none⟩) ([(⟨3, x, y, s⟩ : S24)] : List S24).length [(⟨3, x, y, s⟩ : S24)] := by
 refine ⟨rfl, by simp, fun _ => ⟨_, rfl, fun j p hj => ?_⟩⟩
 rcases j with _ | j
 ·obtain rfl : (⟨3, x, y, s⟩ : S24) = p := by simpa using hj
  refine ⟨[.int .i64 3, .int .u64 x, .int .u64 y, .string s], rfl, k24_mk w _, fun i u hu => ?_⟩
  have e : (⟨g, 0, none⟩ : Addr).add (0 * k24.sz + i) = ⟨g, i, none⟩ := by cases i <;> simp [Addr.add]
  rw [e, h i, ← hu]
  simp
 ·simp at hj
theorem dot_k (g1 g2 : Nat) (w : World) (h1 : ∀ i, w.cell? ⟨g1, i, none⟩ = (#[.int .i64 3, .int .u64 1065353216, .int .u64 1065353216, .string { data := #[] }] : Array Value)[i]?) (h2 : ∀ i, w.cell? ⟨g2, i, none⟩ = (#[.int .i64 3, .int .u64 1065353216, .int .u64 1065353216, .string { data := #[] }] : Array Value)[i]?) :
  Calls Tryz.prog 38 #[.int .i64 3, .slice (some ⟨g1, 0, none⟩) 1 1, .slice (some ⟨g2, 0, none⟩) 1 1] w (Ret (.tuple #[.agg #[.int .i64 3, .int .u64 1073741824, .int .u64 0, .string { data := #[] }], .int .i64 0]) w) :=
 cx_DotOf.calls 9 3 (some ⟨g1, 0, none⟩) 1 [⟨3, 1065353216, 1065353216, { data := #[] }⟩] (some ⟨g2, 0, none⟩) 1 [⟨3, 1065353216, 1065353216, { data := #[] }⟩] 3 1073741824 0 { data := #[] } 0 w (kd_one h1) (by decide) (kd_one h2) (by decide) (by decide +kernel)
set_option maxRecDepth 100000 in
set_option maxHeartbeats 8000000 in
theorem awake_c (w : World) : Calls Tryz.prog 10 #[] w (Ret (.bool true) w) := by
 obtain ⟨z, c4⟩ : ∃ z : Int, ∀ w, Calls Tryz.prog 22 #[.agg #[.int .i64 3, .int .u64 1065353216, .int .u64 1065353216, .string { data := #[] }], .int .i64 4] w (Ret (.tuple #[.agg #[.int .i64 3, .int .u64 3229614080, .int .u64 0, .string { data := #[] }], .int .i64 0]) w) := ⟨0, fun w => power_k w⟩
 have L0 : Blks w [] := fun p hp => by cases hp
 have HE := Below.refl w.heap.size w
 go_enter Tryz.func10, Tryz.ntmps10
 go_upto_region 2 with (first | (go_at_call 51; (with_reducible refine (wh_12 _).mono ?_); rintro e wh ⟨rfl, hbh⟩; have HE := below_call HE hbh) | (go_at_call 51; (with_reducible refine (wh_34 _).mono ?_); rintro e wh ⟨rfl, hbh⟩; have HE := below_call HE hbh) | (go_at_call 12; (with_reducible refine (apply_k _).mono ?_); rintro e wa ⟨rfl, hba⟩; have HE := below_call HE hba))
 refine hideB L0 (Below.refl _ _) HE (fun V1 g1 hg1 L1 B1 => ?_)
 rw [hg1]
 clear hbh hba HE hg1
 have HE := Below.refl V1.heap.size V1
 go_upto_region 3 with (first | (go_at_call 51; (with_reducible refine (wh_34 _).mono ?_); rintro e wh ⟨rfl, hbh⟩; have HE := below_call HE hbh) | (go_at_call 26; (with_reducible refine (size_k _).mono ?_); rintro e wa ⟨rfl, hba⟩; have HE := below_call HE hba))
 refine hideB L1 B1 HE (fun V2 g2 hg2 L2 B2 => ?_)
 rw [hg2]
 clear hbh hba HE hg2
 have HE := Below.refl V2.heap.size V2
 go_upto_region 4 with (first | (go_at_call 51; (with_reducible refine (wh_m34 _).mono ?_); rintro e wh ⟨rfl, hbh⟩; have HE := below_call HE hbh) | (go_at_call 28; (with_reducible refine (sqrt_k _).mono ?_); rintro e wa ⟨rfl, hba⟩; have HE := below_call HE hba))
 refine hideB L2 B2 HE (fun V3 g3 hg3 L3 B3 => ?_)
 rw [hg3]
 clear hbh hba HE hg3
 have HE := Below.refl V3.heap.size V3
 go_upto_region 5 with (first | (go_at_call 51; (with_reducible refine (wh_11 _).mono ?_); rintro e wh ⟨rfl, hbh⟩; have HE := below_call HE hbh) | (go_at_call 22; (with_reducible refine (c4 _).mono ?_); rintro e wa ⟨rfl, hba⟩; have HE := below_call HE hba))
 refine hideB L3 B3 HE (fun V4 g4 hg4 L4 B4 => ?_)
 rw [hg4]
 clear hbh hba HE hg4
 have HE := Below.refl V4.heap.size V4
 go_upto_region 6 with (first | (go_at_call 51; (with_reducible refine (wh_11 _).mono ?_); rintro e wh ⟨rfl, hbh⟩; first | have HE := below_call HE hbh | (have HS := (blk_new' _ _ _).call hbh; have HE := below_call (below_alloc0 HE _) hbh)) | (go_at_call 38; refine (dot_k _ _ _ ((HS.call (below_alloc0 (Below.refl _ _) _)) _ List.mem_cons_self).1 ((blk_new' _ _ _) _ List.mem_cons_self).1).mono ?_; rintro e wa ⟨rfl, hba⟩; have HE := below_call (below_alloc0 HE _) hba))
 refine hideB L4 B4 HE (fun V5 g5 hg5 L5 B5 => ?_)
 rw [hg5]
 clear hbh hba HE hg5 L4 L3 L2 L1 L0
 have a1 := L5 _ (.tail _ (.tail _ (.tail _ (.tail _ (.head _)))))
 have a2 := L5 _ (.tail _ (.tail _ (.tail _ (.head _))))
 have a3 := L5 _ (.tail _ (.tail _ (.head _)))
 have a4 := L5 _ (.tail _ (.head _))
 have a5 := L5 _ (.head _)
 obtain ⟨k1, s1⟩ := a1
 obtain ⟨k2, s2⟩ := a2
 obtain ⟨k3, s3⟩ := a3
 obtain ⟨k4, s4⟩ := a4
 obtain ⟨k5, s5⟩ := a5
 dsimp only at k1 k2 k3 k4 k5 s1 s2 s3 s4 s5
 clear L5
 have HV : Ext w V5 V5 := Ext.refl B5
 first | (go_region_held3 (fun w' => Ext w V5 w') (first | assumption | (with_reducible exact Ext.call (by assumption) hb9) | ((with_reducible refine Ext.drew ?_); assumption)) (first | (go_at_call 51; (with_reducible refine (wh_m510 _).mono ?_); rintro e w9 ⟨rfl, hb9⟩) | (go_at_call 51; (with_reducible refine (wh_12 _).mono ?_); rintro e w9 ⟨rfl, hb9⟩))) | fail
 go_wp2
 go_ret
 exact ⟨rfl, Ext.end (by assumption)⟩
end Go.Proofs.YtmoimcblmmcffaaGreat.B

namespace Go.Proofs.YtmoimcblmmcffaaGreat
open Go.RowKit
def l10_awake.f : Option Bool := some true
theorem l10_awake.calls (r : Bool) (w : World) (h : l10_awake.f = some r) : Calls Tryz.prog 10 #[] w fun e w' => e = .returned (.bool r) ∧ Below w.heap.size w w' := by
 obtain rfl := Option.some.inj h
 exact B.awake_c w
end Go.Proofs.YtmoimcblmmcffaaGreat

namespace Go.Proofs.YtmoimcblmmcffaaGreat
open Go.RowKit B N NC PPC
set_option linter.unusedSimpArgs false
set_option linter.unusedVariables false
def cx_Negated.f (a0 a1 a2 : Int) (a3 : ByteArray) : Option (Int × Int × Int × ByteArray × Int) := (cx_open.f a0 a1 a2 a3).bind fun z => if z.2.2.2 = 0 then ((cx_Negated_1.f z.1 z.2.1 z.2.2.1).bind fun q => (fd_value.f z.1 q.1 q.2).bind fun y => some (y.1, y.2.1, y.2.2.1, y.2.2.2, 0)) else some (0, 0, 0, (⟨#[]⟩ : ByteArray), z.2.2.2)
theorem cx_Negated.calls (a0 a1 a2 : Int) (a3 : ByteArray) (r1 r2 r3 : Int) (r4 : ByteArray) (r5 : Int) (w : World) (h : cx_Negated.f a0 a1 a2 a3 = some (r1, r2, r3, r4, r5)) :
  Calls Tryz.prog 27 #[.agg #[.int .i64 a0, .int .u64 a1, .int .u64 a2, .string a3]] w fun e w' => e = .returned (.tuple #[.agg #[.int .i64 r1, .int .u64 r2, .int .u64 r3, .string r4], .int .i64 r5]) ∧ Below w.heap.size w w' := by
 obtain ⟨z, hz, h⟩ := Option.bind_eq_some_iff.mp h
 obtain ⟨p, x0, x1, er⟩ := z
 have cb := fun w => cx_open.calls _ _ _ _ _ _ _ _ w hz
 dsimp only at h
 by_cases he : er = 0
 ·subst he
  rw [if_pos rfl] at h
  obtain ⟨⟨q0, q1⟩, hq, h⟩ := Option.bind_eq_some_iff.mp h
  obtain ⟨⟨v0, v1, v2, v3⟩, hv, h⟩ := Option.bind_eq_some_iff.mp h
  injection Option.some.inj h with h1 h2
  injection h2 with h2 h3
  injection h3 with h3 h4
  injection h4 with h4 h5
  subst h1 h2 h3 h4 h5
  exact Negated_w _ _ _ _ _ _ _ _ _ w (fun w => of_Negated_ok _ _ _ _ _ _ _ _ _ _ _ _ _ w cb (fun w => cx_Negated_1.calls _ _ _ _ _ w hq) (fun w => fd_value.calls _ _ _ _ _ _ _ w hv))
 ·rw [if_neg he] at h
  injection Option.some.inj h with h1 h2
  injection h2 with h2 h3
  injection h3 with h3 h4
  injection h4 with h4 h5
  subst h1 h2 h3 h4 h5
  exact Negated_w _ _ _ _ _ _ _ _ _ w (fun w => of_Negated_bad _ _ _ _ _ _ _ _ (by simpa using he) w cb)
def cx_Conjugate.f (a0 a1 a2 : Int) (a3 : ByteArray) : Option (Int × Int × Int × ByteArray × Int) := (cx_open.f a0 a1 a2 a3).bind fun z => if z.2.2.2 = 0 then ((fd_conjugate.f z.1 z.2.1 z.2.2.1).bind fun q => (fd_value.f z.1 q.1 q.2).bind fun y => some (y.1, y.2.1, y.2.2.1, y.2.2.2, 0)) else some (0, 0, 0, (⟨#[]⟩ : ByteArray), z.2.2.2)
theorem cx_Conjugate.calls (a0 a1 a2 : Int) (a3 : ByteArray) (r1 r2 r3 : Int) (r4 : ByteArray) (r5 : Int) (w : World) (h : cx_Conjugate.f a0 a1 a2 a3 = some (r1, r2, r3, r4, r5)) :
  Calls Tryz.prog 25 #[.agg #[.int .i64 a0, .int .u64 a1, .int .u64 a2, .string a3]] w fun e w' => e = .returned (.tuple #[.agg #[.int .i64 r1, .int .u64 r2, .int .u64 r3, .string r4], .int .i64 r5]) ∧ Below w.heap.size w w' := by
 obtain ⟨z, hz, h⟩ := Option.bind_eq_some_iff.mp h
 obtain ⟨p, x0, x1, er⟩ := z
 have cb := fun w => cx_open.calls _ _ _ _ _ _ _ _ w hz
 dsimp only at h
 by_cases he : er = 0
 ·subst he
  rw [if_pos rfl] at h
  obtain ⟨⟨q0, q1⟩, hq, h⟩ := Option.bind_eq_some_iff.mp h
  obtain ⟨⟨v0, v1, v2, v3⟩, hv, h⟩ := Option.bind_eq_some_iff.mp h
  injection Option.some.inj h with h1 h2
  injection h2 with h2 h3
  injection h3 with h3 h4
  injection h4 with h4 h5
  subst h1 h2 h3 h4 h5
  exact Conjugate_w _ _ _ _ _ _ _ _ _ w (fun w => of_Conjugate_ok _ _ _ _ _ _ _ _ _ _ _ _ _ w cb (fun w => fd_conjugate.calls _ _ _ _ _ w hq) (fun w => fd_value.calls _ _ _ _ _ _ _ w hv))
 ·rw [if_neg he] at h
  injection Option.some.inj h with h1 h2
  injection h2 with h2 h3
  injection h3 with h3 h4
  injection h4 with h4 h5
  subst h1 h2 h3 h4 h5
  exact Conjugate_w _ _ _ _ _ _ _ _ _ w (fun w => of_Conjugate_bad _ _ _ _ _ _ _ _ (by simpa using he) w cb)
def cx_SqrtOf.f (a0 a1 a2 : Int) (a3 : ByteArray) : Option (Int × Int × Int × ByteArray × Int) := (cx_open.f a0 a1 a2 a3).bind fun z => if z.2.2.2 = 0 then ((fd_squareRoot.f 40 z.1 z.2.1 z.2.2.1).bind fun q => (fd_value.f z.1 q.1 q.2).bind fun y => some (y.1, y.2.1, y.2.2.1, y.2.2.2, 0)) else some (0, 0, 0, (⟨#[]⟩ : ByteArray), z.2.2.2)
theorem cx_SqrtOf.calls (a0 a1 a2 : Int) (a3 : ByteArray) (r1 r2 r3 : Int) (r4 : ByteArray) (r5 : Int) (w : World) (h : cx_SqrtOf.f a0 a1 a2 a3 = some (r1, r2, r3, r4, r5)) :
  Calls Tryz.prog 28 #[.agg #[.int .i64 a0, .int .u64 a1, .int .u64 a2, .string a3]] w fun e w' => e = .returned (.tuple #[.agg #[.int .i64 r1, .int .u64 r2, .int .u64 r3, .string r4], .int .i64 r5]) ∧ Below w.heap.size w w' := by
 obtain ⟨z, hz, h⟩ := Option.bind_eq_some_iff.mp h
 obtain ⟨p, x0, x1, er⟩ := z
 have cb := fun w => cx_open.calls _ _ _ _ _ _ _ _ w hz
 dsimp only at h
 by_cases he : er = 0
 ·subst he
  rw [if_pos rfl] at h
  obtain ⟨⟨q0, q1⟩, hq, h⟩ := Option.bind_eq_some_iff.mp h
  obtain ⟨⟨v0, v1, v2, v3⟩, hv, h⟩ := Option.bind_eq_some_iff.mp h
  injection Option.some.inj h with h1 h2
  injection h2 with h2 h3
  injection h3 with h3 h4
  injection h4 with h4 h5
  subst h1 h2 h3 h4 h5
  exact SqrtOf_w _ _ _ _ _ _ _ _ _ w (fun w => of_SqrtOf_ok _ _ _ _ _ _ _ _ _ _ _ _ _ w cb (fun w => fd_squareRoot.calls 40 _ _ _ _ _ w hq) (fun w => fd_value.calls _ _ _ _ _ _ _ w hv))
 ·rw [if_neg he] at h
  injection Option.some.inj h with h1 h2
  injection h2 with h2 h3
  injection h3 with h3 h4
  injection h4 with h4 h5
  subst h1 h2 h3 h4 h5
  exact SqrtOf_w _ _ _ _ _ _ _ _ _ w (fun w => of_SqrtOf_bad _ _ _ _ _ _ _ _ (by simpa using he) w cb)
end Go.Proofs.YtmoimcblmmcffaaGreat

namespace Go.Proofs.YtmoimcblmmcffaaGreat.B
open Go.RowKit NC N PPC PRA Go.Proofs.YtmoimcblmmcffaaGreatW.PrintWords
set_option linter.unusedSimpArgs false
set_option linter.unusedVariables false
def timesP (s : Bool) (p q : Nat × Nat) : Nat × Nat := (subR s (mulR s p.1 q.1) (mulR s p.2 q.2), addR s (mulR s p.1 q.2) (mulR s p.2 q.1))
def okP (s : Bool) (p : Nat × Nat) : Prop := p.1 < 2 * signN s ∧ p.2 < 2 * signN s
theorem timesP_ok {s : Bool} {p q : Nat × Nat} (hp : okP s p) (hq : okP s q) : okP s (timesP s p q) := ⟨subR_lt (mulR_lt hp.1 hq.1) (mulR_lt hp.2 hq.2), addR_lt (mulR_lt hp.1 hq.2) (mulR_lt hp.2 hq.1)⟩
theorem ftimes {s : Bool} {p q : Nat × Nat} (hp : okP s p) (hq : okP s q) : fd_times.f (tv s) (p.1 : Int) (p.2 : Int) (q.1 : Int) (q.2 : Int) = some (((timesP s p q).1 : Int), ((timesP s p q).2 : Int)) := by
 unfold fd_times.f timesP
 rw [fmul hp.1 hq.1, Option.bind_some, fmul hp.2 hq.2, Option.bind_some, fsub (mulR_lt hp.1 hq.1) (mulR_lt hp.2 hq.2), Option.bind_some, fmul hp.1 hq.2, Option.bind_some, fmul hp.2 hq.1, Option.bind_some, fadd (mulR_lt hp.1 hq.2) (mulR_lt hp.2 hq.1), Option.bind_some]
def powC (s : Bool) (size : Nat) (x : Nat × Nat) : Nat → Nat × Nat → Nat × Nat
 | 0, o => o
 | i + 1, o => powC s size x i (if size / 2 ^ i = 0 then o else if size / 2 ^ i % 2 = 1 then timesP s (timesP s o o) x else timesP s o o)
theorem powC_ok {s : Bool} {size : Nat} {x : Nat × Nat} (hx : okP s x) : ∀ (i : Nat) (o : Nat × Nat), okP s o → okP s (powC s size x i o)
 | 0, _, h => h
 | i + 1, o, h => by
  unfold powC
  refine powC_ok hx i _ ?_
  split
  ·exact h
  ·split
   ·exact timesP_ok (timesP_ok h h) hx
   ·exact timesP_ok h h
theorem bits_and (n i : Nat) (hn : n < 18446744073709551616) (hi : i < 64) : (bits .and .u64 (n : Int) ((2 ^ i : Nat) : Int) = 0) ↔ ¬ n / 2 ^ i % 2 = 1 := by
 have h := and_bit n i hn hi
 by_cases k : n / 2 ^ i % 2 = 1
 ·rw [decide_eq_true k] at h
  have : bits .and .u64 (n : Int) ((2 ^ i : Nat) : Int) ≠ 0 := by simpa using h
  exact ⟨fun e => absurd e this, fun e => absurd k e⟩
 ·rw [decide_eq_false k] at h
  exact ⟨fun _ => k, fun _ => by simpa using h⟩
def bitI : Nat → Int
 | 0 => 0
 | j + 1 => ((2 ^ j : Nat) : Int)
theorem fone (s : Bool) : fd_one.f (tv s) = some ((fromR s 1 : Nat) : Int) := by
 unfold fd_one.f; cases s <;> rfl
end Go.Proofs.YtmoimcblmmcffaaGreat.B

namespace Go.Proofs.YtmoimcblmmcffaaGreat.NC
open Go.RowKit Go.Proofs.YtmoimcblmmcffaaGreat.B Go.Proofs.YtmoimcblmmcffaaGreat.N
set_option linter.unusedSimpArgs false
set_option linter.unusedVariables false
structure Num (s : Bool) (a : Nat) (n : Bool) (r m : Nat) (e : Int) : Prop where
 word : a = (fm s).word n r
 lt : r < (fm s).infRung
 read : (fm s).read a = .number n m e
 least : leastN s ≤ e
 val : m * 2 ^ (e - leastN s).toNat = Fl.V (fm s) r
 zero : m = 0 ↔ r = 0
 back : Fl.rung (fm s) m e = r
theorem cmp_word {s n m : Bool} {q r : Nat} (h : q ≤ (fm s).infRung) (h' : r ≤ (fm s).infRung) : cmpR s ((fm s).word n q) ((fm s).word m r) = if Fl.rk n q < Fl.rk m r then -1 else if Fl.rk n q = Fl.rk m r then 0 else 1 := by
 have h1 : (fm s).word n q < 2 * signN s := word_lt s n (Nat.lt_of_le_of_lt h (inf_lt s))
 have h2 : (fm s).word m r < 2 * signN s := word_lt s m (Nat.lt_of_le_of_lt h' (inf_lt s))
 rw [← cmp_eq h1 h2]
 have ho := Fl.order_word (fm s) (inf_ge s) n m h h'
 show cmpV ((fm s).order _ _) = _
 rw [Int.toNat_natCast, Int.toNat_natCast, ho]
 rcases Int.lt_trichotomy (Fl.rk n q) (Fl.rk m r) with k | k | k
 ·rw [Int.compare_eq_lt.2 k, if_pos k]; rfl
 ·rw [Int.compare_eq_eq.2 k, if_neg (by omega), if_pos k]; rfl
 ·rw [Int.compare_eq_gt.2 k, if_neg (by omega), if_neg (by omega)]; rfl
end Go.Proofs.YtmoimcblmmcffaaGreat.NC

namespace Go.Proofs.YtmoimcblmmcffaaGreat.NC
open Go.RowKit Go.Proofs.YtmoimcblmmcffaaGreat.B Go.Proofs.YtmoimcblmmcffaaGreat.N
set_option linter.unusedSimpArgs false
set_option linter.unusedVariables false
theorem parts_word (s n : Bool) {r : Nat} (h : r < signN s) : partsR s ((fm s).word n r) = partsOf s (r / lowN s % fieldN s) (r % lowN s) n := by
 rw [fm_word]
 unfold partsR sgnN
 have e : signN s = lowN s * fieldN s := (low_field s).symm
 cases s
 ·have h' : r < 9223372036854775808 := h
  cases n
  ·simp only [Bool.false_eq_true, if_false, Nat.zero_add]
   congr 1
   simp only [lowN, fieldN]
   exact decide_eq_false (by omega)
  ·simp only [if_true, signN, lowN, fieldN]
   rw [show (9223372036854775808 + r) / 4503599627370496 % 2048 = r / 4503599627370496 % 2048 from by omega, show (9223372036854775808 + r) % 4503599627370496 = r % 4503599627370496 from by omega]
   congr 1
   exact decide_eq_true (by omega)
 ·have h' : r < 2147483648 := h
  cases n
  ·simp only [Bool.false_eq_true, if_false, Nat.zero_add]
   congr 1
   simp only [lowN, fieldN]
   exact decide_eq_false (by omega)
  ·simp only [if_true, signN, lowN, fieldN]
   rw [show (2147483648 + r) / 8388608 % 256 = r / 8388608 % 256 from by omega, show (2147483648 + r) % 8388608 = r % 8388608 from by omega]
   congr 1
   exact decide_eq_true (by omega)
theorem word_cases {s : Bool} {a : Nat} (ha : a < 2 * signN s) : (partsR s a = ⟨3, false, 0, 0⟩) ∨ (partsR s a).kind ≠ 3 ∧ ∃ n r, r ≤ (fm s).infRung ∧ a = (fm s).word n r ∧ (partsR s a).neg = n ∧ (∀ m, bitsR s { partsR s a with neg := m } = (fm s).word m r) ∧ (∀ m, partsR s ((fm s).word m r) = { partsR s a with neg := m }) := by
 have ht := told s a ha
 by_cases hk : (partsR s a).kind = 3
 ·exact .inl (told_nan ht hk).1
 ·refine .inr ⟨hk, ?_⟩
  rcases told_size ht with h | ⟨r, h1, h2, h3, h4⟩
  ·exact absurd h hk
  ·have hr := Nat.lt_of_le_of_lt h1 (inf_lt s)
   refine ⟨_, r, h1, h2, rfl, h4, fun m => ?_⟩
   have h5 := parts_word s (partsR s a).neg hr
   rw [← h2] at h5
   rw [parts_word s m hr, h5]
   unfold partsOf
   rw [h5] at hk
   unfold partsOf at hk
   by_cases c1 : r / lowN s % fieldN s + 1 = fieldN s
   ·rw [if_pos c1] at hk
    rw [if_pos c1, if_pos c1]
    by_cases c2 : r % lowN s = 0
    ·rw [if_pos c2, if_pos c2]
    ·rw [if_neg c2] at hk; exact absurd rfl hk
   ·rw [if_neg c1, if_neg c1]
    by_cases c2 : r / lowN s % fieldN s = 0
    ·rw [if_pos c2, if_pos c2]
     by_cases c3 : r % lowN s = 0
     ·rw [if_pos c3, if_pos c3]
     ·rw [if_neg c3, if_neg c3]
    ·rw [if_neg c2, if_neg c2]
theorem parts_nan (s : Bool) : partsR s (nanN s) = ⟨3, false, 0, 0⟩ := by cases s <;> rfl
theorem nan_lt (s : Bool) : nanN s < 2 * signN s := by cases s <;> decide
end Go.Proofs.YtmoimcblmmcffaaGreat.NC

namespace Go.Proofs.YtmoimcblmmcffaaGreat.B
open Go.RowKit NC N PPC PRA Go.Proofs.YtmoimcblmmcffaaGreatW.PrintWords
set_option linter.unusedSimpArgs false
set_option linter.unusedVariables false
def dist2 (s : Bool) (a b : Nat) : Nat :=
 if (partsR s a).kind = 2 ∨ (partsR s b).kind = 2 then extR true s a b
 else if (partsR s (extR true s a b)).kind = 0 ∧ (partsR s a).kind = (partsR s b).kind then extR true s a b
 else if (partsR s a).kind = 3 then a else if (partsR s b).kind = 3 then b
 else mulR s (extR true s a b) (sqrtR s (addR s (fromR s 1) (mulR s (divR s (extR false s a b) (extR true s a b)) (divR s (extR false s a b) (extR true s a b)))))
def distR (s : Bool) (x y : Nat) : Nat := dist2 s (sizeR s x) (sizeR s y)
theorem extR_lt {g s : Bool} {a b : Nat} (ha : a < 2 * signN s) (hb : b < 2 * signN s) : extR g s a b < 2 * signN s := by
 unfold extR extP
 by_cases h1 : (partsR s a).kind = 3
 ·rw [if_pos h1]
  by_cases h2 : (partsR s b).kind = 3
  ·rw [if_pos h2]; exact nan_lt s
  ·rw [if_neg h2]; exact hb
 ·rw [if_neg h1]
  by_cases h2 : (partsR s b).kind = 3
  ·rw [if_pos h2]; exact ha
  ·rw [if_neg h2]
   generalize decide ((if cmpR s a b = 0 then ((partsR s b).neg.toNat : Int) - (partsR s a).neg.toNat else cmpR s a b) < 0) = d
   by_cases h3 : d = g
   ·rw [if_pos h3]; exact hb
   ·rw [if_neg h3]; exact ha
theorem sqrtR_lt {s : Bool} {a : Nat} (ha : a < 2 * signN s) : sqrtR s a < 2 * signN s := by
 unfold sqrtR sqrtP
 generalize hp : partsR s a = p
 split
 ·exact nan_lt s
 ·split
  ·exact ha
  ·generalize rootN (p.sig * 2 ^ shN p.exp) = q
   generalize (q * q != p.sig * 2 ^ shN p.exp) = more
   by_cases hq : q = 0
   ·subst hq
    by_cases hz : more = false
    ·subst hz; rw [round_exact]; exact word_lt s _ (Nat.lt_of_le_of_lt (Fl.rung_le _ _ _) (inf_lt s))
    ·have : more = true := by simpa using hz
     subst this
     rw [round_zero]; exact word_lt s _ (Nat.lt_of_le_of_lt (Nat.zero_le _) (inf_lt s))
   ·rw [round_word s _ _ _ _ hq]; exact word_lt s _ (Nat.lt_of_le_of_lt (Fl.rung_le _ _ _) (inf_lt s))
theorem ext_f {op : Int} {s : Bool} {x y : Nat} (h : op = 5 ∨ op = 6) (hx : x < 2 * signN s) (hy : y < 2 * signN s) : fd_operation.f (tv s) op (x : Int) (y : Int) = some ((extR (decide (op = 6)) s x y : Nat) : Int) := by
 unfold fd_operation.f
 rcases h with rfl | rfl <;> rw [apply_f (by decide) (by decide) hx hy] <;> rfl
theorem okW_nat {s : Bool} {x : Nat} (hx : x < 2 * signN s) : okW (tv s) (x : Int) = true := by
 have h1 := (rg_nat hx)
 unfold okW
 rw [tv_eq, decide_eq_true h1.1, decide_eq_true h1.2]; cases s <;> rfl
theorem fkind {s : Bool} {x : Nat} (hx : x < 2 * signN s) : fd_kind.f (tv s) (x : Int) = some (partsR s x).kind := by
 unfold fd_kind.f rl_PartsOf.f
 rw [if_pos (okW_nat hx), tv_eq]; rfl
theorem froot {s : Bool} {x : Nat} (hx : x < 2 * signN s) : fd_root.f (tv s) (x : Int) = some ((sqrtR s x : Nat) : Int) := by
 unfold fd_root.f rl_SqrtOf.f
 rw [u64B_nat hx, if_pos rfl, (rg_nat hx).valid1, if_pos rfl, tv_eq, root_eq hx]; rfl
theorem fdistance {s : Bool} {x y : Nat} {k : Nat} (hx : x < 2 * signN s) (hy : y < 2 * signN s) : fd_distance.f (k + 2) (tv s) (x : Int) (y : Int) = some ((distR s x y : Nat) : Int) := by
 unfold fd_distance.f
 rw [fsize hx, Option.bind_some, fsize hy, Option.bind_some]
 unfold distR
 have ha := sizeR_lt hx
 have hb := sizeR_lt hy
 generalize sizeR s x = a at *
 generalize sizeR s y = b at *
 clear hx hy
 have hm := extR_lt (g := true) ha hb
 have hn := extR_lt (g := false) ha hb
 have e6 : fd_operation.f (tv s) 6 (a : Int) (b : Int) = some ((extR true s a b : Nat) : Int) := ext_f (.inr rfl) ha hb
 have e5 : fd_operation.f (tv s) 5 (a : Int) (b : Int) = some ((extR false s a b : Nat) : Int) := ext_f (.inl rfl) ha hb
 have j1t : ∀ k : Nat, fd_distance.j1 (k + 1) (tv s) (a : Int) (b : Int) ((extR true s a b : Nat) : Int) ((extR false s a b : Nat) : Int) true = some ((extR true s a b : Nat) : Int) := fun k => by simp only [fd_distance.j1, if_true]
 have j1f : ∀ k : Nat, fd_distance.j1 (k + 1) (tv s) (a : Int) (b : Int) ((extR true s a b : Nat) : Int) ((extR false s a b : Nat) : Int) false = some (((if (partsR s a).kind = 3 then a else if (partsR s b).kind = 3 then b
 else mulR s (extR true s a b) (sqrtR s (addR s (fromR s 1) (mulR s (divR s (extR false s a b) (extR true s a b)) (divR s (extR false s a b) (extR true s a b)))))) : Nat) : Int) := fun k => by
  simp only [fd_distance.j1]
  rw [if_neg (by decide), fkind ha, Option.bind_some]
  by_cases h1 : (partsR s a).kind = 3
  ·rw [if_pos h1, if_pos h1]
  ·rw [if_neg h1, if_neg h1, fkind hb, Option.bind_some]
   by_cases h2 : (partsR s b).kind = 3
   ·rw [if_pos h2, if_pos h2]
   ·rw [if_neg h2, if_neg h2]
    have hq := divR_lt hn hm
    have hqq := mulR_lt hq hq
    have hs := addR_lt (fromR_lt s 1) hqq
    rw [fdiv hn hm, Option.bind_some, fone, Option.bind_some, fmul hq hq, Option.bind_some, fadd (fromR_lt s 1) hqq, Option.bind_some, froot hs, Option.bind_some, fmul hm (sqrtR_lt hs), Option.bind_some]
 have hinf : (partsR s a).kind = 2 ∨ (partsR s b).kind = 2 → fd_distance.j0 (k + 2) (tv s) (a : Int) (b : Int) true = some ((dist2 s a b : Nat) : Int) := fun h => by
  unfold dist2
  rw [if_pos h]
  simp only [fd_distance.j0]
  rw [e6, Option.bind_some, e5, Option.bind_some, if_pos trivial]
  exact j1t k
 have hfin : ¬ ((partsR s a).kind = 2 ∨ (partsR s b).kind = 2) → fd_distance.j0 (k + 2) (tv s) (a : Int) (b : Int) false = some ((dist2 s a b : Nat) : Int) := fun h => by
  unfold dist2
  rw [if_neg h]
  simp only [fd_distance.j0]
  rw [e6, Option.bind_some, e5, Option.bind_some, if_neg (by decide), fkind hm, Option.bind_some]
  by_cases h1 : (partsR s (extR true s a b)).kind = 0
  ·rw [if_pos h1, fkind ha, Option.bind_some, fkind hb, Option.bind_some]
   by_cases h2 : (partsR s a).kind = (partsR s b).kind
   ·rw [if_pos ⟨h1, h2⟩, show ((partsR s a).kind == (partsR s b).kind) = true from beq_iff_eq.2 h2]
    exact j1t k
   ·rw [if_neg (fun e => h2 e.2), show ((partsR s a).kind == (partsR s b).kind) = false from beq_eq_false_iff_ne.2 h2]
    exact j1f k
  ·rw [if_neg h1, if_neg (fun e => h1 e.1)]
   exact j1f k
 rw [fkind ha, Option.bind_some]
 by_cases h1 : (partsR s a).kind = 2
 ·rw [if_pos h1]; exact hinf (.inl h1)
 ·rw [if_neg h1, fkind hb, Option.bind_some]
  by_cases h2 : (partsR s b).kind = 2
  ·rw [show ((partsR s b).kind == 2) = true from beq_iff_eq.2 h2]; exact hinf (.inr h2)
  ·rw [show ((partsR s b).kind == 2) = false from beq_eq_false_iff_ne.2 h2]; exact hfin (by omega)
theorem size_form {s : Bool} {x : Nat} (hx : x < 2 * signN s) : sizeR s x = nanN s ∨ ∃ r, r ≤ (fm s).infRung ∧ sizeR s x = (fm s).word false r := by
 unfold sizeR
 rcases word_cases hx with h | ⟨h, n, r, h1, h2, h3, h4, h5⟩
 ·rw [h]; exact .inl (bits_nan s _)
 ·exact .inr ⟨r, h1, h4 false⟩
theorem kind_word {s n : Bool} {r : Nat} (h : r ≤ (fm s).infRung) : (partsR s ((fm s).word n r)).kind ≠ 3 ∧ (partsR s ((fm s).word n r)).neg = n := by
 have hr := Nat.lt_of_le_of_lt h (inf_lt s)
 rcases word_cases (word_lt s n hr) with k | ⟨k, m, t, k1, k2, k3, k4, k5⟩
 ·exfalso
  obtain ⟨m, t, h0, h1, h2⟩ := (told_nan (told s _ (word_lt s n hr)) (by rw [k])).2
  have a1 := (Fl.word_parts (fm s) n r (by rw [fm_sign]; exact hr)).2
  have a2 := (Fl.word_parts (fm s) m t (by rw [fm_sign]; exact h1)).2
  rw [h2] at a1
  omega
 ·have a1 := (Fl.word_parts (fm s) n r (by rw [fm_sign]; exact hr)).1
  have a2 := (Fl.word_parts (fm s) m t (by rw [fm_sign]; exact Nat.lt_of_le_of_lt k1 (inf_lt s))).1
  rw [k2] at a1
  exact ⟨k, k3.trans (a2.symm.trans a1)⟩
theorem ext_words {g s : Bool} {q r : Nat} (hq : q ≤ (fm s).infRung) (hr : r ≤ (fm s).infRung) : extR g s ((fm s).word false q) ((fm s).word false r) = (fm s).word false (if g = true then max q r else min q r) := by
 obtain ⟨k1, n1⟩ := kind_word (n := false) hq
 obtain ⟨k2, n2⟩ := kind_word (n := false) hr
 unfold extR extP
 rw [if_neg k1, if_neg k2, n1, n2, cmp_word hq hr]
 unfold Fl.rk
 simp only [Bool.false_eq_true, if_false]
 rcases Nat.lt_trichotomy q r with h | h | h
 ·rw [if_pos (show (q : Int) < (r : Int) by omega), if_neg (show ¬ ((-1 : Int) = 0) by decide), decide_eq_true (show (-1 : Int) < 0 by decide)]
  cases g
  ·rw [if_neg (by decide), if_neg (by decide), Nat.min_eq_left (Nat.le_of_lt h)]
  ·rw [if_pos rfl, if_pos rfl, Nat.max_eq_right (Nat.le_of_lt h)]
 ·subst h
  rw [Nat.max_self, Nat.min_self]
  have e : (if g = true then q else q) = q := by cases g <;> rfl
  rw [e]
  generalize (fm s).word false q = y
  generalize (if (q : Int) < (q : Int) then (-1 : Int) else if (q : Int) = (q : Int) then 0 else 1) = c
  generalize decide ((if c = 0 then (false.toNat : Int) - false.toNat else c) < 0) = d
  by_cases h3 : d = g
  ·rw [if_pos h3]
  ·rw [if_neg h3]
 ·rw [if_neg (show ¬ ((q : Int) < (r : Int)) by omega), if_neg (show ¬ ((q : Int) = (r : Int)) by omega), if_neg (show ¬ ((1 : Int) = 0) by decide), decide_eq_false (show ¬ ((1 : Int) < 0) by decide)]
  cases g
  ·rw [if_pos rfl, if_neg (by decide), Nat.min_eq_right (Nat.le_of_lt h)]
  ·rw [if_neg (by decide), if_pos rfl, Nat.max_eq_left (Nat.le_of_lt h)]
theorem ext_nan1 {g s : Bool} {b : Nat} (h : (partsR s b).kind ≠ 3) : extR g s (nanN s) b = b := by
 unfold extR extP; rw [parts_nan, if_pos rfl, if_neg h]
theorem ext_nan2 {g s : Bool} {b : Nat} (h : (partsR s b).kind ≠ 3) : extR g s b (nanN s) = b := by
 unfold extR extP; rw [parts_nan, if_neg h, if_pos rfl]
end Go.Proofs.YtmoimcblmmcffaaGreat.B

namespace Go.Proofs.YtmoimcblmmcffaaGreat.B
open Go.RowKit NC N PPC PRA Go.Proofs.YtmoimcblmmcffaaGreatW.PrintWords
set_option linter.unusedSimpArgs false
set_option linter.unusedVariables false
section
variable {s : Bool} {a b u : Nat} {na nb nu : Bool} {qa qb qu ma mb mu : Nat} {ea eb eu : Int} (ha : Num s a na qa ma ea) (hb : Num s b nb qb mb eb) (hu : Num s u nu qu mu eu)
include ha hb
omit hb
include hu
end
def conjP (s : Bool) (p : Nat × Nat) : Nat × Nat := (p.1, negR s p.2)
end Go.Proofs.YtmoimcblmmcffaaGreat.B

namespace Go.Proofs.YtmoimcblmmcffaaGreat.B
open Go.RowKit NC N PPC PRA Go.Proofs.YtmoimcblmmcffaaGreatW.PrintWords
set_option linter.unusedSimpArgs false
set_option linter.unusedVariables false
theorem valueErr_f {t a b : Int} (S : ByteArray) (ha : U64 a) (hb : U64 b) : r10_ValueErr.f t a b S = some (openErrV t a b S) := by
 unfold r10_ValueErr.f r10_TypeErr.f openErrV ctypeErrV cpart bitsErrV
 by_cases h3 : t = 3
 ·subst h3
  simp only [if_true, Option.bind_some]
  by_cases hs : S.toList = []
  ·rw [if_pos hs, if_pos hs]
   by_cases h1 : a ≥ 4294967296
   ·rw [if_pos h1, if_neg]
    simp; omega
   ·rw [if_neg h1]
    by_cases h2 : b ≥ 4294967296
    ·rw [if_pos h2, if_neg]
     simp; omega
    ·rw [if_neg h2, if_pos]
     simp; omega
  ·rw [if_neg hs, if_neg hs]
 ·by_cases h4 : t = 4
  ·subst h4
   by_cases hs : S.toList = []
   ·simp [hs]
   ·simp [hs]
  ·rw [if_neg h3, if_neg h4]
   simp [h3, h4]
theorem open_ok {t a b : Int} {S : ByteArray} (ha : U64 a) (hb : U64 b) (h : openErrV t a b S = 0) : ∃ s x y, t = ct s ∧ a = ((x : Nat) : Int) ∧ b = ((y : Nat) : Int) ∧ x < 2 * signN s ∧ y < 2 * signN s := by
 obtain ⟨x, rfl⟩ := Int.eq_ofNat_of_zero_le ha.1
 obtain ⟨y, rfl⟩ := Int.eq_ofNat_of_zero_le hb.1
 unfold openErrV ctypeErrV cpart at h
 by_cases h3 : t = 3
 ·subst h3
  simp only [if_true] at h
  by_cases hs : S.toList = []
  ·rw [if_pos hs] at h
   by_cases hb : bitsErrV 1 [(x : Int), (y : Int)] = 0
   ·refine ⟨true, x, y, rfl, rfl, rfl, ?_, ?_⟩
    all_goals
     unfold bitsErrV at hb
     simp at hb
     show _ < 4294967296
     omega
   ·rw [if_neg hb] at h; cases h
  ·rw [if_neg hs] at h; cases h
 ·by_cases h4 : t = 4
  ·subst h4
   refine ⟨false, x, y, rfl, rfl, rfl, ?_, ?_⟩
   ·have := ha.2; show _ < 18446744073709551616; omega
   ·have := hb.2; show _ < 18446744073709551616; omega
  ·rw [if_neg h3, if_neg h4, if_neg (by decide)] at h; exact absurd h (by decide)
end Go.Proofs.YtmoimcblmmcffaaGreat.B

namespace Go.Proofs.YtmoimcblmmcffaaGreat.B
open Go.RowKit NC N PPC PRA Go.Proofs.YtmoimcblmmcffaaGreatW.PrintWords
set_option linter.unusedSimpArgs false
set_option linter.unusedVariables false
theorem le_add {α : Type} {f : Nat → Option α} (h : ∀ k, LeO (f k) (f (k + 1))) (n : Nat) : ∀ k, LeO (f n) (f (n + k))
 | 0 => LeO.refl _
 | k + 1 => (le_add h n k).trans (h (n + k))
theorem open_ct {s : Bool} {x y : Nat} {S : ByteArray} (hS : S.toList = []) (hx : x < 2 * signN s) (hy : y < 2 * signN s) : openErrV (ct s) (x : Int) (y : Int) S = 0 := by
 unfold openErrV
 have hc : ctypeErrV (ct s) = 0 := by cases s <;> rfl
 rw [hc, if_pos rfl, if_pos hS, cpart_ct]
 have hb : bitsErrV (tv s) [(x : Int), (y : Int)] = 0 := by
  unfold bitsErrV
  rw [if_neg]
  cases s
  ·simp [tv]
  ·have h1 : x < 4294967296 := hx
   have h2 : y < 4294967296 := hy
   simp [tv]; omega
 rw [hb]; rfl
theorem open_text {s : Bool} {x y : Int} {S : ByteArray} (h : openErrV (ct s) x y S = 0) : S.toList = [] := by
 unfold openErrV at h
 have hc : ctypeErrV (ct s) = 0 := by cases s <;> rfl
 rw [hc, if_pos rfl] at h
 by_cases hs : S.toList = []
 ·exact hs
 ·rw [if_neg hs] at h; exact absurd h (by decide)
theorem nb_text : NB.toList = [] := by simp [ByteArray.toList, ByteArray.toList.loop, ByteArray.size]
theorem fnegated {s : Bool} {x : Nat} (hx : x < 2 * signN s) : fd_negated.f (tv s) (x : Int) = some ((negR s x : Nat) : Int) := by
 unfold fd_negated.f rl_Negated.f
 rw [u64B_nat hx, if_pos rfl, (rg_nat hx).valid1, if_pos rfl, neg_eq hx]; rfl
section
variable {s : Bool} {p : Nat × Nat} {S : ByteArray} (hS : S.toList = []) (hp : okP s p)
include hS hp
theorem open_f : cx_open.f (ct s) (p.1 : Int) (p.2 : Int) S = some (tv s, (p.1 : Int), (p.2 : Int), 0) := by
 unfold cx_open.f
 rw [u64B_nat hp.1, u64B_nat hp.2, if_pos (by decide), open_ct hS hp.1 hp.2, cpart_ct]
theorem val_conj : cx_Conjugate.f (ct s) (p.1 : Int) (p.2 : Int) S = some (ct s, ((conjP s p).1 : Int), ((conjP s p).2 : Int), NB, 0) := by
 unfold cx_Conjugate.f
 rw [open_f hS hp, Option.bind_some, if_pos rfl]
 unfold fd_conjugate.f conjP
 dsimp only
 rw [fnegated hp.2, Option.bind_some, Option.bind_some, fvalue, Option.bind_some]
theorem val_size (k : Nat) : cx_SizeOf.f (k + 2) (ct s) (p.1 : Int) (p.2 : Int) S = some (tv s, ((distR s p.1 p.2 : Nat) : Int), 0, NB, 0) := by
 unfold cx_SizeOf.f
 rw [open_f hS hp, Option.bind_some, if_pos rfl]
 dsimp only
 rw [fdistance hp.1 hp.2, Option.bind_some]
end
end Go.Proofs.YtmoimcblmmcffaaGreat.B

namespace Go.Proofs.YtmoimcblmmcffaaGreat.PLO
open Go.RowKit Go.Proofs.YtmoimcblmmcffaaGreatW.PrintWords Go.Proofs.YtmoimcblmmcffaaGreatW.PrintLast Go.Proofs.YtmoimcblmmcffaaGreatW.PrintMore
attribute [local go_sem] max2_int min2_int max_two min_two max_three min_three max_four min_four   -- for this text's walks alone
set_option linter.unusedVariables false
set_option linter.unusedSimpArgs false
def errW : Option Int → Value
 | none => .nilIface
 | some c => .iface 0 (.int .i64 c)
theorem errW_none : errW none = .nilIface := rfl
theorem errW_some (c : Int) : errW (some c) = .iface 0 (.int .i64 c) := rfl
end Go.Proofs.YtmoimcblmmcffaaGreat.PLO
