/- Contracts and plain laws that the law ComplexesSums leans on (texts joined by program; what it does not come to is left out). -/
import Derived.Test.YtmoimcblmmcffaaGreatQComplexesSumsA
import Derived.Test.YtmoimcblmmcffaaGreatQComplexesSumsG
import Derived.Test.YtmoimcblmmcffaaGreatQComplexesSumsH
import Derived.Test.YtmoimcblmmcffaaGreatQComplexesSumsF
import Derived.Test.YtmoimcblmmcffaaGreatProg
import Derived.Below
import Derived.Deep.Draws
import Derived.Deep.AppendLies
import Derived.Maps.AppendAt
import Derived.OwnWalk
import Derived.Laws.BytesArg
import Derived.Laws.MakeOwn
import Derived.Laws.OwnMore
import Derived.Deep.OwnRows
import Derived.Tactics
import Derived.Lib.ConvBytes
import Derived.Laws.Slices
import Derived.WalkKit
import Derived.KernelRfl
import Derived.RowKit3
import Derived.Deep.LoopGhost
import Derived.Deep.QuietTactic
import Derived.BigQuiet
import Derived.WideLaws
import Derived.Deep.DeepCutAuto
import Derived.Deep.CutBlock
import Derived.Deep.RegionHeld3
import Derived.Laws.Rows
import Derived.Lib.AppendStr
import Derived.ArgAppend
import Derived.Laws.IdiomCopy
import Derived.OrdersHeld
import Derived.Laws.BitsLemmas
import Derived.RowKit

namespace Go.Proofs.YtmoimcblmmcffaaGreat.PPC
open Go.RowKit Go.Proofs.YtmoimcblmmcffaaGreatW.PrintWords Go.Proofs.YtmoimcblmmcffaaGreatW.PrintLast Go.Proofs.YtmoimcblmmcffaaGreatW.PrintMore Go.Proofs.YtmoimcblmmcffaaGreatW.PrintZ
attribute [local go_sem] max2_int min2_int max_two min_two max_three min_three max_four min_four   -- for this text's walks alone
set_option linter.unusedVariables false
set_option linter.unusedSimpArgs false


mutual
def cx_list.l0 : Nat → Int → List (S74) → List (S24) → Int → Int → Option ((List (S74)) × Int)
 | 0, _, _, _, _, _ => none
 | k + 1, x0, x6, x12, x13, x14 => if x14 < x13 then (if 0 ≤ x14 then (if x14 < (x12.length : Int) then ((cx_open.f ((rd_T24 x12 x14).f0) ((rd_T24 x12 x14).f1) ((rd_T24 x12 x14).f2) ((rd_T24 x12 x14).f3)).bind fun bt245 => (if bt245.2.2.2 = 0 then (cx_list.j1 k x0 x6 bt245.2.2.2 x12 x13 x14 (((rd_T24 x12 x14).f0) != x0) bt245.2.1 bt245.2.2.1) else (cx_list.j1 k x0 x6 bt245.2.2.2 x12 x13 x14 false bt245.2.1 bt245.2.2.1))) else (none)) else (none)) else (some (x6, 0))
def cx_list.j1 : Nat → Int → List (S74) → Int → List (S24) → Int → Int → Bool → Int → Int → Option ((List (S74)) × Int)
 | 0, _, _, _, _, _, _, _, _, _ => none
 | k + 1, x0, x6, x11, x12, x13, x14, x31, x250000, x250001 => if x31 = true then (if 27 = 0 then (if x6.length < 8796093022208 then (cx_list.l0 k x0 (x6 ++ [(⟨x250000, x250001⟩ : S74)]) x12 x13 (wrap64 (x14 + 1))) else (none)) else (some (([] : List (S74)), 27))) else (if x11 = 0 then (if x6.length < 8796093022208 then (cx_list.l0 k x0 (x6 ++ [(⟨x250000, x250001⟩ : S74)]) x12 x13 (wrap64 (x14 + 1))) else (none)) else (some (([] : List (S74)), x11)))
end
def cx_list.f (k : Nat) (a0 : Int) (l1 : List (S24)) : Option ((List (S74)) × Int) := cx_list.l0 k a0 ([] : List (S74)) l1 (l1.length : Int) 0
set_option maxHeartbeats 8000000 in
set_option maxRecDepth 100000 in
theorem cx_list.calls (k : Nat) (a0 : Int) (A1 : Option Addr) (c1 : Nat) (l1 : List (S24)) (r1 : List (S74)) (r2 : Int) (w : World) (hr1 : Kd.C k24 w A1 l1.length l1) (hc1 : l1.length ≤ c1) (h : cx_list.f k a0 l1 = some (r1, r2)) :
  Calls Tryz.prog 89 #[.int .i64 a0, .slice A1 l1.length c1] w fun e w' => ∃ v0_ : Value, e = .returned (.tuple #[v0_, .int .i64 r2]) ∧ Kd.R k74 74 w' w.heap.size (fun _ => True) v0_ r1 ∧ Below w.heap.size w w' := by
 have hu24 := Tryz.underlying24
 have hu74 := Tryz.underlying74
 have HR1 := Zs.mk hr1
 have HC1 := Zs.mk hc1
 clear hr1 hc1
 have HB := Zs.mk (Below.refl w.heap.size w)
 have H : (cx_list.l0 k a0 ([] : List (S74)) l1 (l1.length : Int) 0) = some (r1, r2) := h
 clear h
 have H' := Zs.mk H
 clear H
 go_enter Tryz.func89, Tryz.ntmps89
 go_wp2
 go_loopg [6, 14] k (fun kq v6 v14 w' => ∃ (x6_1 : List (S74)) (x14_1 : Int), v14 = .int .i64 x14_1 ∧ Zs (cx_list.l0 kq a0 x6_1 l1 (l1.length : Int) x14_1 = some (r1, r2)) ∧ Zs (kq ≤ k) ∧ Zs (Kd.R k74 74 w' w.heap.size (fun _ => True) v6 x6_1) ∧ Zs (Below w.heap.size w w'))
 case atStart => exact ⟨(([] : List (S74))), (0), (by first | rfl | (simp; done) | (simp [*]; done)), H', ⟨Nat.le_refl _⟩, ⟨by first | exact Kd.R_nil _ _ _ _ _ | exact Kd.N_nil _ _ _ _ _ | exact Kd.V_nil _ _ _ _ _ | exact Kd.Q_nil _ _ _ _ _ | exact Kd.S_nil _ _ _ _ _⟩, blt HB⟩
 case round =>
  clear H'
  try clear c1
  try clear p2
  obtain ⟨x6_1, x14_1, rfl, HA, HK1, HO_6, HB⟩ := hrel
  cases gk with
  | zero => exact absurd HA.out (by simp [cx_list.l0])
  | succ k1 =>
   have H := HA.out
   clear HA
   simp only [cx_list.l0] at H
   by_cases c3 : x14_1 < (l1.length : Int)
   ·rw [if_pos c3] at H
    have c3b0 : decide (x14_1 < (l1.length : Int)) = true := decide_eq_true c3
    clear c3
    by_cases c4 : 0 ≤ x14_1
    ·rw [if_pos c4] at H
     have c4b0 : decide (0 ≤ x14_1) = true := decide_eq_true c4
     clear c4
     by_cases c5 : x14_1 < (l1.length : Int)
     ·rw [if_pos c5] at H
      have c5b0 : decide (x14_1 < (l1.length : Int)) = true := decide_eq_true c5
      clear c5
      replace H := Option.bind_eq_some_iff.mp H
      obtain ⟨⟨t245, t246, t247, t248⟩, A6, H⟩ := H
      try dsimp only at H
      replace A6 := Zs.mk A6
      have HC7 := Zs.mk H
      clear H
      have p243 : 0 ≤ (x14_1 : Int) := of_decide_eq_true (by first | (with_reducible assumption) | assumption)
      have q243 : x14_1 < (l1.length : Int) := of_decide_eq_true (by first | (with_reducible assumption) | assumption)
      obtain ⟨ad243, e243, hx243_0, hx243_1, hx243_2, hx243_3⟩ := at_T24 HR1.out x14_1 p243 q243
      cases e243
      replace hx243_0 := (HB.out.cell (World.block_lt_of_cell? w _ hx243_0)).trans hx243_0
      replace hx243_1 := (HB.out.cell (World.block_lt_of_cell? w _ hx243_1)).trans hx243_1
      replace hx243_2 := (HB.out.cell (World.block_lt_of_cell? w _ hx243_2)).trans hx243_2
      replace hx243_3 := (HB.out.cell (World.block_lt_of_cell? w _ hx243_3)).trans hx243_3
      replace p243 := eq_true p243
      replace q243 := eq_true q243
      go_upto_region 6 with (first | ((with_reducible refine gd_ (N := 8) rfl ?_); refine bxe 8 (cs := #[.int .i64 0, .int .u64 0, .int .u64 0, .string (⟨#[]⟩ : ByteArray)]) (t := 24) ?_; intro gb244 hg w8 hbox hb; have BK244 := Zs.mk hbox; have GW244 := bsz HB hg; have GE244 := bsz HB hg; replace HO_6 := Zs.mk (Kd.R_below (by (with_reducible repeat (first | apply Kd.R_alloc | apply Kd.R_drewN | apply Kd.R_drew)); exact HO_6.out) hb); replace HB := bls HB hb; clear hb hbox hg; obtain ⟨hcz9_0, hcz9_1, hcz9_2, hcz9_3, hfz9_0, hfz9_1, hfz9_2, hfz9_3⟩ := cf4 BK244) | ((with_reducible refine gc_ (f := 72) rfl ?_); refine gLc 20 Tryz.func72 (cx_open.calls ((rd_T24 l1 x14_1).f0) ((rd_T24 l1 x14_1).f1) ((rd_T24 l1 x14_1).f2) ((rd_T24 l1 x14_1).f3) t245 t246 t247 t248 _ A6.out) (fun w10 hb => ?_); replace HO_6 := Zs.mk (Kd.R_below (by (with_reducible repeat (first | apply Kd.R_alloc | apply Kd.R_drewN | apply Kd.R_drew)); exact (Kd.R_mono (Kd.R_far (p := ⟨gb244, 3, none⟩) (Kd.R_far (p := ⟨gb244, 2, none⟩) (Kd.R_far (p := ⟨gb244, 1, none⟩) (Kd.R_far (p := ⟨gb244, 0, none⟩) (Kd.R_types HO_6.out BK244.out (by decide)) (fun _ hk => hk.2) (.int .i64 ((rd_T24 l1 x14_1).f0))) (fun _ hk => hk.2) (.int .u64 ((rd_T24 l1 x14_1).f1))) (fun _ hk => hk.2) (.int .u64 ((rd_T24 l1 x14_1).f2))) (fun _ hk => hk.2) (.string ((rd_T24 l1 x14_1).f3))) (fun _ h_ => h_.1))) hb); replace BK244 := Zs.mk (blk_below (g := gb244) (o := .cells #[.int .i64 ((rd_T24 l1 x14_1).f0), .int .u64 ((rd_T24 l1 x14_1).f1), .int .u64 ((rd_T24 l1 x14_1).f2), .string ((rd_T24 l1 x14_1).f3)] 24 (0, 0)) (by (with_reducible repeat (first | refine zn ?_ _ | refine zd ?_ | refine za ?_ _)); apply bp4; (with_reducible repeat (first | refine zn ?_ _ | refine zd ?_ | refine za ?_ _)); exact BK244.out) hb); replace HB := bls HB hb; clear hb) | ((with_reducible refine gd_ (N := 10) rfl ?_); refine bxe 10 (cs := #[.int .u64 0, .int .u64 0]) (t := 74) ?_; intro gb249 hg w11 hbox hb; have BK249 := Zs.mk hbox; have GW249 := bsz HB hg; have GE249 := bsz HB hg; have NB244_249 := bnl BK244 hg; have NB249_244 := bng BK244 hg; replace HO_6 := Zs.mk (Kd.R_below (Kd.R_elderB (by (with_reducible repeat (first | apply Kd.R_alloc | apply Kd.R_drewN | apply Kd.R_drew)); exact HO_6.out) gb249 (Nat.le_of_eq hg.symm)) hb); replace BK244 := bkb BK244 hb; replace HB := bls HB hb; clear hb hbox hg; have hnb12 := NB249_244.out; have hnc12 := NB244_249.out; obtain ⟨hcz13_0, hcz13_1, hfz13_0, hfz13_1⟩ := cf2 BK249))
      (try simp only [Act.put, List.setIfInBounds_toArray, List.set_cons_zero, List.set_cons_succ])
      go_cut [31] (fun v31 wc => ∃ (kq : Nat) (x31_6 : Bool), v31 = .bool x31_6 ∧ Zs (cx_list.j1 kq a0 x6_1 t248 l1 (l1.length : Int) x14_1 x31_6 t246 t247 = some (r1, r2)) ∧ Zs (kq ≤ k1) ∧ Zs (Kd.R k74 74 wc w.heap.size (fun k_ => k_ ≠ gb249) u6 x6_1) ∧ Zs (wc.heap[gb244]? = some (.cells #[.int .i64 ((rd_T24 l1 x14_1).f0), .int .u64 ((rd_T24 l1 x14_1).f1), .int .u64 ((rd_T24 l1 x14_1).f2), .string ((rd_T24 l1 x14_1).f3)] 24 (0, 0))) ∧ Zs (wc.heap[gb249]? = some (.cells #[.int .u64 t246, .int .u64 t247] 74 (0, 0))) ∧ Zs (Below w.heap.size w wc))
      case first =>
       have H := HC7.out
       clear HC7
       by_cases c14 : t248 = 0
       ·rw [if_pos c14] at H
        have c14b0 : (t248 == 0) = true := beq_iff_eq.mpr c14
        have c14b1 : (t248 != 0) = false := bne_eq_false_iff_eq.mpr c14
        clear c14
        (first | rw [c14b0] | (simp only [i64_w, i32_w]; rw [c14b0]) | skip)
        have H' := Zs.mk H
        clear H
        have hnb15 := NB244_249.out
        have hnc15 := NB249_244.out
        obtain ⟨hcz16_0, hcz16_1, hcz16_2, hcz16_3, hfz16_0, hfz16_1, hfz16_2, hfz16_3⟩ := cf4 BK244
        go_wp2
        go_meet
        case rel => exact ⟨_, ((((rd_T24 l1 x14_1).f0) != a0)), (by first | rfl | (simp; done) | (simp [*]; done)), H', ⟨by have := HK1.out; first | omega | exact Nat.le_refl _⟩, ⟨by (with_reducible repeat (first | apply Kd.R_alloc | apply Kd.R_drewN | apply Kd.R_drew)); exact Kd.R_mono (Kd.R_far (p := ⟨gb249, 1, none⟩) (Kd.R_far (p := ⟨gb249, 0, none⟩) (Kd.R_mono HO_6.out (fun k_ hk => (⟨hk, hk.2⟩ : _ ∧ k_ ≠ gb249))) (fun _ hk => hk.2) (.int .u64 t246)) (fun _ hk => hk.2) (.int .u64 t247)) (fun _ hk => hk.1.2)⟩, bkf BK244, ⟨by (with_reducible repeat (first | refine zn ?_ _ | refine zd ?_ | refine za ?_ _)); apply bp2; (with_reducible repeat (first | refine zn ?_ _ | refine zd ?_ | refine za ?_ _)); exact BK249.out⟩, blt HB⟩
       ·rw [if_neg c14] at H
        have c14b0 : (t248 == 0) = false := beq_eq_false_iff_ne.mpr c14
        have c14b1 : (t248 != 0) = true := bne_iff_ne.mpr c14
        (first | rw [c14b0] | (simp only [i64_w, i32_w]; rw [c14b0]) | skip)
        have H' := Zs.mk H
        clear H
        go_wp2
        go_meet
        case rel => exact ⟨_, (false), (by first | rfl | (simp; done) | (simp [*]; done)), H', ⟨by have := HK1.out; first | omega | exact Nat.le_refl _⟩, ⟨by (with_reducible repeat (first | apply Kd.R_alloc | apply Kd.R_drewN | apply Kd.R_drew)); exact Kd.R_mono (Kd.R_far (p := ⟨gb249, 1, none⟩) (Kd.R_far (p := ⟨gb249, 0, none⟩) (Kd.R_mono HO_6.out (fun k_ hk => (⟨hk, hk.2⟩ : _ ∧ k_ ≠ gb249))) (fun _ hk => hk.2) (.int .u64 t246)) (fun _ hk => hk.2) (.int .u64 t247)) (fun _ hk => hk.1.2)⟩, bkf BK244, ⟨by (with_reducible repeat (first | refine zn ?_ _ | refine zd ?_ | refine za ?_ _)); apply bp2; (with_reducible repeat (first | refine zn ?_ _ | refine zd ?_ | refine za ?_ _)); exact BK249.out⟩, blt HB⟩
      case rest =>
       clear HC7
       try clear c1
       try clear p2
       try clear q2
       try clear hx2
       try clear c3
       try clear c3b0
       try clear c4
       try clear c4b0
       try clear c5
       try clear c5b0
       try clear c7
       try clear c8
       try clear c12
       try clear c14
       try clear c14b0
       try clear c14b1
       try clear c15
       try clear hcz13_0
       try clear hcz13_1
       try clear hcz16_0
       try clear hcz16_1
       try clear hcz16_2
       try clear hcz16_3
       try clear hcz9_0
       try clear hcz9_1
       try clear hcz9_2
       try clear hcz9_3
       try clear hfz13_0
       try clear hfz13_1
       try clear hfz16_0
       try clear hfz16_1
       try clear hfz16_2
       try clear hfz16_3
       try clear hfz9_0
       try clear hfz9_1
       try clear hfz9_2
       try clear hfz9_3
       try clear hx243_0
       try clear hx243_1
       try clear hx243_2
       try clear hx243_3
       try clear p2
       try clear p243
       try clear q243
       obtain ⟨kq, x31_6, rfl, HA, HJ6, HO_6, BK244, BK249, HB⟩ := hcut
       cases kq with
       | zero => exact absurd HA.out (by simp [cx_list.j1])
       | succ kj6 =>
        have H := HA.out
        clear HA
        simp only [cx_list.j1] at H
        by_cases c17 : x31_6 = true
        ·subst c17
         have H1 : (if 27 = 0 then (if x6_1.length < 8796093022208 then (cx_list.l0 kj6 a0 (x6_1 ++ [(⟨t246, t247⟩ : S74)]) l1 (l1.length : Int) (wrap64 (x14_1 + 1))) else (none)) else (some (([] : List (S74)), 27))) = some (r1, r2) := by rw [if_pos rfl] at H; exact H
         clear H
         have H := H1
         clear H1
         by_cases c18 : 27 = 0
         ·exact absurd c18 (by decide)
         ·rw [if_neg c18] at H
          have c18b0 : (27 == 0) = false := beq_eq_false_iff_ne.mpr c18
          have c18b1 : (27 != 0) = true := bne_iff_ne.mpr c18
          simp only [Option.some.injEq, Prod.mk.injEq] at H
          obtain ⟨rfl, rfl⟩ := H
          go_wp2
          go_ret2
          exact ⟨_, by first | rfl | (simp [errW_none, errW_some] <;> rfl) | (simp [*, errW_none, errW_some] <;> rfl), by first | exact Kd.R_nil _ _ _ _ _ | exact Kd.N_nil _ _ _ _ _ | exact Kd.V_nil _ _ _ _ _ | exact Kd.Q_nil _ _ _ _ _ | exact Kd.S_nil _ _ _ _ _, (blt HB).out⟩
        ·replace c17 := Bool.eq_false_iff.mpr c17
         subst c17
         have H1 : (if t248 = 0 then (if x6_1.length < 8796093022208 then (cx_list.l0 kj6 a0 (x6_1 ++ [(⟨t246, t247⟩ : S74)]) l1 (l1.length : Int) (wrap64 (x14_1 + 1))) else (none)) else (some (([] : List (S74)), t248))) = some (r1, r2) := by rw [if_neg (show ¬ (false = true) by decide)] at H; exact H
         clear H
         have H := H1
         clear H1
         by_cases c23 : t248 = 0
         ·rw [if_pos c23] at H
          have c23b0 : (t248 == 0) = true := beq_iff_eq.mpr c23
          have c23b1 : (t248 != 0) = false := bne_eq_false_iff_eq.mpr c23
          clear c23
          by_cases c24 : x6_1.length < 8796093022208
          ·rw [if_pos c24] at H
           have LMc24 := Zs.mk c24
           clear c24
           obtain ⟨y253, hy253⟩ : ∃ y_ : List (S74), y_ = (x6_1 ++ [(⟨t246, t247⟩ : S74)]) := ⟨_, rfl⟩
           replace H : (cx_list.l0 kj6 a0 y253 l1 (l1.length : Int) (wrap64 (x14_1 + 1))) = some (r1, r2) := by first | (rw [hy253]; with_reducible exact H) | (have H2_ := (Option.bind_some _ _).symm.trans H; rw [hy253]; with_reducible exact H2_) | (have H2_ := (Option.bind_some _ _).symm.trans H; with_reducible exact H2_) | with_reducible exact H | (rw [hy253]; exact H) | exact H
           have Ny253 := Zs.mk hy253
           clear hy253
           have H' := Zs.mk H
           clear H
           have hnb25 := NB249_244.out
           have hnc25 := NB244_249.out
           obtain ⟨hcz26_0, hcz26_1, hfz26_0, hfz26_1⟩ := cf2 BK249
           go_wp2_with (first | ((with_reducible refine gate_builtin (b := .append) (xs := #[.tmp 35, .tmp 37]) rfl ?_); at_builtin; refine Kd.R_append k74 (w0 := w) w.heap.size rfl (.tmp 35) (.tmp 37) 103 74 (.agg #[(.int .u64 0), (.int .u64 0)]) 16 rfl Tryz.underlying103 info74 rfl (by decide) (by omega) u6 x6_1 (⟨t246, t247⟩ : S74) [.int .u64 t246, .int .u64 t247] (fun k_ => k_ ≠ gb249) (fun _ => False) rfl rfl ?aP (fun _ hk => hk.elim) ?aF ?aO ?aB ?aS ?aL ?_; (case aP => exact k74_mkM _ _ _ (⟨t246, t247⟩ : S74)); (case aB => exact (blt HB).out); (case aF => exact (fun k_ hk => Kd.freshB (g := gb249) (o := .cells #[.int .u64 t246, .int .u64 t247] 74 (0, 0)) (bks BK249).out k_ hk)); (case aO => exact (by (with_reducible repeat (first | apply Kd.R_alloc | apply Kd.R_drewN | apply Kd.R_drew)); exact HO_6.out)); (case aS => exact (below_size (blt HB).out)); (case aL => have := LMc24.out; omega); intro v254 w27 ho hb hg hat; rw [← Ny253.out] at ho; have n0_ := Zs.mk (blk_grown (g := gb244) (o := .cells #[.int .i64 ((rd_T24 l1 x14_1).f0), .int .u64 ((rd_T24 l1 x14_1).f1), .int .u64 ((rd_T24 l1 x14_1).f2), .string ((rd_T24 l1 x14_1).f3)] 24 (0, 0)) (bks BK244).out hg (Kd.R_ne HO_6.out BK244.out (by decide))); have n1_ := Zs.mk (blk_grown (g := gb249) (o := .cells #[.int .u64 t246, .int .u64 t247] 74 (0, 0)) (bks BK249).out hg (Kd.R_away HO_6.out (fun _ hk => hk))); have n2_ := Zs.mk (hb); have n3_ := Zs.mk (ho); clear BK244; clear BK249; clear HB; clear HO_6; have BK244 := n0_; have BK249 := n1_; have HB := n2_; have HO255 := n3_; clear n0_ n1_ n2_ n3_; clear ho hb hg hat))
           go_roundg kj6
           case measure => have := HK1.out; have := HJ6.out; omega
           case rel => exact ⟨(y253), (wrap64 (x14_1 + 1)), (by first | rfl | (simp; done) | (simp [*]; done)), H', ⟨by have := HK1.out; have := HJ6.out; omega⟩, ⟨by (with_reducible repeat (first | apply Kd.R_alloc | apply Kd.R_drewN | apply Kd.R_drew)); exact Kd.R_mono HO255.out (fun _ hk => trivial)⟩, blt HB⟩
          ·rw [if_neg c24] at H
           exact absurd H (by simp)
         ·rw [if_neg c23] at H
          have c23b0 : (t248 == 0) = false := beq_eq_false_iff_ne.mpr c23
          have c23b1 : (t248 != 0) = true := bne_iff_ne.mpr c23
          simp only [Option.some.injEq, Prod.mk.injEq] at H
          obtain ⟨rfl, rfl⟩ := H
          go_wp2
          go_ret2
          exact ⟨_, by first | rfl | (simp [errW_none, errW_some] <;> rfl) | (simp [*, errW_none, errW_some] <;> rfl), by first | exact Kd.R_nil _ _ _ _ _ | exact Kd.N_nil _ _ _ _ _ | exact Kd.V_nil _ _ _ _ _ | exact Kd.Q_nil _ _ _ _ _ | exact Kd.S_nil _ _ _ _ _, (blt HB).out⟩
     ·rw [if_neg c5] at H
      exact absurd H (by simp)
    ·rw [if_neg c4] at H
     exact absurd H (by simp)
   ·rw [if_neg c3] at H
    have c3b0 : decide (x14_1 < (l1.length : Int)) = false := decide_eq_false c3
    clear c3
    simp only [Option.some.injEq, Prod.mk.injEq] at H
    obtain ⟨rfl, rfl⟩ := H
    go_wp2
    go_ret2
    exact ⟨_, by first | rfl | (simp [errW_none, errW_some] <;> rfl) | (simp [*, errW_none, errW_some] <;> rfl), by (with_reducible repeat (first | apply Kd.R_alloc | apply Kd.R_drewN | apply Kd.R_drew)); exact HO_6.out, (blt HB).out⟩
def fd_sum.f (a0 : Int) (l1 : List (S74)) : Option (Int × Int) := if l1.length = 1 then some ((rd_T74 l1 0).f0, (rd_T74 l1 0).f1) else none
set_option maxHeartbeats 8000000 in
set_option maxRecDepth 100000 in
theorem fd_sum.calls (a0 : Int) (A1 : Option Addr) (c1 : Nat) (l1 : List (S74)) (r1 : Int) (r2 : Int) (w : World) (hr1 : Kd.C k74 w A1 l1.length l1) (hc1 : l1.length ≤ c1) (h : fd_sum.f a0 l1 = some (r1, r2)) :
  Calls Tryz.prog 90 #[.int .i64 a0, .slice A1 l1.length c1] w fun e w' => e = .returned (.agg #[.int .u64 r1, .int .u64 r2]) ∧ Below w.heap.size w w' := by
 by_cases hl : l1.length = 1
 ·unfold fd_sum.f at h
  rw [if_pos hl] at h
  obtain ⟨x, rfl⟩ := List.length_eq_one_iff.1 hl
  have h := Option.some.inj h
  simp only [Prod.mk.injEq] at h
  obtain ⟨rfl, rfl⟩ := h
  generalize hy0 : (rd_T74 [x] 0).f0 = y0
  generalize hy1 : (rd_T74 [x] 0).f1 = y1
  have HR := Zs.mk hr1
  have HC := Zs.mk hc1
  clear hr1 hc1 hl
  by_cases hcap : c1 = 1
  all_goals
   go_enter Tryz.func90, Tryz.ntmps90
   go_upto_region 1 with (fail)
   refine B.hide0own (fun W n hn ho hlt hB => ?_)
   rw [hn]
   obtain ⟨ad, e, hx0, hx1⟩ := at_T74 (Kd.C_below HR.out hB) 0 (by simp) (by simp)
   cases e
   have ea : ad.add (((0 : Int)).toNat * 2) = ad := by cases ad; rfl
   rw [ea] at hx0 hx1
   rw [hy0] at hx0
   rw [hy1] at hx1
   go_upto_region 4 with (fail)
   refine B.hideLoc ho hlt hB (fun V gx hgx k0 k1 ho2 hB2 => ?_)
   rw [hgx]
   clear hx0 hx1 ho hlt hB
   go_wp2
   go_loop [18] (fun i => i = .int .i64 0) (fun _ => 0)
   case atStart => rfl
   case round =>
    subst hrel
    go_wp2
    have hr := B.Own.read2 (n := 0) ((ho2.set ⟨n, 0, none⟩ (.int .u64 y0)).set ⟨n, 1, none⟩ (.int .u64 y1))
    exact bodyPost_ret (v := .agg #[.int .u64 y0, .int .u64 y1]) (by simp [results, Tryz.results90, go_sem, hr.1, hr.2]) rfl ⟨rfl, by have hz := B.below_two hB2 (Nat.le_of_eq hn) (.int .u64 y0) (.int .u64 y1); rw [hn] at hz; exact hz⟩
 ·unfold fd_sum.f at h
  rw [if_neg hl] at h
  cases h
end Go.Proofs.YtmoimcblmmcffaaGreat.PPC

namespace Go.Proofs.YtmoimcblmmcffaaGreat.PPC
open Go.RowKit Go.Proofs.YtmoimcblmmcffaaGreatW.PrintWords Go.Proofs.YtmoimcblmmcffaaGreatW.PrintLast Go.Proofs.YtmoimcblmmcffaaGreatW.PrintMore Go.Proofs.YtmoimcblmmcffaaGreatW.PrintZ
attribute [local go_sem] max2_int min2_int max_two min_two max_three min_three max_four min_four   -- for this text's walks alone
set_option linter.unusedVariables false
set_option linter.unusedSimpArgs false


mutual
def cx_DotOf.j0 : Nat → Int → List (S24) → List (S24) → Int → Int → Option (Int × Int × Int × ByteArray × Int)
 | 0, _, _, _, _, _ => none
 | k + 1, x0, x1, x2, x8, x9 => if x9 = 0 then ((cx_list.f k x0 x1).bind fun bt259 => (if bt259.2 = 0 then ((cx_list.f k x0 x2).bind fun bt263 => (if bt263.2 = 0 then (cx_DotOf.l0 k x8 bt259.1 bt263.1 (bt259.1.length : Int) 0) else (some (0, 0, 0, (⟨#[]⟩ : ByteArray), bt263.2)))) else (some (0, 0, 0, (⟨#[]⟩ : ByteArray), bt259.2)))) else (some (0, 0, 0, (⟨#[]⟩ : ByteArray), x9))
def cx_DotOf.l0 : Nat → Int → List (S74) → List (S74) → Int → Int → Option (Int × Int × Int × ByteArray × Int)
 | 0, _, _, _, _, _ => none
 | k + 1, x8, x10, x11, x56, x57 => if x57 < x56 then (if 0 ≤ x57 then (if x57 < (x10.length : Int) then ((fd_conjugate.f x8 ((rd_T74 x10 x57).f0) ((rd_T74 x10 x57).f1)).bind fun bt268 => (if x57 < (x11.length : Int) then ((fd_times.f x8 bt268.1 bt268.2 ((rd_T74 x11 x57).f0) ((rd_T74 x11 x57).f1)).bind fun bt271 => (cx_DotOf.l0 k x8 (x10.set (x57 : Int).toNat (⟨bt271.1, bt271.2⟩ : S74)) x11 x56 (wrap64 (x57 + 1)))) else (none))) else (none)) else (none)) else ((fd_sum.f x8 x10).bind fun bt274 => ((fd_value.f x8 bt274.1 bt274.2).bind fun bt276 => (some (bt276.1, bt276.2.1, bt276.2.2.1, bt276.2.2.2, 0))))
end
def cx_DotOf.f (k : Nat) (a0 : Int) (l1 : List (S24)) (l2 : List (S24)) : Option (Int × Int × Int × ByteArray × Int) := (cx_partType.f a0).bind fun bt257 => (if bt257.2 = 0 then (if (l1.length : Int) = (l2.length : Int) then (if (l1.length : Int) > 40 then (cx_DotOf.j0 k a0 l1 l2 bt257.1 8) else (cx_DotOf.j0 k a0 l1 l2 bt257.1 bt257.2)) else (cx_DotOf.j0 k a0 l1 l2 bt257.1 10)) else (cx_DotOf.j0 k a0 l1 l2 bt257.1 bt257.2))
def cx_DotOf.T18 : Bool × List (List Nat × List Nat) := (true, [([], []), ([], []), ([], []), ([], []), ([], []), ([], []), ([4, 5], [4, 5]), ([6], [6]), ([3, 7], [3, 7]), ([], []), ([], []), ([9, 10], [9, 10]), ([11], [11]), ([2, 8, 12, 8], [2, 8, 12]), ([0, 1, 0, 1, 2, 3, 4, 5, 6, 7, 8, 9, 10, 11, 12, 13], [0, 1]), ([14, 13, 13, 0, 1, 2, 3, 4, 5, 6, 7, 8, 9, 10, 11, 12, 13], [13, 14])])
def cx_DotOf.B18 : List Nat := [0, 0, 0, 0, 0, 0, 48, 112, 248, 0, 0, 1536, 3584, 8188, 16383, 32767]
theorem cx_DotOf.tab18 : rtab .any (opsOf Tryz.f38 18) = cx_DotOf.T18 := by kernel_rfl
theorem cx_DotOf.bits18 : waitsOk cx_DotOf.T18.2 cx_DotOf.B18 = true := by kernel_rfl
set_option maxHeartbeats 8000000 in
set_option maxRecDepth 100000 in
theorem cx_DotOf.calls (k : Nat) (a0 : Int) (A1 : Option Addr) (c1 : Nat) (l1 : List (S24)) (A2 : Option Addr) (c2 : Nat) (l2 : List (S24)) (r1 : Int) (r2 : Int) (r3 : Int) (r4 : ByteArray) (r5 : Int) (w : World) (hr1 : Kd.C k24 w A1 l1.length l1) (hc1 : l1.length ≤ c1) (hr2 : Kd.C k24 w A2 l2.length l2) (hc2 : l2.length ≤ c2) (h : cx_DotOf.f k a0 l1 l2 = some (r1, r2, r3, r4, r5)) :
  Calls Tryz.prog 38 #[.int .i64 a0, .slice A1 l1.length c1, .slice A2 l2.length c2] w fun e w' => e = .returned (.tuple #[.agg #[.int .i64 r1, .int .u64 r2, .int .u64 r3, .string r4], .int .i64 r5]) ∧ Below w.heap.size w w' := by
 have hu24 := Tryz.underlying24
 have hu74 := Tryz.underlying74
 have HR1 := Zs.mk hr1
 have HC1 := Zs.mk hc1
 clear hr1 hc1
 have HR2 := Zs.mk hr2
 have HC2 := Zs.mk hc2
 clear hr2 hc2
 have HB := Zs.mk (Below.refl w.heap.size w)
 have H : ((cx_partType.f a0).bind fun bt257 => (if bt257.2 = 0 then (if (l1.length : Int) = (l2.length : Int) then (if (l1.length : Int) > 40 then (cx_DotOf.j0 k a0 l1 l2 bt257.1 8) else (cx_DotOf.j0 k a0 l1 l2 bt257.1 bt257.2)) else (cx_DotOf.j0 k a0 l1 l2 bt257.1 10)) else (cx_DotOf.j0 k a0 l1 l2 bt257.1 bt257.2))) = some (r1, r2, r3, r4, r5) := h
 clear h
 replace H := Option.bind_eq_some_iff.mp H
 obtain ⟨⟨t257, t258⟩, A4, H⟩ := H
 try dsimp only at H
 replace A4 := Zs.mk A4
 have HC5 := Zs.mk H
 clear H
 go_enter Tryz.func38, Tryz.ntmps38
 go_upto_block 0 with (first | ((with_reducible refine gd_ (N := 6) rfl ?_); refine bxe 6 (cs := #[.int .i64 0, .int .u64 0, .int .u64 0, .string (⟨#[]⟩ : ByteArray)]) (t := 24) ?_; intro gb256 hg w6 hbox hb; have BK256 := Zs.mk hbox; have GW256 := bsz HB hg; have GE256 := bsz HB hg; replace HB := bls HB hb; clear hb hbox hg) | ((with_reducible refine gc_ (f := 88) rfl ?_); refine gLc 15 Tryz.func88 (cx_partType.calls a0 t257 t258 _ A4.out) (fun w7 hb => ?_); replace BK256 := bkb BK256 hb; replace HB := bls HB hb; clear hb))
 (try simp only [Act.put, List.setIfInBounds_toArray, List.set_cons_zero, List.set_cons_succ])
 go_cut [9] (fun v9 wc => ∃ (kq : Nat) (x9_4 : Int), v9 = .int .i64 x9_4 ∧ Zs (cx_DotOf.j0 kq a0 l1 l2 t257 x9_4 = some (r1, r2, r3, r4, r5)) ∧ Zs (kq ≤ k) ∧ Zs (wc.heap[gb256]? = some (.cells #[.int .i64 0, .int .u64 0, .int .u64 0, .string (⟨#[]⟩ : ByteArray)] 24 (0, 0))) ∧ Zs (Below w.heap.size w wc))
 case first =>
  have H := HC5.out
  clear HC5
  by_cases c8 : t258 = 0
  ·rw [if_pos c8] at H
   have c8b0 : (t258 == 0) = true := beq_iff_eq.mpr c8
   have c8b1 : (t258 != 0) = false := bne_eq_false_iff_eq.mpr c8
   clear c8
   (first | rw [c8b0] | (simp only [i64_w, i32_w]; rw [c8b0]) | skip)
   by_cases c9 : (l1.length : Int) = (l2.length : Int)
   ·rw [if_pos c9] at H
    have c9b0 : ((l1.length : Int) == (l2.length : Int)) = true := beq_iff_eq.mpr c9
    have c9b1 : ((l1.length : Int) != (l2.length : Int)) = false := bne_eq_false_iff_eq.mpr c9
    have c9b2 : (l1.length == l2.length) = true := by first | simpa using c9 | (simp at c9 ⊢; omega)
    clear c9
    by_cases c10 : (l1.length : Int) > 40
    ·rw [if_pos c10] at H
     have c10b0 : decide (40 < (l1.length : Int)) = true := decide_eq_true c10
     have c10b1 : decide (40 < l1.length) = true := decide_eq_true (by omega)
     clear c10
     have H' := Zs.mk H
     clear H
     go_wp2
     go_meet
     case rel => exact ⟨_, (8), (by first | rfl | (simp; done) | (simp [*]; done)), H', ⟨by first | omega | exact Nat.le_refl _⟩, bks BK256, blt HB⟩
    ·rw [if_neg c10] at H
     have c10b0 : decide (40 < (l1.length : Int)) = false := decide_eq_false c10
     have c10b1 : decide (40 < l1.length) = false := decide_eq_false (by omega)
     clear c10
     have H' := Zs.mk H
     clear H
     go_wp2
     go_meet
     case rel => exact ⟨_, (t258), (by first | rfl | (simp; done) | (simp [*]; done)), H', ⟨by first | omega | exact Nat.le_refl _⟩, bks BK256, blt HB⟩
   ·rw [if_neg c9] at H
    have c9b0 : ((l1.length : Int) == (l2.length : Int)) = false := beq_eq_false_iff_ne.mpr c9
    have c9b1 : ((l1.length : Int) != (l2.length : Int)) = true := bne_iff_ne.mpr c9
    have c9b2 : (l1.length == l2.length) = false := by first | simpa using c9 | (simp at c9 ⊢; omega)
    have H' := Zs.mk H
    clear H
    go_wp2
    go_meet
    case rel => exact ⟨_, (10), (by first | rfl | (simp; done) | (simp [*]; done)), H', ⟨by first | omega | exact Nat.le_refl _⟩, bks BK256, blt HB⟩
  ·rw [if_neg c8] at H
   have c8b0 : (t258 == 0) = false := beq_eq_false_iff_ne.mpr c8
   have c8b1 : (t258 != 0) = true := bne_iff_ne.mpr c8
   (first | rw [c8b0] | (simp only [i64_w, i32_w]; rw [c8b0]) | skip)
   have H' := Zs.mk H
   clear H
   go_wp2
   go_meet
   case rel => exact ⟨_, (t258), (by first | rfl | (simp; done) | (simp [*]; done)), H', ⟨by first | omega | exact Nat.le_refl _⟩, bks BK256, blt HB⟩
 case rest =>
  clear HC5
  try clear c1
  try clear c2
  try clear p2
  try clear c3
  try clear c8
  try clear c8b0
  try clear c8b1
  try clear c9
  try clear c9b0
  try clear c9b1
  try clear c9b2
  try clear c10
  try clear c10b0
  try clear c10b1
  obtain ⟨kq, x9_4, rfl, HA, HJ4, BK256, HB⟩ := hcut
  cases kq with
  | zero => exact absurd HA.out (by simp [cx_DotOf.j0])
  | succ kj4 =>
   have H := HA.out
   clear HA
   simp only [cx_DotOf.j0] at H
   by_cases c11 : x9_4 = 0
   ·rw [if_pos c11] at H
    have c11b0 : (x9_4 == 0) = true := beq_iff_eq.mpr c11
    have c11b1 : (x9_4 != 0) = false := bne_eq_false_iff_eq.mpr c11
    clear c11
    replace H := Option.bind_eq_some_iff.mp H
    obtain ⟨⟨t259, t260⟩, A12, H⟩ := H
    try dsimp only at H
    replace A12 := Zs.mk A12
    by_cases c13 : t260 = 0
    ·rw [if_pos c13] at H
     have c13b0 : (t260 == 0) = true := beq_iff_eq.mpr c13
     have c13b1 : (t260 != 0) = false := bne_eq_false_iff_eq.mpr c13
     clear c13
     replace H := Option.bind_eq_some_iff.mp H
     obtain ⟨⟨t263, t264⟩, A14, H⟩ := H
     try dsimp only at H
     replace A14 := Zs.mk A14
     by_cases c15 : t264 = 0
     ·rw [if_pos c15] at H
      have c15b0 : (t264 == 0) = true := beq_iff_eq.mpr c15
      have c15b1 : (t264 != 0) = false := bne_eq_false_iff_eq.mpr c15
      clear c15
      have H' := Zs.mk H
      clear H
      go_wp2_with (first | ((with_reducible refine gc_ (f := 89) rfl ?_); refine gL 38 Tryz.func89 #[.int .i64 a0, .slice A1 l1.length c1] ?_; (with_reducible refine (cx_list.calls kj4 a0 _ _ l1 t259 t260 _ ?side1 ?side2 A12.out).mono ?_); (case side1 => repeat (first | exact (Kd.C_below HR1.out HB.out) | (with_reducible refine Kd.C_alloc ?_ _) | (with_reducible refine Kd.C_drewN ?_ _) | (with_reducible refine Kd.C_drew ?_))); (case side2 => exact HC1.out); rintro e w16 ⟨v261, rfl, ho0, hb⟩; refine ⟨_, rfl, ?_⟩; have HO262 := Zs.mk (Kd.R_lower ho0 (below_size (blt HB).out)); replace BK256 := bkb BK256 hb; replace HB := bls HB hb; (try clear hb); (try clear hb2); (try clear hk); (try clear hi); (try clear ho0)) | ((with_reducible refine gc_ (f := 89) rfl ?_); refine gL 48 Tryz.func89 #[.int .i64 a0, .slice A2 l2.length c2] ?_; (with_reducible refine (cx_list.calls kj4 a0 _ _ l2 t263 t264 _ ?side1 ?side2 A14.out).mono ?_); (case side1 => repeat (first | exact (Kd.C_below HR2.out HB.out) | (with_reducible refine Kd.C_alloc ?_ _) | (with_reducible refine Kd.C_drewN ?_ _) | (with_reducible refine Kd.C_drew ?_))); (case side2 => exact HC2.out); rintro e w17 ⟨v265, rfl, ho0, hb⟩; refine ⟨_, rfl, ?_⟩; have HO266 := Zs.mk (Kd.R_lower (Kd.R_new' ho0 (Kd.R_lt (by (with_reducible repeat (first | apply Kd.R_alloc | apply Kd.R_drewN | apply Kd.R_drew)); exact HO262.out))) (below_size (blt HB).out)); replace HO262 := Zs.mk (Kd.R_elder' (by (with_reducible repeat (first | apply Kd.R_alloc | apply Kd.R_drewN | apply Kd.R_drew)); exact HO262.out) (Kd.R_base ho0) hb); replace BK256 := bkb BK256 hb; replace HB := bls HB hb; (try clear hb); (try clear hb2); (try clear hk); (try clear hi); (try clear ho0); obtain ⟨Ao18, co18, eo18⟩ := Kd.R_slice HO262.out; subst eo18))
      go_loopg [57] kj4 (fun kq v57 w' => ∃ (x10_2 : List (S74)) (x57_2 : Int), v57 = .int .i64 x57_2 ∧ Zs (cx_DotOf.l0 kq t257 x10_2 t263 (t259.length : Int) x57_2 = some (r1, r2, r3, r4, r5)) ∧ Zs (kq ≤ kj4) ∧ Zs (Kd.R k74 74 w' w.heap.size (fun k_ => some k_ ≠ (v265 : Value).ownBlock) (.slice Ao18 t259.length co18) x10_2) ∧ Zs (Kd.R k74 74 w' w.heap.size (fun k_ => some k_ ≠ ((.slice Ao18 t259.length co18) : Value).ownBlock) v265 t263) ∧ Zs (w'.heap[gb256]? = some (.cells #[.int .i64 0, .int .u64 0, .int .u64 0, .string (⟨#[]⟩ : ByteArray)] 24 (0, 0))) ∧ Zs (Below w.heap.size w w'))
      case atStart => exact ⟨(t259), (0), (by first | rfl | (simp; done) | (simp [*]; done)), H', ⟨Nat.le_refl _⟩, ⟨by (with_reducible repeat (first | apply Kd.R_alloc | apply Kd.R_drewN | apply Kd.R_drew)); exact Kd.R_mono HO262.out (fun _ hk => hk.2)⟩, ⟨by (with_reducible repeat (first | apply Kd.R_alloc | apply Kd.R_drewN | apply Kd.R_drew)); exact Kd.R_mono HO266.out (fun _ hk => hk.2)⟩, bks BK256, blt HB⟩
      case round =>
       clear H'
       try clear c1
       try clear c2
       try clear p2
       try clear c3
       try clear c8
       try clear c8b0
       try clear c8b1
       try clear c9
       try clear c9b0
       try clear c9b1
       try clear c9b2
       try clear c10
       try clear c10b0
       try clear c10b1
       try clear c11
       try clear c11b0
       try clear c11b1
       try clear c13
       try clear c13b0
       try clear c13b1
       try clear c15
       try clear c15b0
       try clear c15b1
       try clear p2
       obtain ⟨x10_2, x57_2, rfl, HA, HK2, HO_10, HO_11, BK256, HB⟩ := hrel
       have hl10_2 := (Kd.R_reads' HO_10.out).1
       rw [hl10_2] at HO_10
       (try simp only [hl10_2])
       (try simp only [hl10_2] at BK256)
       (try simp only [hl10_2] at HO_11)
       cases gk with
       | zero => exact absurd HA.out (by simp [cx_DotOf.l0])
       | succ k2 =>
        have H := HA.out
        clear HA
        simp only [cx_DotOf.l0] at H
        by_cases c19 : x57_2 < (t259.length : Int)
        ·rw [if_pos c19] at H
         have c19b0 : decide (x57_2 < (t259.length : Int)) = true := decide_eq_true c19
         clear c19
         by_cases c20 : 0 ≤ x57_2
         ·rw [if_pos c20] at H
          have c20b0 : decide (0 ≤ x57_2) = true := decide_eq_true c20
          clear c20
          by_cases c21 : x57_2 < (x10_2.length : Int)
          ·rw [if_pos c21] at H
           have c21b0 : decide (x57_2 < (x10_2.length : Int)) = true := decide_eq_true c21
           clear c21
           replace H := Option.bind_eq_some_iff.mp H
           obtain ⟨⟨t268, t269⟩, A22, H⟩ := H
           try dsimp only at H
           replace A22 := Zs.mk A22
           by_cases c23 : x57_2 < (t263.length : Int)
           ·rw [if_pos c23] at H
            have c23b0 : decide (x57_2 < (t263.length : Int)) = true := decide_eq_true c23
            clear c23
            replace H := Option.bind_eq_some_iff.mp H
            obtain ⟨⟨t271, t272⟩, A24, H⟩ := H
            try dsimp only at H
            replace A24 := Zs.mk A24
            obtain ⟨y273, hy273⟩ : ∃ y_ : List (S74), y_ = (x10_2.set (x57_2 : Int).toNat (⟨t271, t272⟩ : S74)) := ⟨_, rfl⟩
            replace H : (cx_DotOf.l0 k2 t257 y273 t263 (t259.length : Int) (wrap64 (x57_2 + 1))) = some (r1, r2, r3, r4, r5) := by first | (rw [hy273]; with_reducible exact H) | (have H2_ := (Option.bind_some _ _).symm.trans H; rw [hy273]; with_reducible exact H2_) | (have H2_ := (Option.bind_some _ _).symm.trans H; with_reducible exact H2_) | with_reducible exact H | (rw [hy273]; exact H) | exact H
            have Ny273 := Zs.mk hy273
            clear hy273
            have H' := Zs.mk H
            clear H
            try go_wp2
            replace HO_10 := Zs.mk (Kd.R_drew HO_10.out)
            replace HO_11 := Zs.mk (Kd.R_drew HO_11.out)
            replace BK256 := Zs.mk (zd BK256.out)
            replace HB := Zs.mk (below_drew1 HB.out)
            have p267 : 0 ≤ (x57_2 : Int) := of_decide_eq_true (by first | (with_reducible assumption) | assumption)
            have q267 : x57_2 < (x10_2.length : Int) := of_decide_eq_true (by first | (with_reducible assumption) | assumption)
            obtain ⟨ad267, e267, hx267_0, hx267_1⟩ := at_T74 (Kd.R_reads' HO_10.out).2.2 x57_2 p267 q267
            cases e267
            replace p267 := eq_true p267
            replace q267 := eq_true q267
            obtain ⟨Ao27, co27, eo27⟩ := Kd.R_slice HO_11.out
            (first | subst eo27 | (injection eo27 with f1_ f2_ f3_; have f4_ := f1_.symm; have f5_ := f3_.symm; clear f1_ f2_ f3_; subst f4_; subst f5_))
            have p270 : 0 ≤ (x57_2 : Int) := of_decide_eq_true (by first | (with_reducible assumption) | assumption)
            have q270 : x57_2 < (t263.length : Int) := of_decide_eq_true (by first | (with_reducible assumption) | assumption)
            obtain ⟨ad270, e270, hx270_0, hx270_1⟩ := at_T74 (Kd.R_reads' HO_11.out).2.2 x57_2 p270 q270
            cases e270
            replace p270 := eq_true p270
            replace q270 := eq_true q270
            refine start_ (n := 16) (S := fun w' => w'.cell? (ad267.add ((x57_2).toNat * 2)) = some (.int .u64 ((rd_T74 x10_2 x57_2).f0)) ∧ w'.cell? ⟨(ad267.add ((x57_2).toNat * 2)).block, (ad267.add ((x57_2).toNat * 2)).off + 1, none⟩ = some (.int .u64 ((rd_T74 x10_2 x57_2).f1)) ∧ w'.cell? (ad270.add ((x57_2).toNat * 2)) = some (.int .u64 ((rd_T74 t263 x57_2).f0)) ∧ w'.cell? ⟨(ad270.add ((x57_2).toNat * 2)).block, (ad270.add ((x57_2).toNat * 2)).off + 1, none⟩ = some (.int .u64 ((rd_T74 t263 x57_2).f1))) (ds := [15]) #[false, false, false, false, false, false, false, false, false, false, false, false, false, false, false, false] (by kernel_rfl) rfl rfl ⟨hx267_0, hx267_1, hx270_0, hx270_1⟩ (fun hHeld => ?_); refine with_tabW cx_DotOf.tab18 cx_DotOf.bits18 (fun HT_ HW_ => ?_)
            generalize wr.drew = w26 at HO_10 HO_11 BK256 HB hx267_0 hx267_1 hx270_0 hx270_1 hHeld ⊢
            refine pu 0 60 HT_ ?_
            refine pu 1 61 HT_ ?_
            refine pu 2 62 HT_ ?_
            refine pu 3 63 HT_ ?_
            refine pu 4 64 HT_ ?_
            refine pu 5 65 HT_ ?_
            refine pu 6 66 HT_ ?_
            refine pu 9 69 HT_ ?_
            refine pu 10 70 HT_ ?_
            refine pu 11 71 HT_ ?_
            refine tk 7 67 HT_ HW_ hHeld ?_
            refine tk 12 72 HT_ HW_ hHeld ?_
            refine on 8 68 HT_ (fun K hK => ?_)
            refine goes_ Tryz.func78 (by kernel_rfl) rfl #[.int .i64 t257, .agg #[.int .u64 ((rd_T74 x10_2 x57_2).f0), .int .u64 ((rd_T74 x10_2 x57_2).f1)]] (by rfl) rfl rfl (by (try simp only [List.map_toArray, List.map_cons, List.map_nil]); first | done | rfl | (simp only [List.length_drop, List.length_take]; rfl)) ?_
            with_reducible refine (fd_conjugate.calls t257 ((rd_T74 x10_2 x57_2).f0) ((rd_T74 x10_2 x57_2).f1) t268 t269 _ A22.out).mono ?_
            rintro e w28 ⟨rfl, hb⟩
            have HS0_ := (hb.cell (World.block_lt_of_cell? _ _ (hHeld.1))).trans (hHeld.1)
            have HS1_ := (hb.cell (World.block_lt_of_cell? _ _ (hHeld.2.1))).trans (hHeld.2.1)
            have HS2_ := (hb.cell (World.block_lt_of_cell? _ _ (hHeld.2.2.1))).trans (hHeld.2.2.1)
            have HS3_ := (hb.cell (World.block_lt_of_cell? _ _ (hHeld.2.2.2))).trans (hHeld.2.2.2)
            refine ⟨_, rfl, ?_⟩
            replace HO_10 := Zs.mk (Kd.R_below (by (with_reducible repeat (first | apply Kd.R_alloc | apply Kd.R_drewN | apply Kd.R_drew)); exact HO_10.out) hb)
            replace HO_11 := Zs.mk (Kd.R_below (by (with_reducible repeat (first | apply Kd.R_alloc | apply Kd.R_drewN | apply Kd.R_drew)); exact HO_11.out) hb)
            replace BK256 := bkb BK256 hb
            replace HB := bls HB hb
            (try clear hb)
            (try clear hb2)
            (try clear hk)
            (try clear hi)
            refine hK.out _ _ ⟨HS0_, HS1_, HS2_, HS3_⟩ (fun hHeld => ?_)
            clear hK K
            refine nm 68 ?_
            refine on 13 73 HT_ (fun K hK => ?_)
            refine goes_ Tryz.func55 (by kernel_rfl) rfl #[.int .i64 t257, .agg #[.int .u64 t268, .int .u64 t269], .agg #[.int .u64 ((rd_T74 t263 x57_2).f0), .int .u64 ((rd_T74 t263 x57_2).f1)]] (by rfl) rfl rfl (by (try simp only [List.map_toArray, List.map_cons, List.map_nil]); first | done | rfl | (simp only [List.length_drop, List.length_take]; rfl)) ?_
            with_reducible refine (fd_times.calls t257 t268 t269 ((rd_T74 t263 x57_2).f0) ((rd_T74 t263 x57_2).f1) t271 t272 _ A24.out).mono ?_
            rintro e w29 ⟨rfl, hb⟩
            have HS0_ := (hb.cell (World.block_lt_of_cell? _ _ (hHeld.1))).trans (hHeld.1)
            have HS1_ := (hb.cell (World.block_lt_of_cell? _ _ (hHeld.2.1))).trans (hHeld.2.1)
            have HS2_ := (hb.cell (World.block_lt_of_cell? _ _ (hHeld.2.2.1))).trans (hHeld.2.2.1)
            have HS3_ := (hb.cell (World.block_lt_of_cell? _ _ (hHeld.2.2.2))).trans (hHeld.2.2.2)
            refine ⟨_, rfl, ?_⟩
            replace HO_10 := Zs.mk (Kd.R_below (by (with_reducible repeat (first | apply Kd.R_alloc | apply Kd.R_drewN | apply Kd.R_drew)); exact HO_10.out) hb)
            replace HO_11 := Zs.mk (Kd.R_below (by (with_reducible repeat (first | apply Kd.R_alloc | apply Kd.R_drewN | apply Kd.R_drew)); exact HO_11.out) hb)
            replace BK256 := bkb BK256 hb
            replace HB := bls HB hb
            (try clear hb)
            (try clear hb2)
            (try clear hk)
            (try clear hi)
            have p25 : 0 ≤ (x57_2 : Int) := of_decide_eq_true (by first | (with_reducible assumption) | assumption)
            have q25 : (x57_2 : Int) < ((x10_2.length : Int) : Int) := of_decide_eq_true (by first | (with_reducible assumption) | assumption)
            obtain ⟨go25, co25, eo25, gb25, gl25, cl25, HG25⟩ := Kd.R_form HO_10.out (by omega)
            (first | cases eo25 | (injection eo25 with ea_ en_ ec_; (first | subst ea_ | (injection ea_ with ea_; subst ea_)); subst ec_; clear en_))
            have GB25 := Zs.mk gb25
            have GG25 := Zs.mk HG25
            clear gb25 gl25 HG25
            (first | simp only [add_plain] at hx267_0 | skip)
            (first | simp only [add_plain] at hx267_1 | skip)
            obtain ⟨ce25, hcl25, hM25, hcc25, hfr25⟩ := Kd.R_elem HO_10.out z74 (x57_2 : Int) p25 q25
            obtain rfl := k74_openM hM25
            have hx25_0 : World.cell? _ ⟨go25, (x57_2 : Int).toNat * 2, none⟩ = some (.int .u64 ((rd_T74 x10_2 x57_2).f0)) := hcc25 0 _ rfl
            have hx25_1 : World.cell? _ ⟨go25, (x57_2 : Int).toNat * 2 + 1, none⟩ = some (.int .u64 ((rd_T74 x10_2 x57_2).f1)) := hcc25 1 _ rfl
            have hf25_0 : World.frozen? _ ⟨go25, (x57_2 : Int).toNat * 2, none⟩ = false := hfr25 0
            have hf25_1 : World.frozen? _ ⟨go25, (x57_2 : Int).toNat * 2 + 1, none⟩ = false := hfr25 1
            clear hcl25 hcc25 hfr25 hM25
            replace p25 := eq_true p25
            replace q25 := eq_true q25
            obtain ⟨ce30, hcl30, hM30, hcc30, hfr30⟩ := Kd.R_elem HO_10.out z74 (x57_2 : Int) (of_decide_eq_true (by first | (with_reducible assumption) | assumption)) (by have h_ : (x57_2 : Int) < ((x10_2.length : Int) : Int) := of_decide_eq_true (by first | (with_reducible assumption) | assumption); first | exact h_ | (have e_ := (Kd.R_reads' HO_10.out).1; omega) | simpa using h_)
            obtain rfl := k74_openM hM30
            have HP30 := (Kd.R_seg HO_10.out (x57_2 : Int) (of_decide_eq_true (by first | (with_reducible assumption) | assumption)) (by have h_ : (x57_2 : Int) < ((x10_2.length : Int) : Int) := of_decide_eq_true (by first | (with_reducible assumption) | assumption); first | exact h_ | (have e_ := (Kd.R_reads' HO_10.out).1; omega) | simpa using h_) (seg := [.int .u64 t271, .int .u64 t272]) (j := 0) hcl30 hcc30 (show 2 ≤ 2 from by decide) (x' := (⟨t271, t272⟩ : S74)) (k74_mkM _ _ _ (⟨t271, t272⟩ : S74) ) (fun _ hk => hk)).1
            rw [← Ny273.out] at HP30
            have HQ30 := Zs.mk HP30
            clear hcl30 hcc30 hfr30 hM30 HP30
            refine hK.out _ _ ⟨HS0_, HS1_, HS2_, HS3_⟩ (fun hHeld => ?_)
            clear hK K
            refine nm 73 ?_
            refine pu 14 74 HT_ ?_
            refine last_ (i := 15) (N := none) #[true, true, true, true, true, true, true, true, true, true, true, true, true, true, true, true] rfl rfl (one_of HT_.out (by kernel_rfl)) (by decide) (fun K hK => ?_)
            refine skip_ (w1 := ?_) (by rfl) rfl ?_ ?_
            rotate_left
            ·go_simp
             rfl
            refine hK.out _ _ ?_
            clear hK K
            refine done_ (done_of HT_.out (by kernel_rfl)) ?_
            try go_wp2
            (try simp only [← hl10_2])
            go_roundg k2
            case measure => have := HJ4.out; have := HK2.out; omega
            case rel => exact ⟨(y273), (wrap64 (x57_2 + 1)), (by first | rfl | (simp; done) | (simp [*]; done)), H', ⟨by have := HJ4.out; have := HK2.out; omega⟩, ⟨by (try simp only [hl10_2]); (with_reducible repeat (first | apply Kd.R_alloc | apply Kd.R_drewN | apply Kd.R_drew)); exact HQ30.out⟩, ⟨by (try simp only [hl10_2]); (with_reducible repeat (first | apply Kd.R_alloc | apply Kd.R_drewN | apply Kd.R_drew)); exact Kd.R_mono (Kd.R_far (p := ⟨go25, (x57_2 : Int).toNat * 2 + 1, none⟩) (Kd.R_far (p := ⟨go25, (x57_2 : Int).toNat * 2, none⟩) (Kd.R_mono HO_11.out (fun k_ hk => (⟨hk, fun e_ => hk (by rw [e_]; rfl)⟩ : _ ∧ k_ ≠ go25))) (fun _ hk => hk.2) (.int .u64 t271)) (fun _ hk => hk.2) (.int .u64 t272)) (fun _ hk => hk.1)⟩, ⟨by (try simp only [hl10_2]); (with_reducible repeat (first | refine zn ?_ _ | refine zd ?_ | refine za ?_ _)); refine blk_far ?_ (by have h_ := Kd.R_ne HO_10.out BK256.out (by decide); intro e_; exact h_ (by rw [e_]; rfl)) _; (with_reducible repeat (first | refine zn ?_ _ | refine zd ?_ | refine za ?_ _)); refine blk_far ?_ (by have h_ := Kd.R_ne HO_10.out BK256.out (by decide); intro e_; exact h_ (by rw [e_]; rfl)) _; (with_reducible repeat (first | refine zn ?_ _ | refine zd ?_ | refine za ?_ _)); exact BK256.out⟩, ⟨by repeat (first | (with_reducible first | exact HB.out | apply below_alloc | apply pw_below_drewN | apply below_drew1 | refine below_set ?_ GB25.out | refine below_set ?_ GB25.out | refine below_set ?_ GE256.out) | exact HB.out)⟩⟩
           ·rw [if_neg c23] at H
            exact absurd H (by simp)
          ·rw [if_neg c21] at H
           exact absurd H (by simp)
         ·rw [if_neg c20] at H
          exact absurd H (by simp)
        ·rw [if_neg c19] at H
         have c19b0 : decide (x57_2 < (t259.length : Int)) = false := decide_eq_false c19
         (try simp only [hl10_2] at c19b0)
         clear c19
         replace H := Option.bind_eq_some_iff.mp H
         obtain ⟨⟨t274, t275⟩, A31, H⟩ := H
         try dsimp only at H
         replace A31 := Zs.mk A31
         replace H := Option.bind_eq_some_iff.mp H
         obtain ⟨⟨t276, t277, t278, t279⟩, A32, H⟩ := H
         try dsimp only at H
         replace A32 := Zs.mk A32
         simp only [Option.some.injEq, Prod.mk.injEq] at H
         obtain ⟨rfl, rfl, rfl, rfl, rfl⟩ := H
         go_wp2_with (first | ((with_reducible refine gc_ (f := 90) rfl ?_); refine gL 79 Tryz.func90 #[.int .i64 t257, .slice Ao18 x10_2.length co18] ?_; (with_reducible refine (fd_sum.calls t257 _ _ x10_2 t274 t275 _ ?side1 ?side2 A31.out).mono ?_); (case side1 => repeat (first | exact (Kd.R_reads' HO_10.out).2.2 | (with_reducible refine Kd.C_alloc ?_ _) | (with_reducible refine Kd.C_drewN ?_ _) | (with_reducible refine Kd.C_drew ?_))); (case side2 => exact (Kd.R_reads' HO_10.out).2.1); rintro e w33 ⟨rfl, hb⟩; refine ⟨_, rfl, ?_⟩; replace HO_10 := Zs.mk (Kd.R_below (by (with_reducible repeat (first | apply Kd.R_alloc | apply Kd.R_drewN | apply Kd.R_drew)); exact HO_10.out) hb); replace HO_11 := Zs.mk (Kd.R_below (by (with_reducible repeat (first | apply Kd.R_alloc | apply Kd.R_drewN | apply Kd.R_drew)); exact HO_11.out) hb); replace BK256 := bkb BK256 hb; replace HB := bls HB hb; clear hb) | ((with_reducible refine gc_ (f := 57) rfl ?_); refine gLc 80 Tryz.func57 (fd_value.calls t257 t274 t275 t276 t277 t278 t279 _ A32.out) (fun w34 hb => ?_); replace HO_10 := Zs.mk (Kd.R_below (by (with_reducible repeat (first | apply Kd.R_alloc | apply Kd.R_drewN | apply Kd.R_drew)); exact HO_10.out) hb); replace HO_11 := Zs.mk (Kd.R_below (by (with_reducible repeat (first | apply Kd.R_alloc | apply Kd.R_drewN | apply Kd.R_drew)); exact HO_11.out) hb); replace BK256 := bkb BK256 hb; replace HB := bls HB hb; clear hb; obtain ⟨hcz35_0, hcz35_1, hcz35_2, hcz35_3, hfz35_0, hfz35_1, hfz35_2, hfz35_3⟩ := cf4 BK256))
         refine bodyPost_ret (results_ct rfl _ _ gb256 24 #[.int .i64 t276, .int .u64 t277, .int .u64 t278, .string t279] (0, 0) _ rfl (by (with_reducible repeat (first | refine zn ?_ _ | refine zd ?_ | refine za ?_ _)); apply bp4; (with_reducible repeat (first | refine zn ?_ _ | refine zd ?_ | refine za ?_ _)); exact BK256.out) Tryz.underlying24 rfl (by kernel_rfl)) rfl ?_
         exact fin_ (blt HB)
     ·rw [if_neg c15] at H
      have c15b0 : (t264 == 0) = false := beq_eq_false_iff_ne.mpr c15
      have c15b1 : (t264 != 0) = true := bne_iff_ne.mpr c15
      simp only [Option.some.injEq, Prod.mk.injEq] at H
      obtain ⟨rfl, rfl, rfl, rfl, rfl⟩ := H
      go_wp2_with (first | ((with_reducible refine gc_ (f := 89) rfl ?_); refine gL 38 Tryz.func89 #[.int .i64 a0, .slice A1 l1.length c1] ?_; (with_reducible refine (cx_list.calls kj4 a0 _ _ l1 t259 t260 _ ?side1 ?side2 A12.out).mono ?_); (case side1 => repeat (first | exact (Kd.C_below HR1.out HB.out) | (with_reducible refine Kd.C_alloc ?_ _) | (with_reducible refine Kd.C_drewN ?_ _) | (with_reducible refine Kd.C_drew ?_))); (case side2 => exact HC1.out); rintro e w36 ⟨v261, rfl, ho0, hb⟩; refine ⟨_, rfl, ?_⟩; have HO262 := Zs.mk (Kd.R_lower ho0 (below_size (blt HB).out)); replace BK256 := bkb BK256 hb; replace HB := bls HB hb; (try clear hb); (try clear hb2); (try clear hk); (try clear hi); (try clear ho0)) | ((with_reducible refine gc_ (f := 89) rfl ?_); refine gL 48 Tryz.func89 #[.int .i64 a0, .slice A2 l2.length c2] ?_; (with_reducible refine (cx_list.calls kj4 a0 _ _ l2 t263 t264 _ ?side1 ?side2 A14.out).mono ?_); (case side1 => repeat (first | exact (Kd.C_below HR2.out HB.out) | (with_reducible refine Kd.C_alloc ?_ _) | (with_reducible refine Kd.C_drewN ?_ _) | (with_reducible refine Kd.C_drew ?_))); (case side2 => exact HC2.out); rintro e w37 ⟨v265, rfl, ho0, hb⟩; refine ⟨_, rfl, ?_⟩; have HO266 := Zs.mk (Kd.R_lower (Kd.R_new' ho0 (Kd.R_lt (by (with_reducible repeat (first | apply Kd.R_alloc | apply Kd.R_drewN | apply Kd.R_drew)); exact HO262.out))) (below_size (blt HB).out)); replace HO262 := Zs.mk (Kd.R_elder' (by (with_reducible repeat (first | apply Kd.R_alloc | apply Kd.R_drewN | apply Kd.R_drew)); exact HO262.out) (Kd.R_base ho0) hb); replace BK256 := bkb BK256 hb; replace HB := bls HB hb; (try clear hb); (try clear hb2); (try clear hk); (try clear hi); (try clear ho0); obtain ⟨hcz38_0, hcz38_1, hcz38_2, hcz38_3, hfz38_0, hfz38_1, hfz38_2, hfz38_3⟩ := cf4 BK256))
      refine bodyPost_ret (results_ct rfl _ _ gb256 24 #[.int .i64 0, .int .u64 0, .int .u64 0, .string (⟨#[]⟩ : ByteArray)] (0, 0) _ rfl (by (with_reducible repeat (first | refine zn ?_ _ | refine zd ?_ | refine za ?_ _)); apply bp4; (with_reducible repeat (first | refine zn ?_ _ | refine zd ?_ | refine za ?_ _)); exact BK256.out) Tryz.underlying24 rfl (by kernel_rfl)) rfl ?_
      exact fin_ (blt HB)
    ·rw [if_neg c13] at H
     have c13b0 : (t260 == 0) = false := beq_eq_false_iff_ne.mpr c13
     have c13b1 : (t260 != 0) = true := bne_iff_ne.mpr c13
     simp only [Option.some.injEq, Prod.mk.injEq] at H
     obtain ⟨rfl, rfl, rfl, rfl, rfl⟩ := H
     go_wp2_with (first | ((with_reducible refine gc_ (f := 89) rfl ?_); refine gL 38 Tryz.func89 #[.int .i64 a0, .slice A1 l1.length c1] ?_; (with_reducible refine (cx_list.calls kj4 a0 _ _ l1 t259 t260 _ ?side1 ?side2 A12.out).mono ?_); (case side1 => repeat (first | exact (Kd.C_below HR1.out HB.out) | (with_reducible refine Kd.C_alloc ?_ _) | (with_reducible refine Kd.C_drewN ?_ _) | (with_reducible refine Kd.C_drew ?_))); (case side2 => exact HC1.out); rintro e w39 ⟨v261, rfl, ho0, hb⟩; refine ⟨_, rfl, ?_⟩; have HO262 := Zs.mk (Kd.R_lower ho0 (below_size (blt HB).out)); replace BK256 := bkb BK256 hb; replace HB := bls HB hb; (try clear hb); (try clear hb2); (try clear hk); (try clear hi); (try clear ho0); obtain ⟨hcz40_0, hcz40_1, hcz40_2, hcz40_3, hfz40_0, hfz40_1, hfz40_2, hfz40_3⟩ := cf4 BK256))
     refine bodyPost_ret (results_ct rfl _ _ gb256 24 #[.int .i64 0, .int .u64 0, .int .u64 0, .string (⟨#[]⟩ : ByteArray)] (0, 0) _ rfl (by (with_reducible repeat (first | refine zn ?_ _ | refine zd ?_ | refine za ?_ _)); apply bp4; (with_reducible repeat (first | refine zn ?_ _ | refine zd ?_ | refine za ?_ _)); exact BK256.out) Tryz.underlying24 rfl (by kernel_rfl)) rfl ?_
     exact fin_ (blt HB)
   ·rw [if_neg c11] at H
    have c11b0 : (x9_4 == 0) = false := beq_eq_false_iff_ne.mpr c11
    have c11b1 : (x9_4 != 0) = true := bne_iff_ne.mpr c11
    simp only [Option.some.injEq, Prod.mk.injEq] at H
    obtain ⟨rfl, rfl, rfl, rfl, rfl⟩ := H
    obtain ⟨hcz41_0, hcz41_1, hcz41_2, hcz41_3, hfz41_0, hfz41_1, hfz41_2, hfz41_3⟩ := cf4 BK256
    go_wp2
    refine bodyPost_ret (results_ct rfl _ _ gb256 24 #[.int .i64 0, .int .u64 0, .int .u64 0, .string (⟨#[]⟩ : ByteArray)] (0, 0) _ rfl (by (with_reducible repeat (first | refine zn ?_ _ | refine zd ?_ | refine za ?_ _)); apply bp4; (with_reducible repeat (first | refine zn ?_ _ | refine zd ?_ | refine za ?_ _)); exact BK256.out) Tryz.underlying24 rfl (by kernel_rfl)) rfl ?_
    exact fin_ (blt HB)
end Go.Proofs.YtmoimcblmmcffaaGreat.PPC

namespace Go.Proofs.YtmoimcblmmcffaaGreat.B
open Go.RowKit NC N PPC Go.Proofs.YtmoimcblmmcffaaGreatW.PrintWords
set_option linter.unusedSimpArgs false
set_option linter.unusedVariables false
def Blks (V : World) (L : List (Nat × Array Value)) : Prop := ∀ p ∈ L, (∀ i, V.cell? ⟨p.1, i, none⟩ = p.2[i]?) ∧ p.1 < V.heap.size
theorem Blks.call {V V' : World} {L : List (Nat × Array Value)} (h : Blks V L) (hb : Below V.heap.size V V') : Blks V' L := fun p hp =>
 ⟨fun i => ((bcell hb).1 _ i (h p hp).2).trans ((h p hp).1 i), Nat.lt_of_lt_of_le (h p hp).2 hb.size⟩
theorem blk_new' (W : World) (cs : Array Value) (t : TypeId) : Blks (W.alloc (.cells cs t (0, 0))) [(W.heap.size, cs)] := fun p hp => by
 obtain rfl := List.mem_singleton.1 hp
 exact ⟨fun i => cell_of_row _ _ i cs t (0, 0) (heap_alloc_new W _), by simp⟩
theorem hideB {P : Program} {c : Code} {Q : Exit → Act → World → Prop} {a : Act} {w W w1 : World} {cs : Array Value} {t : TypeId} {L : List (Nat × Array Value)} (hL : Blks W L) (hW : Below w.heap.size w W) (hb : Below W.heap.size W w1)
  (h : ∀ V g, w1.heap.size = g → Blks V ((g, cs) :: L) → Below w.heap.size w V → c.wp P Q a V) : c.wp P Q a (w1.alloc (.cells cs t (0, 0))) := by
 have hb2 : Below W.heap.size W (w1.alloc (.cells cs t (0, 0))) := below_alloc0 hb _
 refine h _ _ rfl (fun p hp => ?_) (hW.trans (hb2.mono hW.size))
 rcases List.mem_cons.1 hp with rfl | hp
 ·exact ⟨fun i => cell_of_row _ _ i cs t (0, 0) (heap_alloc_new w1 _), by simp⟩
 ·exact (hL.call hb2) p hp
set_option maxRecDepth 100000 in
set_option maxHeartbeats 1000000 in
theorem whole_c (re im x y : Int) (w : World) (h : r8_FromInteger.f 1 re = some x) (h' : r8_FromInteger.f 1 im = some y) :
  Calls Tryz.prog 51 #[.int .i64 re, .int .i64 im] w (Ret (.agg #[.int .i64 3, .int .u64 x, .int .u64 y, .string { data := #[] }]) w) := by
 have c1 : ∀ w, Calls Tryz.prog 23 #[.int .i64 1, .int .i64 re] w (Ret (.int .u64 x) w) := fun w => r8_FromInteger.calls 1 re x w h
 have c2 : ∀ w, Calls Tryz.prog 23 #[.int .i64 1, .int .i64 im] w (Ret (.int .u64 y) w) := fun w => r8_FromInteger.calls 1 im y w h'
 clear h h'
 go_enter Tryz.func51, Tryz.ntmps51
 go_upto_region 1 with (fail)
 refine hide0own (fun W n hn ho hlt hB => ?_)
 rw [hn]
 have HO : ExO n w W n 4 W := ⟨ExtN.refl (Nat.le_of_lt hlt) hB, ho⟩
 go_wp2_with (go_at_call 23; (first | ((with_reducible refine (c1 _).mono ?_); rintro e w1 ⟨rfl, hb1⟩; have HO := HO.call hb1) | ((with_reducible refine (c2 _).mono ?_); rintro e w1 ⟨rfl, hb1⟩; have HO := HO.call hb1)))
 have hr := Own.read4 (n := 0) ((((HO.2.set ⟨n, 0, none⟩ (.int .i64 3)).set ⟨n, 1, none⟩ (.int .u64 x)).set ⟨n, 2, none⟩ (.int .u64 y)).set ⟨n, 3, none⟩ (.string { data := #[] }))
 exact bodyPost_ret (v := .agg #[.int .i64 3, .int .u64 x, .int .u64 y, .string { data := #[] }]) (by simp [results, Tryz.results51, go_sem, hr.1, hr.2.1, hr.2.2.1, hr.2.2.2]) rfl ⟨rfl, by have hz := below_row HO.1.2.2 (.int .i64 3) (.int .u64 x) (.int .u64 y) (.string { data := #[] }) (g := n) (Nat.le_of_eq hn); exact hz⟩
theorem wh_12 (w : World) : Calls Tryz.prog 51 #[.int .i64 1, .int .i64 2] w (Ret (.agg #[.int .i64 3, .int .u64 1065353216, .int .u64 1073741824, .string { data := #[] }]) w) := whole_c 1 2 1065353216 1073741824 w (by decide +kernel) (by decide +kernel)
theorem wh_34 (w : World) : Calls Tryz.prog 51 #[.int .i64 3, .int .i64 4] w (Ret (.agg #[.int .i64 3, .int .u64 1077936128, .int .u64 1082130432, .string { data := #[] }]) w) := whole_c 3 4 1077936128 1082130432 w (by decide +kernel) (by decide +kernel)
theorem wh_m34 (w : World) : Calls Tryz.prog 51 #[.int .i64 (-3), .int .i64 4] w (Ret (.agg #[.int .i64 3, .int .u64 3225419776, .int .u64 1082130432, .string { data := #[] }]) w) := whole_c (-3) 4 3225419776 1082130432 w (by decide +kernel) (by decide +kernel)
theorem wh_11 (w : World) : Calls Tryz.prog 51 #[.int .i64 1, .int .i64 1] w (Ret (.agg #[.int .i64 3, .int .u64 1065353216, .int .u64 1065353216, .string { data := #[] }]) w) := whole_c 1 1 1065353216 1065353216 w (by decide +kernel) (by decide +kernel)
theorem wh_m510 (w : World) : Calls Tryz.prog 51 #[.int .i64 (-5), .int .i64 10] w (Ret (.agg #[.int .i64 3, .int .u64 3231711232, .int .u64 1092616192, .string { data := #[] }]) w) := whole_c (-5) 10 3231711232 1092616192 w (by decide +kernel) (by decide +kernel)
theorem both_k (w : World) : Calls Tryz.prog 52 #[.agg #[.int .i64 3, .int .u64 1065353216, .int .u64 1073741824, .string { data := #[] }], .agg #[.int .i64 3, .int .u64 1077936128, .int .u64 1082130432, .string { data := #[] }]] w (Ret (.tuple #[.int .i64 1, .agg #[.int .u64 1065353216, .int .u64 1073741824], .agg #[.int .u64 1077936128, .int .u64 1082130432], .int .i64 0]) w) := by
 have h := both_c 3 1065353216 1073741824 { data := #[] } 3 1077936128 1082130432 { data := #[] } w (by decide) (by decide) (by decide) (by decide)
 rw [show bothV 3 1065353216 1073741824 { data := #[] } 3 1077936128 1082130432 { data := #[] } = (1, 1065353216, 1073741824, 1077936128, 1082130432, 0) by decide +kernel] at h
 exact h
theorem apply_k (w : World) : Calls Tryz.prog 12 #[.int .i64 2, .agg #[.int .i64 3, .int .u64 1065353216, .int .u64 1073741824, .string { data := #[] }], .agg #[.int .i64 3, .int .u64 1077936128, .int .u64 1082130432, .string { data := #[] }]] w (Ret (.tuple #[.agg #[.int .i64 3, .int .u64 3231711232, .int .u64 1092616192, .string { data := #[] }], .int .i64 0]) w) :=
 apply_2 3 1065353216 1073741824 { data := #[] } 3 1077936128 1082130432 { data := #[] } 1 1065353216 1073741824 1077936128 1082130432 3231711232 1092616192 3 3231711232 1092616192 { data := #[] } w both_k (fun w => fd_times.calls 1 1065353216 1073741824 1077936128 1082130432 3231711232 1092616192 w (by decide +kernel)) (fun w => fd_value.calls 1 3231711232 1092616192 3 3231711232 1092616192 { data := #[] } w (by decide +kernel))
theorem size_k (w : World) : Calls Tryz.prog 26 #[.agg #[.int .i64 3, .int .u64 1077936128, .int .u64 1082130432, .string { data := #[] }]] w (Ret (.tuple #[.agg #[.int .i64 1, .int .u64 1084227584, .int .u64 0, .string { data := #[] }], .int .i64 0]) w) :=
 cx_SizeOf.calls 9 3 1077936128 1082130432 { data := #[] } 1 1084227584 0 { data := #[] } 0 w (by decide +kernel)
theorem sqrt_k (w : World) : Calls Tryz.prog 28 #[.agg #[.int .i64 3, .int .u64 3225419776, .int .u64 1082130432, .string { data := #[] }]] w (Ret (.tuple #[.agg #[.int .i64 3, .int .u64 1065353216, .int .u64 1073741824, .string { data := #[] }], .int .i64 0]) w) :=
 SqrtOf_w 3 3225419776 1082130432 { data := #[] } 3 1065353216 1073741824 { data := #[] } 0 w (fun w => of_SqrtOf_ok 3 3225419776 1082130432 { data := #[] } 1 3225419776 1082130432 1065353216 1073741824 3 1065353216 1073741824 { data := #[] } w
  (fun w => cx_open.calls 3 3225419776 1082130432 { data := #[] } 1 3225419776 1082130432 0 w (by decide +kernel)) (fun w => fd_squareRoot.calls 9 1 3225419776 1082130432 1065353216 1073741824 w (by decide +kernel)) (fun w => fd_value.calls 1 1065353216 1073741824 3 1065353216 1073741824 { data := #[] } w (by decide +kernel)))
theorem power_k (w : World) : Calls Tryz.prog 22 #[.agg #[.int .i64 3, .int .u64 1065353216, .int .u64 1065353216, .string { data := #[] }], .int .i64 4] w (Ret (.tuple #[.agg #[.int .i64 3, .int .u64 3229614080, .int .u64 0, .string { data := #[] }], .int .i64 0]) w) :=
 cx_PowerOf.calls 40 3 1065353216 1065353216 { data := #[] } 4 3 3229614080 0 { data := #[] } 0 w (by decide +kernel)
theorem kd_one {w : World} {g : Nat} {x y : Int} {s : ByteArray} (h : ∀ i, w.cell? ⟨g, i, none⟩ = (#[.int .i64 3, .int .u64 x, .int .u64 y, .string s] : Array Value)[i]?) : Kd.C k24 w (some ⟨g, 0, none⟩) ([(⟨3, x, y, s⟩ : S24)] : List S24).length [(⟨3, x, y, s⟩ : S24)] := by
 refine ⟨rfl, by simp, fun _ => ⟨_, rfl, fun j p hj => ?_⟩⟩
 rcases j with _ | j
 ·obtain rfl : (⟨3, x, y, s⟩ : S24) = p := by simpa using hj
  refine ⟨[.int .i64 3, .int .u64 x, .int .u64 y, .string s], rfl, k24_mk w _, fun i u hu => ?_⟩
  have e : (⟨g, 0, none⟩ : Addr).add (0 * k24.sz + i) = ⟨g, i, none⟩ := by cases i <;> simp [Addr.add]
  rw [e, h i, ← hu]
  simp
 ·simp at hj
theorem dot_k (g1 g2 : Nat) (w : World) (h1 : ∀ i, w.cell? ⟨g1, i, none⟩ = (#[.int .i64 3, .int .u64 1065353216, .int .u64 1065353216, .string { data := #[] }] : Array Value)[i]?) (h2 : ∀ i, w.cell? ⟨g2, i, none⟩ = (#[.int .i64 3, .int .u64 1065353216, .int .u64 1065353216, .string { data := #[] }] : Array Value)[i]?) :
  Calls Tryz.prog 38 #[.int .i64 3, .slice (some ⟨g1, 0, none⟩) 1 1, .slice (some ⟨g2, 0, none⟩) 1 1] w (Ret (.tuple #[.agg #[.int .i64 3, .int .u64 1073741824, .int .u64 0, .string { data := #[] }], .int .i64 0]) w) :=
 cx_DotOf.calls 9 3 (some ⟨g1, 0, none⟩) 1 [⟨3, 1065353216, 1065353216, { data := #[] }⟩] (some ⟨g2, 0, none⟩) 1 [⟨3, 1065353216, 1065353216, { data := #[] }⟩] 3 1073741824 0 { data := #[] } 0 w (kd_one h1) (by decide) (kd_one h2) (by decide) (by decide +kernel)
set_option maxRecDepth 100000 in
set_option maxHeartbeats 8000000 in
theorem awake_c (w : World) : Calls Tryz.prog 10 #[] w (Ret (.bool true) w) := by
 obtain ⟨z, c4⟩ : ∃ z : Int, ∀ w, Calls Tryz.prog 22 #[.agg #[.int .i64 3, .int .u64 1065353216, .int .u64 1065353216, .string { data := #[] }], .int .i64 4] w (Ret (.tuple #[.agg #[.int .i64 3, .int .u64 3229614080, .int .u64 0, .string { data := #[] }], .int .i64 0]) w) := ⟨0, fun w => power_k w⟩
 have L0 : Blks w [] := fun p hp => by cases hp
 have HE := Below.refl w.heap.size w
 go_enter Tryz.func10, Tryz.ntmps10
 go_upto_region 2 with (first | (go_at_call 51; (with_reducible refine (wh_12 _).mono ?_); rintro e wh ⟨rfl, hbh⟩; have HE := below_call HE hbh) | (go_at_call 51; (with_reducible refine (wh_34 _).mono ?_); rintro e wh ⟨rfl, hbh⟩; have HE := below_call HE hbh) | (go_at_call 12; (with_reducible refine (apply_k _).mono ?_); rintro e wa ⟨rfl, hba⟩; have HE := below_call HE hba))
 refine hideB L0 (Below.refl _ _) HE (fun V1 g1 hg1 L1 B1 => ?_)
 rw [hg1]
 clear hbh hba HE hg1
 have HE := Below.refl V1.heap.size V1
 go_upto_region 3 with (first | (go_at_call 51; (with_reducible refine (wh_34 _).mono ?_); rintro e wh ⟨rfl, hbh⟩; have HE := below_call HE hbh) | (go_at_call 26; (with_reducible refine (size_k _).mono ?_); rintro e wa ⟨rfl, hba⟩; have HE := below_call HE hba))
 refine hideB L1 B1 HE (fun V2 g2 hg2 L2 B2 => ?_)
 rw [hg2]
 clear hbh hba HE hg2
 have HE := Below.refl V2.heap.size V2
 go_upto_region 4 with (first | (go_at_call 51; (with_reducible refine (wh_m34 _).mono ?_); rintro e wh ⟨rfl, hbh⟩; have HE := below_call HE hbh) | (go_at_call 28; (with_reducible refine (sqrt_k _).mono ?_); rintro e wa ⟨rfl, hba⟩; have HE := below_call HE hba))
 refine hideB L2 B2 HE (fun V3 g3 hg3 L3 B3 => ?_)
 rw [hg3]
 clear hbh hba HE hg3
 have HE := Below.refl V3.heap.size V3
 go_upto_region 5 with (first | (go_at_call 51; (with_reducible refine (wh_11 _).mono ?_); rintro e wh ⟨rfl, hbh⟩; have HE := below_call HE hbh) | (go_at_call 22; (with_reducible refine (c4 _).mono ?_); rintro e wa ⟨rfl, hba⟩; have HE := below_call HE hba))
 refine hideB L3 B3 HE (fun V4 g4 hg4 L4 B4 => ?_)
 rw [hg4]
 clear hbh hba HE hg4
 have HE := Below.refl V4.heap.size V4
 go_upto_region 6 with (first | (go_at_call 51; (with_reducible refine (wh_11 _).mono ?_); rintro e wh ⟨rfl, hbh⟩; first | have HE := below_call HE hbh | (have HS := (blk_new' _ _ _).call hbh; have HE := below_call (below_alloc0 HE _) hbh)) | (go_at_call 38; refine (dot_k _ _ _ ((HS.call (below_alloc0 (Below.refl _ _) _)) _ List.mem_cons_self).1 ((blk_new' _ _ _) _ List.mem_cons_self).1).mono ?_; rintro e wa ⟨rfl, hba⟩; have HE := below_call (below_alloc0 HE _) hba))
 refine hideB L4 B4 HE (fun V5 g5 hg5 L5 B5 => ?_)
 rw [hg5]
 clear hbh hba HE hg5 L4 L3 L2 L1 L0
 have a1 := L5 _ (.tail _ (.tail _ (.tail _ (.tail _ (.head _)))))
 have a2 := L5 _ (.tail _ (.tail _ (.tail _ (.head _))))
 have a3 := L5 _ (.tail _ (.tail _ (.head _)))
 have a4 := L5 _ (.tail _ (.head _))
 have a5 := L5 _ (.head _)
 obtain ⟨k1, s1⟩ := a1
 obtain ⟨k2, s2⟩ := a2
 obtain ⟨k3, s3⟩ := a3
 obtain ⟨k4, s4⟩ := a4
 obtain ⟨k5, s5⟩ := a5
 dsimp only at k1 k2 k3 k4 k5 s1 s2 s3 s4 s5
 clear L5
 have HV : Ext w V5 V5 := Ext.refl B5
 first | (go_region_held3 (fun w' => Ext w V5 w') (first | assumption | (with_reducible exact Ext.call (by assumption) hb9) | ((with_reducible refine Ext.drew ?_); assumption)) (first | (go_at_call 51; (with_reducible refine (wh_m510 _).mono ?_); rintro e w9 ⟨rfl, hb9⟩) | (go_at_call 51; (with_reducible refine (wh_12 _).mono ?_); rintro e w9 ⟨rfl, hb9⟩))) | fail
 go_wp2
 go_ret
 exact ⟨rfl, Ext.end (by assumption)⟩
end Go.Proofs.YtmoimcblmmcffaaGreat.B

namespace Go.Proofs.YtmoimcblmmcffaaGreat
open Go.RowKit
def l10_awake.f : Option Bool := some true
theorem l10_awake.calls (r : Bool) (w : World) (h : l10_awake.f = some r) : Calls Tryz.prog 10 #[] w fun e w' => e = .returned (.bool r) ∧ Below w.heap.size w w' := by
 obtain rfl := Option.some.inj h
 exact B.awake_c w
end Go.Proofs.YtmoimcblmmcffaaGreat

namespace Go.Proofs.YtmoimcblmmcffaaGreat.B
open Go.RowKit NC N PPC PRA Go.Proofs.YtmoimcblmmcffaaGreatW.PrintWords
set_option linter.unusedSimpArgs false
set_option linter.unusedVariables false
def timesP (s : Bool) (p q : Nat × Nat) : Nat × Nat := (subR s (mulR s p.1 q.1) (mulR s p.2 q.2), addR s (mulR s p.1 q.2) (mulR s p.2 q.1))
def okP (s : Bool) (p : Nat × Nat) : Prop := p.1 < 2 * signN s ∧ p.2 < 2 * signN s
theorem timesP_ok {s : Bool} {p q : Nat × Nat} (hp : okP s p) (hq : okP s q) : okP s (timesP s p q) := ⟨subR_lt (mulR_lt hp.1 hq.1) (mulR_lt hp.2 hq.2), addR_lt (mulR_lt hp.1 hq.2) (mulR_lt hp.2 hq.1)⟩
theorem ftimes {s : Bool} {p q : Nat × Nat} (hp : okP s p) (hq : okP s q) : fd_times.f (tv s) (p.1 : Int) (p.2 : Int) (q.1 : Int) (q.2 : Int) = some (((timesP s p q).1 : Int), ((timesP s p q).2 : Int)) := by
 unfold fd_times.f timesP
 rw [fmul hp.1 hq.1, Option.bind_some, fmul hp.2 hq.2, Option.bind_some, fsub (mulR_lt hp.1 hq.1) (mulR_lt hp.2 hq.2), Option.bind_some, fmul hp.1 hq.2, Option.bind_some, fmul hp.2 hq.1, Option.bind_some, fadd (mulR_lt hp.1 hq.2) (mulR_lt hp.2 hq.1), Option.bind_some]
end Go.Proofs.YtmoimcblmmcffaaGreat.B

namespace Go.Proofs.YtmoimcblmmcffaaGreat.NC
open Go.RowKit Go.Proofs.YtmoimcblmmcffaaGreat.B Go.Proofs.YtmoimcblmmcffaaGreat.N
set_option linter.unusedSimpArgs false
set_option linter.unusedVariables false
structure Num (s : Bool) (a : Nat) (n : Bool) (r m : Nat) (e : Int) : Prop where
 word : a = (fm s).word n r
 lt : r < (fm s).infRung
 read : (fm s).read a = .number n m e
 least : leastN s ≤ e
 val : m * 2 ^ (e - leastN s).toNat = Fl.V (fm s) r
 zero : m = 0 ↔ r = 0
 back : Fl.rung (fm s) m e = r
end Go.Proofs.YtmoimcblmmcffaaGreat.NC

namespace Go.Proofs.YtmoimcblmmcffaaGreat.NC
open Go.RowKit Go.Proofs.YtmoimcblmmcffaaGreat.B Go.Proofs.YtmoimcblmmcffaaGreat.N
set_option linter.unusedSimpArgs false
set_option linter.unusedVariables false
theorem negR_lt {s : Bool} (b : Nat) : negR s b < 2 * signN s := by have := neg_lt s b; rw [top_sgn] at this; exact Int.ofNat_lt.1 this
end Go.Proofs.YtmoimcblmmcffaaGreat.NC

namespace Go.Proofs.YtmoimcblmmcffaaGreat.B
open Go.RowKit NC N PPC PRA Go.Proofs.YtmoimcblmmcffaaGreatW.PrintWords
set_option linter.unusedSimpArgs false
set_option linter.unusedVariables false
section
variable {s : Bool} {a b u : Nat} {na nb nu : Bool} {qa qb qu ma mb mu : Nat} {ea eb eu : Int} (ha : Num s a na qa ma ea) (hb : Num s b nb qb mb eb) (hu : Num s u nu qu mu eu)
include ha hb
omit hb
include hu
end
def plusP (s : Bool) (p q : Nat × Nat) : Nat × Nat := (addR s p.1 q.1, addR s p.2 q.2)
def conjP (s : Bool) (p : Nat × Nat) : Nat × Nat := (p.1, negR s p.2)
end Go.Proofs.YtmoimcblmmcffaaGreat.B

namespace Go.Proofs.YtmoimcblmmcffaaGreat.B
open Go.RowKit NC N PPC PRA Go.Proofs.YtmoimcblmmcffaaGreatW.PrintWords
set_option linter.unusedSimpArgs false
set_option linter.unusedVariables false
theorem valueErr_f {t a b : Int} (S : ByteArray) (ha : U64 a) (hb : U64 b) : r10_ValueErr.f t a b S = some (openErrV t a b S) := by
 unfold r10_ValueErr.f r10_TypeErr.f openErrV ctypeErrV cpart bitsErrV
 by_cases h3 : t = 3
 ·subst h3
  simp only [if_true, Option.bind_some]
  by_cases hs : S.toList = []
  ·rw [if_pos hs, if_pos hs]
   by_cases h1 : a ≥ 4294967296
   ·rw [if_pos h1, if_neg]
    simp; omega
   ·rw [if_neg h1]
    by_cases h2 : b ≥ 4294967296
    ·rw [if_pos h2, if_neg]
     simp; omega
    ·rw [if_neg h2, if_pos]
     simp; omega
  ·rw [if_neg hs, if_neg hs]
 ·by_cases h4 : t = 4
  ·subst h4
   by_cases hs : S.toList = []
   ·simp [hs]
   ·simp [hs]
  ·rw [if_neg h3, if_neg h4]
   simp [h3, h4]
theorem open_ok {t a b : Int} {S : ByteArray} (ha : U64 a) (hb : U64 b) (h : openErrV t a b S = 0) : ∃ s x y, t = ct s ∧ a = ((x : Nat) : Int) ∧ b = ((y : Nat) : Int) ∧ x < 2 * signN s ∧ y < 2 * signN s := by
 obtain ⟨x, rfl⟩ := Int.eq_ofNat_of_zero_le ha.1
 obtain ⟨y, rfl⟩ := Int.eq_ofNat_of_zero_le hb.1
 unfold openErrV ctypeErrV cpart at h
 by_cases h3 : t = 3
 ·subst h3
  simp only [if_true] at h
  by_cases hs : S.toList = []
  ·rw [if_pos hs] at h
   by_cases hb : bitsErrV 1 [(x : Int), (y : Int)] = 0
   ·refine ⟨true, x, y, rfl, rfl, rfl, ?_, ?_⟩
    all_goals
     unfold bitsErrV at hb
     simp at hb
     show _ < 4294967296
     omega
   ·rw [if_neg hb] at h; cases h
  ·rw [if_neg hs] at h; cases h
 ·by_cases h4 : t = 4
  ·subst h4
   refine ⟨false, x, y, rfl, rfl, rfl, ?_, ?_⟩
   ·have := ha.2; show _ < 18446744073709551616; omega
   ·have := hb.2; show _ < 18446744073709551616; omega
  ·rw [if_neg h3, if_neg h4, if_neg (by decide)] at h; exact absurd h (by decide)
end Go.Proofs.YtmoimcblmmcffaaGreat.B

namespace Go.Proofs.YtmoimcblmmcffaaGreat.B
open Go.RowKit NC N PPC PRA Go.Proofs.YtmoimcblmmcffaaGreatW.PrintWords
set_option linter.unusedSimpArgs false
set_option linter.unusedVariables false
theorem open_text {s : Bool} {x y : Int} {S : ByteArray} (h : openErrV (ct s) x y S = 0) : S.toList = [] := by
 unfold openErrV at h
 have hc : ctypeErrV (ct s) = 0 := by cases s <;> rfl
 rw [hc, if_pos rfl] at h
 by_cases hs : S.toList = []
 ·exact hs
 ·rw [if_neg hs] at h; exact absurd h (by decide)
theorem nb_text : NB.toList = [] := by simp [ByteArray.toList, ByteArray.toList.loop, ByteArray.size]
theorem fnegated {s : Bool} {x : Nat} (hx : x < 2 * signN s) : fd_negated.f (tv s) (x : Int) = some ((negR s x : Nat) : Int) := by
 unfold fd_negated.f rl_Negated.f
 rw [u64B_nat hx, if_pos rfl, (rg_nat hx).valid1, if_pos rfl, neg_eq hx]; rfl
end Go.Proofs.YtmoimcblmmcffaaGreat.B

namespace Go.Proofs.YtmoimcblmmcffaaGreat.PLS
open Go.RowKit Go.Proofs.YtmoimcblmmcffaaGreatW.PrintWords Go.Proofs.YtmoimcblmmcffaaGreatW.PrintLast Go.Proofs.YtmoimcblmmcffaaGreatW.PrintMore
attribute [local go_sem] max2_int min2_int max_two min_two max_three min_three max_four min_four   -- for this text's walks alone
set_option linter.unusedVariables false
set_option linter.unusedSimpArgs false
def errW : Option Int → Value
 | none => .nilIface
 | some c => .iface 0 (.int .i64 c)
theorem errW_none : errW none = .nilIface := rfl
theorem errW_some (c : Int) : errW (some c) = .iface 0 (.int .i64 c) := rfl
theorem info24 : (Tryz.prog.info? 24).map (fun i => (i.zero, i.size, i.bytes)) = some (some (.agg #[(.int .i64 0), (.int .u64 0), (.int .u64 0), (.string ⟨#[]⟩)]), 4, 40) := by kernel_rfl
theorem info74 : (Tryz.prog.info? 74).map (fun i => (i.zero, i.size, i.bytes)) = some (some (.agg #[(.int .u64 0), (.int .u64 0)]), 2, 16) := by kernel_rfl
structure S24 where
 f0 : Int
 f1 : Int
 f2 : Int
 f3 : ByteArray
def z24 : S24 := ⟨(0 : Int), (0 : Int), (0 : Int), (⟨#[]⟩ : ByteArray)⟩
def k24 : Kd S24 := Kd.iso (Kd.pair (Kd.int .i64) (Kd.pair (Kd.int .u64) (Kd.pair (Kd.int .u64) Kd.string))) (fun x : S24 => (x.f0, x.f1, x.f2, x.f3))
theorem k24_open {w : World} {x : S24} {cs : List Value} (h : k24.K w x cs) : cs = [.int .i64 x.f0, .int .u64 x.f1, .int .u64 x.f2, .string x.f3] := by
 obtain ⟨_, _, rfl, rfl, ⟨_, _, rfl, rfl, ⟨_, _, rfl, rfl, rfl⟩⟩⟩ := h
 exact rfl
theorem k24_mk (w : World) (x : S24)  : k24.K w x [.int .i64 x.f0, .int .u64 x.f1, .int .u64 x.f2, .string x.f3] := ⟨[.int .i64 x.f0], [.int .u64 x.f1, .int .u64 x.f2, .string x.f3], rfl, rfl, ⟨[.int .u64 x.f1], [.int .u64 x.f2, .string x.f3], rfl, rfl, ⟨[.int .u64 x.f2], [.string x.f3], rfl, rfl, rfl⟩⟩⟩
theorem k24_mkM (w : World) (base : Nat) (ok : Nat → Prop) (x : S24)  : k24.M w base ok x [.int .i64 x.f0, .int .u64 x.f1, .int .u64 x.f2, .string x.f3] := ⟨[.int .i64 x.f0], [.int .u64 x.f1, .int .u64 x.f2, .string x.f3], rfl, rfl, ⟨[.int .u64 x.f1], [.int .u64 x.f2, .string x.f3], rfl, rfl, ⟨[.int .u64 x.f2], [.string x.f3], rfl, rfl, rfl⟩⟩⟩
def rd_T24 (xs : List S24) (i : Int) : S24 := xs.getD i.toNat z24
theorem at_T24 {w : World} {A : Option Addr} {n : Nat} {xs : List S24} (h : Kd.C k24 w A n xs) (i : Int) (h0 : 0 ≤ i) (h1 : i < n) : ∃ ad , A = some ad ∧ w.cell? (ad.add (i.toNat * 4)) = some (.int .i64 (rd_T24 xs i).f0) ∧ w.cell? ⟨(ad.add (i.toNat * 4)).block, (ad.add (i.toNat * 4)).off + 1, none⟩ = some (.int .u64 (rd_T24 xs i).f1) ∧ w.cell? ⟨(ad.add (i.toNat * 4)).block, (ad.add (i.toNat * 4)).off + 2, none⟩ = some (.int .u64 (rd_T24 xs i).f2) ∧ w.cell? ⟨(ad.add (i.toNat * 4)).block, (ad.add (i.toNat * 4)).off + 3, none⟩ = some (.string (rd_T24 xs i).f3) := by
 obtain ⟨ad, c, e, _, hK, hc0⟩ := Kd.C_get h z24 i h0 h1
 have hc : ∀ j u, c[j]? = some u → w.cell? (ad.add (i.toNat * 4 + j)) = some u := hc0
 obtain rfl := k24_open hK
 exact ⟨ad, e, hc 0 _ rfl, by rw [← add_field _ _ 1 (by omega)]; exact hc 1 _ rfl, by rw [← add_field _ _ 2 (by omega)]; exact hc 2 _ rfl, by rw [← add_field _ _ 3 (by omega)]; exact hc 3 _ rfl⟩
structure S74 where
 f0 : Int
 f1 : Int
def z74 : S74 := ⟨(0 : Int), (0 : Int)⟩
def k74 : Kd S74 := Kd.iso (Kd.pair (Kd.int .u64) (Kd.int .u64)) (fun x : S74 => (x.f0, x.f1))
theorem k74_open {w : World} {x : S74} {cs : List Value} (h : k74.K w x cs) : cs = [.int .u64 x.f0, .int .u64 x.f1] := by
 obtain ⟨_, _, rfl, rfl, rfl⟩ := h
 exact rfl
theorem k74_openM {w : World} {base : Nat} {ok : Nat → Prop} {x : S74} {cs : List Value} (h : k74.M w base ok x cs) : cs = [.int .u64 x.f0, .int .u64 x.f1] := by
 obtain ⟨_, _, rfl, rfl, rfl⟩ := h
 exact rfl
theorem k74_mkM (w : World) (base : Nat) (ok : Nat → Prop) (x : S74)  : k74.M w base ok x [.int .u64 x.f0, .int .u64 x.f1] := ⟨[.int .u64 x.f0], [.int .u64 x.f1], rfl, rfl, rfl⟩
def rd_T74 (xs : List S74) (i : Int) : S74 := xs.getD i.toNat z74
theorem at_T74 {w : World} {A : Option Addr} {n : Nat} {xs : List S74} (h : Kd.C k74 w A n xs) (i : Int) (h0 : 0 ≤ i) (h1 : i < n) : ∃ ad , A = some ad ∧ w.cell? (ad.add (i.toNat * 2)) = some (.int .u64 (rd_T74 xs i).f0) ∧ w.cell? ⟨(ad.add (i.toNat * 2)).block, (ad.add (i.toNat * 2)).off + 1, none⟩ = some (.int .u64 (rd_T74 xs i).f1) := by
 obtain ⟨ad, c, e, _, hK, hc0⟩ := Kd.C_get h z74 i h0 h1
 have hc : ∀ j u, c[j]? = some u → w.cell? (ad.add (i.toNat * 2 + j)) = some u := hc0
 obtain rfl := k74_open hK
 exact ⟨ad, e, hc 0 _ rfl, by rw [← add_field _ _ 1 (by omega)]; exact hc 1 _ rfl⟩
end Go.Proofs.YtmoimcblmmcffaaGreat.PLS

namespace Go.Proofs.YtmoimcblmmcffaaGreat.PLS
open Go.RowKit Go.Proofs.YtmoimcblmmcffaaGreat.PPC Go.Proofs.YtmoimcblmmcffaaGreat.PRA Go.Proofs.YtmoimcblmmcffaaGreat.PN Go.Proofs.YtmoimcblmmcffaaGreatW.PrintWords Go.Proofs.YtmoimcblmmcffaaGreatW.PrintLast Go.Proofs.YtmoimcblmmcffaaGreatW.PrintMore Go.Proofs.YtmoimcblmmcffaaGreatW.PrintZ
attribute [local go_sem] max2_int min2_int max_two min_two max_three min_three max_four min_four   -- for this text's walks alone
attribute [local go_sem high] Go.Proofs.YtmoimcblmmcffaaGreat.NC.fld0
set_option linter.unusedVariables false
set_option linter.unusedSimpArgs false


mutual
def cx_list.l0 : Nat → Int → List (S74) → List (S24) → Int → Int → Option ((List (S74)) × Int)
 | 0, _, _, _, _, _ => none
 | k + 1, x0, x6, x12, x13, x14 => if x14 < x13 then (if 0 ≤ x14 then (if x14 < (x12.length : Int) then ((cx_open.f ((rd_T24 x12 x14).f0) ((rd_T24 x12 x14).f1) ((rd_T24 x12 x14).f2) ((rd_T24 x12 x14).f3)).bind fun bt103 => (if bt103.2.2.2 = 0 then (cx_list.j1 k x0 x6 bt103.2.2.2 x12 x13 x14 (((rd_T24 x12 x14).f0) != x0) bt103.2.1 bt103.2.2.1) else (cx_list.j1 k x0 x6 bt103.2.2.2 x12 x13 x14 false bt103.2.1 bt103.2.2.1))) else (none)) else (none)) else (some (x6, 0))
def cx_list.j1 : Nat → Int → List (S74) → Int → List (S24) → Int → Int → Bool → Int → Int → Option ((List (S74)) × Int)
 | 0, _, _, _, _, _, _, _, _, _ => none
 | k + 1, x0, x6, x11, x12, x13, x14, x31, x108000, x108001 => if x31 = true then (if 27 = 0 then (if x6.length < 8796093022208 then (cx_list.l0 k x0 (x6 ++ [(⟨x108000, x108001⟩ : S74)]) x12 x13 (wrap64 (x14 + 1))) else (none)) else (some (([] : List (S74)), 27))) else (if x11 = 0 then (if x6.length < 8796093022208 then (cx_list.l0 k x0 (x6 ++ [(⟨x108000, x108001⟩ : S74)]) x12 x13 (wrap64 (x14 + 1))) else (none)) else (some (([] : List (S74)), x11)))
end
def cx_list.f (k : Nat) (a0 : Int) (l1 : List (S24)) : Option ((List (S74)) × Int) := cx_list.l0 k a0 ([] : List (S74)) l1 (l1.length : Int) 0
set_option maxHeartbeats 8000000 in
set_option maxRecDepth 100000 in
theorem cx_list.calls (k : Nat) (a0 : Int) (A1 : Option Addr) (c1 : Nat) (l1 : List (S24)) (r1 : List (S74)) (r2 : Int) (w : World) (hr1 : Kd.C k24 w A1 l1.length l1) (hc1 : l1.length ≤ c1) (h : cx_list.f k a0 l1 = some (r1, r2)) :
  Calls Tryz.prog 89 #[.int .i64 a0, .slice A1 l1.length c1] w fun e w' => ∃ v0_ : Value, e = .returned (.tuple #[v0_, .int .i64 r2]) ∧ Kd.R k74 74 w' w.heap.size (fun _ => True) v0_ r1 ∧ Below w.heap.size w w' := by
 have hu24 := Tryz.underlying24
 have hu74 := Tryz.underlying74
 have HR1 := Zs.mk hr1
 have HC1 := Zs.mk hc1
 clear hr1 hc1
 have HB := Zs.mk (Below.refl w.heap.size w)
 have H : (cx_list.l0 k a0 ([] : List (S74)) l1 (l1.length : Int) 0) = some (r1, r2) := h
 clear h
 have H' := Zs.mk H
 clear H
 go_enter Tryz.func89, Tryz.ntmps89
 go_wp2
 go_loopg [6, 14] k (fun kq v6 v14 w' => ∃ (x6_1 : List (S74)) (x14_1 : Int), v14 = .int .i64 x14_1 ∧ Zs (cx_list.l0 kq a0 x6_1 l1 (l1.length : Int) x14_1 = some (r1, r2)) ∧ Zs (kq ≤ k) ∧ Zs (Kd.R k74 74 w' w.heap.size (fun _ => True) v6 x6_1) ∧ Zs (Below w.heap.size w w'))
 case atStart => exact ⟨(([] : List (S74))), (0), (by first | rfl | (simp; done) | (simp [*]; done)), H', ⟨Nat.le_refl _⟩, ⟨by first | exact Kd.R_nil _ _ _ _ _ | exact Kd.N_nil _ _ _ _ _ | exact Kd.V_nil _ _ _ _ _ | exact Kd.Q_nil _ _ _ _ _ | exact Kd.S_nil _ _ _ _ _⟩, blt HB⟩
 case round =>
  clear H'
  try clear c1
  try clear p2
  obtain ⟨x6_1, x14_1, rfl, HA, HK1, HO_6, HB⟩ := hrel
  cases gk with
  | zero => exact absurd HA.out (by simp [cx_list.l0])
  | succ k1 =>
   have H := HA.out
   clear HA
   simp only [cx_list.l0] at H
   by_cases c3 : x14_1 < (l1.length : Int)
   ·rw [if_pos c3] at H
    have c3b0 : decide (x14_1 < (l1.length : Int)) = true := decide_eq_true c3
    clear c3
    by_cases c4 : 0 ≤ x14_1
    ·rw [if_pos c4] at H
     have c4b0 : decide (0 ≤ x14_1) = true := decide_eq_true c4
     clear c4
     by_cases c5 : x14_1 < (l1.length : Int)
     ·rw [if_pos c5] at H
      have c5b0 : decide (x14_1 < (l1.length : Int)) = true := decide_eq_true c5
      clear c5
      replace H := Option.bind_eq_some_iff.mp H
      obtain ⟨⟨t103, t104, t105, t106⟩, A6, H⟩ := H
      try dsimp only at H
      replace A6 := Zs.mk A6
      have HC7 := Zs.mk H
      clear H
      have p101 : 0 ≤ (x14_1 : Int) := of_decide_eq_true (by first | (with_reducible assumption) | assumption)
      have q101 : x14_1 < (l1.length : Int) := of_decide_eq_true (by first | (with_reducible assumption) | assumption)
      obtain ⟨ad101, e101, hx101_0, hx101_1, hx101_2, hx101_3⟩ := at_T24 HR1.out x14_1 p101 q101
      cases e101
      replace hx101_0 := (HB.out.cell (World.block_lt_of_cell? w _ hx101_0)).trans hx101_0
      replace hx101_1 := (HB.out.cell (World.block_lt_of_cell? w _ hx101_1)).trans hx101_1
      replace hx101_2 := (HB.out.cell (World.block_lt_of_cell? w _ hx101_2)).trans hx101_2
      replace hx101_3 := (HB.out.cell (World.block_lt_of_cell? w _ hx101_3)).trans hx101_3
      replace p101 := eq_true p101
      replace q101 := eq_true q101
      go_upto_region 6 with (first | ((with_reducible refine gd_ (N := 8) rfl ?_); refine bxe 8 (cs := #[.int .i64 0, .int .u64 0, .int .u64 0, .string (⟨#[]⟩ : ByteArray)]) (t := 24) ?_; intro gb102 hg w8 hbox hb; have BK102 := Zs.mk hbox; have GW102 := bsz HB hg; have GE102 := bsz HB hg; replace HO_6 := Zs.mk (Kd.R_below (by (with_reducible repeat (first | apply Kd.R_alloc | apply Kd.R_drewN | apply Kd.R_drew)); exact HO_6.out) hb); replace HB := bls HB hb; clear hb hbox hg; obtain ⟨hcz9_0, hcz9_1, hcz9_2, hcz9_3, hfz9_0, hfz9_1, hfz9_2, hfz9_3⟩ := cf4 BK102) | ((with_reducible refine gc_ (f := 72) rfl ?_); refine gLc 20 Tryz.func72 (cx_open.calls ((rd_T24 l1 x14_1).f0) ((rd_T24 l1 x14_1).f1) ((rd_T24 l1 x14_1).f2) ((rd_T24 l1 x14_1).f3) t103 t104 t105 t106 _ A6.out) (fun w10 hb => ?_); replace HO_6 := Zs.mk (Kd.R_below (by (with_reducible repeat (first | apply Kd.R_alloc | apply Kd.R_drewN | apply Kd.R_drew)); exact (Kd.R_mono (Kd.R_far (p := ⟨gb102, 3, none⟩) (Kd.R_far (p := ⟨gb102, 2, none⟩) (Kd.R_far (p := ⟨gb102, 1, none⟩) (Kd.R_far (p := ⟨gb102, 0, none⟩) (Kd.R_types HO_6.out BK102.out (by decide)) (fun _ hk => hk.2) (.int .i64 ((rd_T24 l1 x14_1).f0))) (fun _ hk => hk.2) (.int .u64 ((rd_T24 l1 x14_1).f1))) (fun _ hk => hk.2) (.int .u64 ((rd_T24 l1 x14_1).f2))) (fun _ hk => hk.2) (.string ((rd_T24 l1 x14_1).f3))) (fun _ h_ => h_.1))) hb); replace BK102 := Zs.mk (blk_below (g := gb102) (o := .cells #[.int .i64 ((rd_T24 l1 x14_1).f0), .int .u64 ((rd_T24 l1 x14_1).f1), .int .u64 ((rd_T24 l1 x14_1).f2), .string ((rd_T24 l1 x14_1).f3)] 24 (0, 0)) (by (with_reducible repeat (first | refine zn ?_ _ | refine zd ?_ | refine za ?_ _)); apply bp4; (with_reducible repeat (first | refine zn ?_ _ | refine zd ?_ | refine za ?_ _)); exact BK102.out) hb); replace HB := bls HB hb; clear hb) | ((with_reducible refine gd_ (N := 10) rfl ?_); refine bxe 10 (cs := #[.int .u64 0, .int .u64 0]) (t := 74) ?_; intro gb107 hg w11 hbox hb; have BK107 := Zs.mk hbox; have GW107 := bsz HB hg; have GE107 := bsz HB hg; have NB102_107 := bnl BK102 hg; have NB107_102 := bng BK102 hg; replace HO_6 := Zs.mk (Kd.R_below (Kd.R_elderB (by (with_reducible repeat (first | apply Kd.R_alloc | apply Kd.R_drewN | apply Kd.R_drew)); exact HO_6.out) gb107 (Nat.le_of_eq hg.symm)) hb); replace BK102 := bkb BK102 hb; replace HB := bls HB hb; clear hb hbox hg; have hnb12 := NB107_102.out; have hnc12 := NB102_107.out; obtain ⟨hcz13_0, hcz13_1, hfz13_0, hfz13_1⟩ := cf2 BK107))
      (try simp only [Act.put, List.setIfInBounds_toArray, List.set_cons_zero, List.set_cons_succ])
      go_cut [31] (fun v31 wc => ∃ (kq : Nat) (x31_6 : Bool), v31 = .bool x31_6 ∧ Zs (cx_list.j1 kq a0 x6_1 t106 l1 (l1.length : Int) x14_1 x31_6 t104 t105 = some (r1, r2)) ∧ Zs (kq ≤ k1) ∧ Zs (Kd.R k74 74 wc w.heap.size (fun k_ => k_ ≠ gb107) u6 x6_1) ∧ Zs (wc.heap[gb102]? = some (.cells #[.int .i64 ((rd_T24 l1 x14_1).f0), .int .u64 ((rd_T24 l1 x14_1).f1), .int .u64 ((rd_T24 l1 x14_1).f2), .string ((rd_T24 l1 x14_1).f3)] 24 (0, 0))) ∧ Zs (wc.heap[gb107]? = some (.cells #[.int .u64 t104, .int .u64 t105] 74 (0, 0))) ∧ Zs (Below w.heap.size w wc))
      case first =>
       have H := HC7.out
       clear HC7
       by_cases c14 : t106 = 0
       ·rw [if_pos c14] at H
        have c14b0 : (t106 == 0) = true := beq_iff_eq.mpr c14
        have c14b1 : (t106 != 0) = false := bne_eq_false_iff_eq.mpr c14
        clear c14
        (first | rw [c14b0] | (simp only [i64_w, i32_w]; rw [c14b0]) | skip)
        have H' := Zs.mk H
        clear H
        have hnb15 := NB102_107.out
        have hnc15 := NB107_102.out
        obtain ⟨hcz16_0, hcz16_1, hcz16_2, hcz16_3, hfz16_0, hfz16_1, hfz16_2, hfz16_3⟩ := cf4 BK102
        go_wp2
        go_meet
        case rel => exact ⟨_, ((((rd_T24 l1 x14_1).f0) != a0)), (by first | rfl | (simp; done) | (simp [*]; done)), H', ⟨by have := HK1.out; first | omega | exact Nat.le_refl _⟩, ⟨by (with_reducible repeat (first | apply Kd.R_alloc | apply Kd.R_drewN | apply Kd.R_drew)); exact Kd.R_mono (Kd.R_far (p := ⟨gb107, 1, none⟩) (Kd.R_far (p := ⟨gb107, 0, none⟩) (Kd.R_mono HO_6.out (fun k_ hk => (⟨hk, hk.2⟩ : _ ∧ k_ ≠ gb107))) (fun _ hk => hk.2) (.int .u64 t104)) (fun _ hk => hk.2) (.int .u64 t105)) (fun _ hk => hk.1.2)⟩, bkf BK102, ⟨by (with_reducible repeat (first | refine zn ?_ _ | refine zd ?_ | refine za ?_ _)); apply bp2; (with_reducible repeat (first | refine zn ?_ _ | refine zd ?_ | refine za ?_ _)); exact BK107.out⟩, blt HB⟩
       ·rw [if_neg c14] at H
        have c14b0 : (t106 == 0) = false := beq_eq_false_iff_ne.mpr c14
        have c14b1 : (t106 != 0) = true := bne_iff_ne.mpr c14
        (first | rw [c14b0] | (simp only [i64_w, i32_w]; rw [c14b0]) | skip)
        have H' := Zs.mk H
        clear H
        go_wp2
        go_meet
        case rel => exact ⟨_, (false), (by first | rfl | (simp; done) | (simp [*]; done)), H', ⟨by have := HK1.out; first | omega | exact Nat.le_refl _⟩, ⟨by (with_reducible repeat (first | apply Kd.R_alloc | apply Kd.R_drewN | apply Kd.R_drew)); exact Kd.R_mono (Kd.R_far (p := ⟨gb107, 1, none⟩) (Kd.R_far (p := ⟨gb107, 0, none⟩) (Kd.R_mono HO_6.out (fun k_ hk => (⟨hk, hk.2⟩ : _ ∧ k_ ≠ gb107))) (fun _ hk => hk.2) (.int .u64 t104)) (fun _ hk => hk.2) (.int .u64 t105)) (fun _ hk => hk.1.2)⟩, bkf BK102, ⟨by (with_reducible repeat (first | refine zn ?_ _ | refine zd ?_ | refine za ?_ _)); apply bp2; (with_reducible repeat (first | refine zn ?_ _ | refine zd ?_ | refine za ?_ _)); exact BK107.out⟩, blt HB⟩
      case rest =>
       clear HC7
       try clear c1
       try clear p1
       try clear q1
       try clear hx1
       try clear p2
       try clear c3
       try clear c3b0
       try clear c4
       try clear c4b0
       try clear c5
       try clear c5b0
       try clear c7
       try clear c8
       try clear p10
       try clear q10
       try clear hx10
       try clear c12
       try clear c14
       try clear c14b0
       try clear c14b1
       try clear c15
       try clear hcz13_0
       try clear hcz13_1
       try clear hcz16_0
       try clear hcz16_1
       try clear hcz16_2
       try clear hcz16_3
       try clear hcz9_0
       try clear hcz9_1
       try clear hcz9_2
       try clear hcz9_3
       try clear hfz13_0
       try clear hfz13_1
       try clear hfz16_0
       try clear hfz16_1
       try clear hfz16_2
       try clear hfz16_3
       try clear hfz9_0
       try clear hfz9_1
       try clear hfz9_2
       try clear hfz9_3
       try clear hx101_0
       try clear hx101_1
       try clear hx101_2
       try clear hx101_3
       try clear p101
       try clear p2
       try clear q101
       obtain ⟨kq, x31_6, rfl, HA, HJ6, HO_6, BK102, BK107, HB⟩ := hcut
       cases kq with
       | zero => exact absurd HA.out (by simp [cx_list.j1])
       | succ kj6 =>
        have H := HA.out
        clear HA
        simp only [cx_list.j1] at H
        by_cases c17 : x31_6 = true
        ·subst c17
         have H1 : (if 27 = 0 then (if x6_1.length < 8796093022208 then (cx_list.l0 kj6 a0 (x6_1 ++ [(⟨t104, t105⟩ : S74)]) l1 (l1.length : Int) (wrap64 (x14_1 + 1))) else (none)) else (some (([] : List (S74)), 27))) = some (r1, r2) := by first | (rw [if_pos rfl] at H; exact H) | rfl
         clear H
         have H := H1
         clear H1
         by_cases c18 : 27 = 0
         ·exact absurd c18 (by decide)
         ·rw [if_neg c18] at H
          have c18b0 : (27 == 0) = false := beq_eq_false_iff_ne.mpr c18
          have c18b1 : (27 != 0) = true := bne_iff_ne.mpr c18
          simp only [Option.some.injEq, Prod.mk.injEq] at H
          obtain ⟨rfl, rfl⟩ := H
          go_wp2
          go_ret2
          exact ⟨_, by first | rfl | (simp [errW_none, errW_some] <;> rfl) | (simp [*, errW_none, errW_some] <;> rfl), by first | exact Kd.R_nil _ _ _ _ _ | exact Kd.N_nil _ _ _ _ _ | exact Kd.V_nil _ _ _ _ _ | exact Kd.Q_nil _ _ _ _ _ | exact Kd.S_nil _ _ _ _ _, (blt HB).out⟩
        ·replace c17 := Bool.eq_false_iff.mpr c17
         subst c17
         have H1 : (if t106 = 0 then (if x6_1.length < 8796093022208 then (cx_list.l0 kj6 a0 (x6_1 ++ [(⟨t104, t105⟩ : S74)]) l1 (l1.length : Int) (wrap64 (x14_1 + 1))) else (none)) else (some (([] : List (S74)), t106))) = some (r1, r2) := by first | (rw [if_neg (show ¬ (false = true) by decide)] at H; exact H) | rfl
         clear H
         have H := H1
         clear H1
         by_cases c23 : t106 = 0
         ·rw [if_pos c23] at H
          have c23b0 : (t106 == 0) = true := beq_iff_eq.mpr c23
          have c23b1 : (t106 != 0) = false := bne_eq_false_iff_eq.mpr c23
          clear c23
          by_cases c24 : x6_1.length < 8796093022208
          ·rw [if_pos c24] at H
           have LMc24 := Zs.mk c24
           clear c24
           obtain ⟨y111, hy111⟩ : ∃ y_ : List (S74), y_ = (x6_1 ++ [(⟨t104, t105⟩ : S74)]) := ⟨_, rfl⟩
           replace H : (cx_list.l0 kj6 a0 y111 l1 (l1.length : Int) (wrap64 (x14_1 + 1))) = some (r1, r2) := by first | (rw [hy111]; with_reducible exact H) | (have H2_ := (Option.bind_some _ _).symm.trans H; rw [hy111]; with_reducible exact H2_) | (have H2_ := (Option.bind_some _ _).symm.trans H; with_reducible exact H2_) | with_reducible exact H | (rw [hy111]; exact H) | exact H
           have Ny111 := Zs.mk hy111
           clear hy111
           have H' := Zs.mk H
           clear H
           have hnb25 := NB107_102.out
           have hnc25 := NB102_107.out
           obtain ⟨hcz26_0, hcz26_1, hfz26_0, hfz26_1⟩ := cf2 BK107
           go_wp2_with (first | ((with_reducible refine gate_builtin (b := .append) (xs := #[.tmp 35, .tmp 37]) rfl ?_); at_builtin; refine Kd.R_append k74 (w0 := w) w.heap.size rfl (.tmp 35) (.tmp 37) 103 74 (.agg #[(.int .u64 0), (.int .u64 0)]) 16 rfl Tryz.underlying103 info74 rfl (by decide) (by omega) u6 x6_1 (⟨t104, t105⟩ : S74) [.int .u64 t104, .int .u64 t105] (fun k_ => k_ ≠ gb107) (fun _ => False) rfl rfl ?aP (fun _ hk => hk.elim) ?aF ?aO ?aB ?aS ?aL ?_; (case aP => exact k74_mkM _ _ _ (⟨t104, t105⟩ : S74)); (case aB => exact (blt HB).out); (case aF => exact (fun k_ hk => Kd.freshB (g := gb107) (o := .cells #[.int .u64 t104, .int .u64 t105] 74 (0, 0)) (bks BK107).out k_ hk)); (case aO => exact (by (with_reducible repeat (first | apply Kd.R_alloc | apply Kd.R_drewN | apply Kd.R_drew)); exact HO_6.out)); (case aS => exact (below_size (blt HB).out)); (case aL => have := LMc24.out; omega); intro v112 w27 ho hb hg hat; rw [← Ny111.out] at ho; have n0_ := Zs.mk (blk_grown (g := gb102) (o := .cells #[.int .i64 ((rd_T24 l1 x14_1).f0), .int .u64 ((rd_T24 l1 x14_1).f1), .int .u64 ((rd_T24 l1 x14_1).f2), .string ((rd_T24 l1 x14_1).f3)] 24 (0, 0)) (bks BK102).out hg (Kd.R_ne HO_6.out BK102.out (by decide))); have n1_ := Zs.mk (blk_grown (g := gb107) (o := .cells #[.int .u64 t104, .int .u64 t105] 74 (0, 0)) (bks BK107).out hg (Kd.R_away HO_6.out (fun _ hk => hk))); have n2_ := Zs.mk (hb); have n3_ := Zs.mk (ho); clear BK102; clear BK107; clear HB; clear HO_6; have BK102 := n0_; have BK107 := n1_; have HB := n2_; have HO113 := n3_; clear n0_ n1_ n2_ n3_; clear ho hb hg hat))
           go_roundg kj6
           case measure => have := HK1.out; have := HJ6.out; omega
           case rel => exact ⟨(y111), (wrap64 (x14_1 + 1)), (by first | rfl | (simp; done) | (simp [*]; done)), H', ⟨by have := HK1.out; have := HJ6.out; omega⟩, ⟨by (with_reducible repeat (first | apply Kd.R_alloc | apply Kd.R_drewN | apply Kd.R_drew)); exact Kd.R_mono HO113.out (fun _ hk => trivial)⟩, blt HB⟩
          ·rw [if_neg c24] at H
           exact absurd H (by simp)
         ·rw [if_neg c23] at H
          have c23b0 : (t106 == 0) = false := beq_eq_false_iff_ne.mpr c23
          have c23b1 : (t106 != 0) = true := bne_iff_ne.mpr c23
          simp only [Option.some.injEq, Prod.mk.injEq] at H
          obtain ⟨rfl, rfl⟩ := H
          go_wp2
          go_ret2
          exact ⟨_, by first | rfl | (simp [errW_none, errW_some] <;> rfl) | (simp [*, errW_none, errW_some] <;> rfl), by first | exact Kd.R_nil _ _ _ _ _ | exact Kd.N_nil _ _ _ _ _ | exact Kd.V_nil _ _ _ _ _ | exact Kd.Q_nil _ _ _ _ _ | exact Kd.S_nil _ _ _ _ _, (blt HB).out⟩
     ·rw [if_neg c5] at H
      exact absurd H (by simp)
    ·rw [if_neg c4] at H
     exact absurd H (by simp)
   ·rw [if_neg c3] at H
    have c3b0 : decide (x14_1 < (l1.length : Int)) = false := decide_eq_false c3
    clear c3
    simp only [Option.some.injEq, Prod.mk.injEq] at H
    obtain ⟨rfl, rfl⟩ := H
    go_wp2
    go_ret2
    exact ⟨_, by first | rfl | (simp [errW_none, errW_some] <;> rfl) | (simp [*, errW_none, errW_some] <;> rfl), by (with_reducible repeat (first | apply Kd.R_alloc | apply Kd.R_drewN | apply Kd.R_drew)); exact HO_6.out, (blt HB).out⟩
def fd_sum.l0 : Nat → Int → List (S74) → Int → Int → Int → Int → Option (Int × Int)
 | 0, _, _, _, _, _, _ => none
 | k + 1, x0, x16, x17, x18, x117000, x117001 => if x18 < x17 then (if 0 ≤ x18 then (if x18 < (x16.length : Int) then ((fd_plus.f x0 x117000 x117001 ((rd_T74 x16 x18).f0) ((rd_T74 x16 x18).f1)).bind fun bt123 => (fd_sum.l0 k x0 x16 x17 (wrap64 (x18 + 1)) bt123.1 bt123.2)) else (none)) else (none)) else (some (x117000, x117001))
def fd_sum.f (k : Nat) (a0 : Int) (l1 : List (S74)) : Option (Int × Int) := if (l1.length : Int) = 0 then (some (0, 0)) else (if 0 < (l1.length : Int) then (if 1 ≤ (l1.length : Int) then ((some (l1.drop 1 : List (S74))).bind fun y117 => (fd_sum.l0 k a0 y117 (y117.length : Int) 0 ((rd_T74 l1 0).f0) ((rd_T74 l1 0).f1))) else (none)) else (none))
set_option maxHeartbeats 8000000 in
set_option maxRecDepth 100000 in
theorem fd_sum.calls (k : Nat) (a0 : Int) (A1 : Option Addr) (c1 : Nat) (l1 : List (S74)) (r1 : Int) (r2 : Int) (w : World) (hr1 : Kd.C k74 w A1 l1.length l1) (hc1 : l1.length ≤ c1) (h : fd_sum.f k a0 l1 = some (r1, r2)) :
  Calls Tryz.prog 90 #[.int .i64 a0, .slice A1 l1.length c1] w fun e w' => e = .returned (.agg #[.int .u64 r1, .int .u64 r2]) ∧ Below w.heap.size w w' := by
 have hu74 := Tryz.underlying74
 have HR1 := Zs.mk hr1
 have HC1 := Zs.mk hc1
 clear hr1 hc1
 have HB := Zs.mk (Below.refl w.heap.size w)
 have H : (if (l1.length : Int) = 0 then (some (0, 0)) else (if 0 < (l1.length : Int) then (if 1 ≤ (l1.length : Int) then ((some (l1.drop 1 : List (S74))).bind fun y117 => (fd_sum.l0 k a0 y117 (y117.length : Int) 0 ((rd_T74 l1 0).f0) ((rd_T74 l1 0).f1))) else (none)) else (none))) = some (r1, r2) := h
 clear h
 by_cases c3 : (l1.length : Int) = 0
 ·rw [if_pos c3] at H
  have c3b0 : ((l1.length : Int) == 0) = true := beq_iff_eq.mpr c3
  have c3b1 : ((l1.length : Int) != 0) = false := bne_eq_false_iff_eq.mpr c3
  clear c3
  simp only [Option.some.injEq, Prod.mk.injEq] at H
  obtain ⟨rfl, rfl⟩ := H
  go_enter Tryz.func90, Tryz.ntmps90
  go_wp2_with (first | ((with_reducible refine gd_ (N := 4) rfl ?_); refine bxe 4 (cs := #[.int .u64 0, .int .u64 0]) (t := 74) ?_; intro gb114 hg w4 hbox hb; have BK114 := Zs.mk hbox; have GW114 := bsz HB hg; have GE114 := bsz HB hg; replace HB := bls HB hb; clear hb hbox hg; obtain ⟨hcz5_0, hcz5_1, hfz5_0, hfz5_1⟩ := cf2 BK114))
  refine bodyPost_ret (results_cell_row rfl _ _ gb114 74 #[.int .u64 0, .int .u64 0] (0, 0) _ rfl (by (with_reducible repeat (first | refine zn ?_ _ | refine zd ?_ | refine za ?_ _)); apply bp2; (with_reducible repeat (first | refine zn ?_ _ | refine zd ?_ | refine za ?_ _)); exact BK114.out) Tryz.underlying74 rfl (by kernel_rfl)) rfl ?_
  exact fin_ (blt HB)
 ·rw [if_neg c3] at H
  have c3b0 : ((l1.length : Int) == 0) = false := beq_eq_false_iff_ne.mpr c3
  have c3b1 : ((l1.length : Int) != 0) = true := bne_iff_ne.mpr c3
  have c3b2 : ¬ (l1 = []) := fun h_ => c3 (by rw [h_]; rfl)
  by_cases c6 : 0 < (l1.length : Int)
  ·rw [if_pos c6] at H
   have c6b0 : decide (0 < (l1.length : Int)) = true := decide_eq_true c6
   have c6b1 : decide (0 < l1.length) = true := decide_eq_true (by omega)
   clear c6
   by_cases c7 : 1 ≤ (l1.length : Int)
   ·rw [if_pos c7] at H
    have c7b0 := eq_true c7
    have c7b1 : decide (1 ≤ (l1.length : Int)) = true := decide_eq_true c7
    clear c7
    obtain ⟨y117, hy117⟩ : ∃ y_ : List (S74), y_ = (l1.drop 1) := ⟨_, rfl⟩
    replace H : (fd_sum.l0 k a0 y117 (y117.length : Int) 0 ((rd_T74 l1 0).f0) ((rd_T74 l1 0).f1)) = some (r1, r2) := by first | (rw [hy117]; with_reducible exact H) | (have H2_ := (Option.bind_some _ _).symm.trans H; rw [hy117]; with_reducible exact H2_) | (have H2_ := (Option.bind_some _ _).symm.trans H; with_reducible exact H2_) | with_reducible exact H | (rw [hy117]; exact H) | exact H
    have Ny117 := Zs.mk hy117
    clear hy117
    have H' := Zs.mk H
    clear H
    go_enter Tryz.func90, Tryz.ntmps90
    go_wp2_with (first | ((with_reducible refine gd_ (N := 4) rfl ?_); refine bxe 4 (cs := #[.int .u64 0, .int .u64 0]) (t := 74) ?_; intro gb114 hg w8 hbox hb; have BK114 := Zs.mk hbox; have GW114 := bsz HB hg; have GE114 := bsz HB hg; replace HB := bls HB hb; clear hb hbox hg; have p115 : 0 ≤ (0 : Int) := (by omega); have q115 : 0 < (l1.length : Int) := of_decide_eq_true (by first | (with_reducible assumption) | assumption); obtain ⟨ad115, e115, hx115_0, hx115_1⟩ := at_T74 HR1.out 0 p115 q115; cases e115; have qi115 : (0 < l1.length) = True := eq_true (by omega); (try rw [show ((0 : Int)).toNat = 0 from rfl] at hx115_0); (try rw [show 0 * 2 = 0 from rfl] at hx115_0); (try rw [Addr.add_zero'] at hx115_0); (try rw [show ((0 : Int)).toNat = 0 from rfl] at hx115_1); (try rw [show 0 * 2 = 0 from rfl] at hx115_1); (try rw [Addr.add_zero'] at hx115_1); replace hx115_0 := (HB.out.cell (World.block_lt_of_cell? w _ hx115_0)).trans hx115_0; replace hx115_1 := (HB.out.cell (World.block_lt_of_cell? w _ hx115_1)).trans hx115_1; replace p115 := eq_true p115; replace q115 := eq_true q115) | ((with_reducible refine gd_ (N := 5) rfl ?_); refine bxe 5 (cs := #[.int .u64 0, .int .u64 0]) (t := 74) ?_; intro gb116 hg w9 hbox hb; have BK116 := Zs.mk hbox; have GW116 := bsz HB hg; have GE116 := bsz HB hg; have NB114_116 := bnl BK114 hg; have NB116_114 := bng BK114 hg; replace BK114 := bkb BK114 hb; replace HB := bls HB hb; clear hb hbox hg; have hnb10 := NB116_114.out; have hnc10 := NB114_116.out; obtain ⟨hcz11_0, hcz11_1, hfz11_0, hfz11_1⟩ := cf2 BK116) | ((with_reducible refine gate_store (t := 74) (p := 5) rfl ?_); refine store_event (t := 74) (p := 5) (v := ?vo_w12) (w1 := ((w9.setCell ⟨gb116, 0, none⟩ (.int .u64 ((rd_T74 l1 0).f0))).setCell ⟨gb116, 1, none⟩ (.int .u64 ((rd_T74 l1 0).f1)))) ?hg ?ho ?hn ?hr ?_; (case ho => rfl); (case hg => rfl); (case hn => rfl); (case hr => first | (go_simp; done) | (go_simp; rfl)); intro w12 hw; have n0_ : Zs (w12.heap[gb114]? = some (.cells #[.int .u64 0, .int .u64 0] 74 (0, 0))) := ⟨(by rw [hw]; exact (bkf BK114).out)⟩; have n1_ : Zs (w12.heap[gb116]? = some (.cells #[.int .u64 ((rd_T74 l1 0).f0), .int .u64 ((rd_T74 l1 0).f1)] 74 (0, 0))) := ⟨(by rw [hw]; exact (by (with_reducible repeat (first | refine zn ?_ _ | refine zd ?_ | refine za ?_ _)); apply bp2; (with_reducible repeat (first | refine zn ?_ _ | refine zd ?_ | refine za ?_ _)); exact BK116.out))⟩; have n2_ : Zs (Below w.heap.size w w12) := ⟨(by rw [hw]; exact (blt HB).out)⟩; clear hw; clear BK114; clear BK116; clear HB; have BK114 := n0_; have BK116 := n1_; have HB := n2_; clear n0_ n1_ n2_; have q13 : (1 : Int) ≤ ((l1.length : Int) : Int) := of_decide_eq_true (by first | (with_reducible assumption) | assumption); obtain ⟨i013, hi013, _, hsz13, _⟩ := info_parts info74; have hroom13 : l1.length ≤ c1 := HC1.out; have hC13 : Kd.C k74 _ (some ad115) l1.length l1 := HR1.out; have hcut13 := cut_from (P := Tryz.prog) 103 74 .i64 Tryz.underlying103 hi013 2 hsz13 (some ad115) l1.length c1 1 (by omega) q13; have hr13 := Kd.C_drop (m := (1 : Int).toNat) (c := c1) hC13 (by omega) hroom13; obtain ⟨A13, hA13⟩ : ∃ A_, A_ = (if c1 = (1 : Int).toNat then (some ad115) else ((some ad115) : Option Addr).map (·.add ((1 : Int).toNat * 2))) := ⟨_, rfl⟩; obtain ⟨c13, hc13⟩ : ∃ c_, c_ = c1 - (1 : Int).toNat := ⟨_, rfl⟩; have hy13 : y117.length = l1.length - (1 : Int).toNat := (by rw [Ny117.out, List.length_drop] <;> omega); rw [show (l1).drop (1 : Int).toNat = y117 from Ny117.out.symm] at hr13; replace hr13 : Kd.C k74 _ A13 y117.length y117 := (by rw [hA13]; exact hr13); rw [← hy13, ← hA13, ← hc13] at hcut13; have HR120 := Zs.mk hr13; have HC120 := Zs.mk (show y117.length ≤ c13 from by rw [hy13, hc13]; exact Nat.sub_le_sub_right hroom13 _); clear hr13 hC13 hroom13 hi013 hsz13 hc13; have KY13 := Zs.mk hy13; have KA13 := Zs.mk hA13; clear hy13 hA13; replace q13 := eq_true q13))
    go_loopg [18] k (fun kq v18 w' => ∃ (x18_1 : Int) (x117000_1 : Int) (x117001_1 : Int), v18 = .int .i64 x18_1 ∧ Zs (fd_sum.l0 kq a0 y117 (y117.length : Int) x18_1 x117000_1 x117001_1 = some (r1, r2)) ∧ Zs (kq ≤ k) ∧ Zs (w'.heap[gb114]? = some (.cells #[.int .u64 0, .int .u64 0] 74 (0, 0))) ∧ Zs (w'.heap[gb116]? = some (.cells #[.int .u64 x117000_1, .int .u64 x117001_1] 74 (0, 0))) ∧ Zs (Below w.heap.size w w'))
    case atStart => exact ⟨(0), ((rd_T74 l1 0).f0), ((rd_T74 l1 0).f1), (by first | rfl | (simp; done) | (simp [*]; done)), H', ⟨Nat.le_refl _⟩, bks BK114, bks BK116, blt HB⟩
    case round =>
     clear H'
     try clear c1
     try clear p1
     try clear q1
     try clear hx1
     try clear qi1
     try clear p2
     try clear c3
     try clear c3b0
     try clear c3b1
     try clear c3b2
     try clear c6
     try clear c6b0
     try clear c6b1
     try clear c7
     try clear c7b0
     try clear c7b1
     try clear c9
     try clear c10
     try clear p11
     try clear q11
     try clear hx11
     try clear qi11
     try clear c13
     try clear q13
     try clear hcz11_0
     try clear hcz11_1
     try clear hcz5_0
     try clear hcz5_1
     try clear hfz11_0
     try clear hfz11_1
     try clear hfz5_0
     try clear hfz5_1
     try clear hx115_0
     try clear hx115_1
     try clear p115
     try clear q115
     try clear q13
     obtain ⟨x18_1, x117000_1, x117001_1, rfl, HA, HK1, BK114, BK116, HB⟩ := hrel
     cases gk with
     | zero => exact absurd HA.out (by simp [fd_sum.l0])
     | succ k1 =>
      have H := HA.out
      clear HA
      simp only [fd_sum.l0] at H
      by_cases c14 : x18_1 < (y117.length : Int)
      ·rw [if_pos c14] at H
       have c14b0 : decide (x18_1 < (y117.length : Int)) = true := decide_eq_true c14
       clear c14
       by_cases c15 : 0 ≤ x18_1
       ·rw [if_pos c15] at H
        have c15b0 : decide (0 ≤ x18_1) = true := decide_eq_true c15
        clear c15
        by_cases c16 : x18_1 < (y117.length : Int)
        ·rw [if_pos c16] at H
         have c16b0 : decide (x18_1 < (y117.length : Int)) = true := decide_eq_true c16
         clear c16
         replace H := Option.bind_eq_some_iff.mp H
         obtain ⟨⟨t123, t124⟩, A17, H⟩ := H
         try dsimp only at H
         replace A17 := Zs.mk A17
         have H' := Zs.mk H
         clear H
         have p121 : 0 ≤ (x18_1 : Int) := of_decide_eq_true (by first | (with_reducible assumption) | assumption)
         have q121 : x18_1 < (y117.length : Int) := of_decide_eq_true (by first | (with_reducible assumption) | assumption)
         obtain ⟨ad121, e121, hx121_0, hx121_1⟩ := at_T74 HR120.out x18_1 p121 q121
         cases e121
         replace hx121_0 := (HB.out.cell (World.block_lt_of_cell? w _ hx121_0)).trans hx121_0
         replace hx121_1 := (HB.out.cell (World.block_lt_of_cell? w _ hx121_1)).trans hx121_1
         replace p121 := eq_true p121
         replace q121 := eq_true q121
         go_wp2_with (first | ((with_reducible refine gd_ (N := 7) rfl ?_); refine bxe 7 (cs := #[.int .u64 0, .int .u64 0]) (t := 74) ?_; intro gb122 hg w18 hbox hb; have BK122 := Zs.mk hbox; have GW122 := bsz HB hg; have GE122 := bsz HB hg; have NB114_122 := bnl BK114 hg; have NB122_114 := bng BK114 hg; have NB116_122 := bnl BK116 hg; have NB122_116 := bng BK116 hg; replace BK114 := bkb BK114 hb; replace BK116 := bkb BK116 hb; replace HB := bls HB hb; clear hb hbox hg; have hnb19 := NB122_114.out; have hnc19 := NB114_122.out; have hnb20 := NB122_116.out; have hnc20 := NB116_122.out; obtain ⟨hcz21_0, hcz21_1, hfz21_0, hfz21_1⟩ := cf2 BK122; have hnb22 := NB116_114.out; have hnc22 := NB114_116.out; obtain ⟨hcz23_0, hcz23_1, hfz23_0, hfz23_1⟩ := cf2 BK116) | ((with_reducible refine gc_ (f := 53) rfl ?_); refine gLc 25 Tryz.func53 (fd_plus.calls a0 x117000_1 x117001_1 ((rd_T74 y117 x18_1).f0) ((rd_T74 y117 x18_1).f1) t123 t124 _ A17.out) (fun w24 hb => ?_); replace BK114 := bkfb BK114 hb; replace BK116 := bkfb BK116 hb; replace BK122 := Zs.mk (blk_below (g := gb122) (o := .cells #[.int .u64 ((rd_T74 y117 x18_1).f0), .int .u64 ((rd_T74 y117 x18_1).f1)] 74 (0, 0)) (by (with_reducible repeat (first | refine zn ?_ _ | refine zd ?_ | refine za ?_ _)); apply bp2; (with_reducible repeat (first | refine zn ?_ _ | refine zd ?_ | refine za ?_ _)); exact BK122.out) hb); replace HB := bls HB hb; clear hb; obtain ⟨hcz25_0, hcz25_1, hfz25_0, hfz25_1⟩ := cf2 BK116))
         go_roundg k1
         case measure => have := HK1.out; omega
         case rel => exact ⟨(wrap64 (x18_1 + 1)), (t123), (t124), (by first | rfl | (simp; done) | (simp [*]; done)), H', ⟨by have := HK1.out; omega⟩, bkf BK114, ⟨by (with_reducible repeat (first | refine zn ?_ _ | refine zd ?_ | refine za ?_ _)); apply bp2; (with_reducible repeat (first | refine zn ?_ _ | refine zd ?_ | refine za ?_ _)); exact BK116.out⟩, blt HB⟩
        ·rw [if_neg c16] at H
         exact absurd H (by simp)
       ·rw [if_neg c15] at H
        exact absurd H (by simp)
      ·rw [if_neg c14] at H
       have c14b0 : decide (x18_1 < (y117.length : Int)) = false := decide_eq_false c14
       clear c14
       simp only [Option.some.injEq, Prod.mk.injEq] at H
       obtain ⟨rfl, rfl⟩ := H
       have hnb26 := NB116_114.out
       have hnc26 := NB114_116.out
       obtain ⟨hcz27_0, hcz27_1, hfz27_0, hfz27_1⟩ := cf2 BK116
       obtain ⟨hcz28_0, hcz28_1, hfz28_0, hfz28_1⟩ := cf2 BK114
       go_wp2
       refine bodyPost_ret (results_cell_row rfl _ _ gb114 74 #[.int .u64 x117000_1, .int .u64 x117001_1] (0, 0) _ rfl (by (with_reducible repeat (first | refine zn ?_ _ | refine zd ?_ | refine za ?_ _)); apply bp2; (with_reducible repeat (first | refine zn ?_ _ | refine zd ?_ | refine za ?_ _)); exact BK114.out) Tryz.underlying74 rfl (by kernel_rfl)) rfl ?_
       exact fin_ (blt HB)
   ·rw [if_neg c7] at H
    exact absurd H (by simp)
  ·rw [if_neg c6] at H
   exact absurd H (by simp)


mutual
def cx_SumOf.j0 : Nat → Int → List (S24) → Int → Int → Bool → Option (Int × Int × Int × ByteArray × Int)
 | 0, _, _, _, _, _ => none
 | k + 1, x0, x1, x6, x7, x20 => if x20 = true then (cx_SumOf.j1 k x0 x1 x6 8) else (cx_SumOf.j1 k x0 x1 x6 x7)
def cx_SumOf.j1 : Nat → Int → List (S24) → Int → Int → Option (Int × Int × Int × ByteArray × Int)
 | 0, _, _, _, _ => none
 | k + 1, x0, x1, x6, x7 => if x7 = 0 then ((cx_list.f k x0 x1).bind fun bt128 => (if bt128.2 = 0 then ((fd_sum.f k x6 bt128.1).bind fun bt132 => ((fd_value.f x6 bt132.1 bt132.2).bind fun bt134 => (some (bt134.1, bt134.2.1, bt134.2.2.1, bt134.2.2.2, 0)))) else (some (0, 0, 0, (⟨#[]⟩ : ByteArray), bt128.2)))) else (some (0, 0, 0, (⟨#[]⟩ : ByteArray), x7))
end
def cx_SumOf.f (k : Nat) (a0 : Int) (l1 : List (S24)) : Option (Int × Int × Int × ByteArray × Int) := (cx_partType.f a0).bind fun bt126 => (if bt126.2 = 0 then (cx_SumOf.j0 k a0 l1 bt126.1 bt126.2 (decide ((l1.length : Int) > 40))) else (cx_SumOf.j0 k a0 l1 bt126.1 bt126.2 false))
set_option maxHeartbeats 8000000 in
set_option maxRecDepth 100000 in
theorem cx_SumOf.calls (k : Nat) (a0 : Int) (A1 : Option Addr) (c1 : Nat) (l1 : List (S24)) (r1 : Int) (r2 : Int) (r3 : Int) (r4 : ByteArray) (r5 : Int) (w : World) (hr1 : Kd.C k24 w A1 l1.length l1) (hc1 : l1.length ≤ c1) (h : cx_SumOf.f k a0 l1 = some (r1, r2, r3, r4, r5)) :
  Calls Tryz.prog 36 #[.int .i64 a0, .slice A1 l1.length c1] w fun e w' => e = .returned (.tuple #[.agg #[.int .i64 r1, .int .u64 r2, .int .u64 r3, .string r4], .int .i64 r5]) ∧ Below w.heap.size w w' := by
 have hu24 := Tryz.underlying24
 have HR1 := Zs.mk hr1
 have HC1 := Zs.mk hc1
 clear hr1 hc1
 have HB := Zs.mk (Below.refl w.heap.size w)
 have H : ((cx_partType.f a0).bind fun bt126 => (if bt126.2 = 0 then (cx_SumOf.j0 k a0 l1 bt126.1 bt126.2 (decide ((l1.length : Int) > 40))) else (cx_SumOf.j0 k a0 l1 bt126.1 bt126.2 false))) = some (r1, r2, r3, r4, r5) := h
 clear h
 replace H := Option.bind_eq_some_iff.mp H
 obtain ⟨⟨t126, t127⟩, A3, H⟩ := H
 try dsimp only at H
 replace A3 := Zs.mk A3
 have HC4 := Zs.mk H
 clear H
 go_enter Tryz.func36, Tryz.ntmps36
 go_upto_region 2 with (first | ((with_reducible refine gd_ (N := 4) rfl ?_); (try (refine gate_guard (by rfl) ?_; dsimp only)); refine bxe 4 (cs := #[.int .i64 0, .int .u64 0, .int .u64 0, .string (⟨#[]⟩ : ByteArray)]) (t := 24) ?_; intro gb125 hg w5 hbox hb; have BK125 := Zs.mk hbox; have GW125 := bsz HB hg; have GE125 := bsz HB hg; replace HB := bls HB hb; clear hb hbox hg) | ((with_reducible refine gc_ (f := 88) rfl ?_); refine gLc 11 Tryz.func88 (cx_partType.calls a0 t126 t127 _ A3.out) (fun w6 hb => ?_); replace BK125 := bkb BK125 hb; replace HB := bls HB hb; clear hb))
 (try simp only [Act.put, List.setIfInBounds_toArray, List.set_cons_zero, List.set_cons_succ])
 go_cut [20] (fun v20 wc => ∃ (kq : Nat) (x20_3 : Bool), v20 = .bool x20_3 ∧ Zs (cx_SumOf.j0 kq a0 l1 t126 t127 x20_3 = some (r1, r2, r3, r4, r5)) ∧ Zs (kq ≤ k) ∧ Zs (wc.heap[gb125]? = some (.cells #[.int .i64 0, .int .u64 0, .int .u64 0, .string (⟨#[]⟩ : ByteArray)] 24 (0, 0))) ∧ Zs (Below w.heap.size w wc))
 case first =>
  have H := HC4.out
  clear HC4
  by_cases c7 : t127 = 0
  ·rw [if_pos c7] at H
   have c7b0 : (t127 == 0) = true := beq_iff_eq.mpr c7
   have c7b1 : (t127 != 0) = false := bne_eq_false_iff_eq.mpr c7
   clear c7
   (first | rw [c7b0] | (simp only [i64_w, i32_w]; rw [c7b0]) | skip)
   have H' := Zs.mk H
   clear H
   go_wp2
   go_meet
   case rel => exact ⟨_, (decide ((l1.length : Int) > 40)), (by first | rfl | (simp; done) | (simp [*]; done)), H', ⟨by first | omega | exact Nat.le_refl _⟩, bks BK125, blt HB⟩
  ·rw [if_neg c7] at H
   have c7b0 : (t127 == 0) = false := beq_eq_false_iff_ne.mpr c7
   have c7b1 : (t127 != 0) = true := bne_iff_ne.mpr c7
   (first | rw [c7b0] | (simp only [i64_w, i32_w]; rw [c7b0]) | skip)
   have H' := Zs.mk H
   clear H
   go_wp2
   go_meet
   case rel => exact ⟨_, (false), (by first | rfl | (simp; done) | (simp [*]; done)), H', ⟨by first | omega | exact Nat.le_refl _⟩, bks BK125, blt HB⟩
 case rest =>
  clear HC4
  try clear c1
  try clear p2
  try clear c3
  try clear c7
  try clear c7b0
  try clear c7b1
  obtain ⟨kq, x20_3, rfl, HA, HJ3, BK125, HB⟩ := hcut
  cases kq with
  | zero => exact absurd HA.out (by simp [cx_SumOf.j0])
  | succ kj3 =>
   have H := HA.out
   clear HA
   simp only [cx_SumOf.j0] at H
   have HC8 := Zs.mk H
   clear H
   go_upto_if 20 with (fail)
   go_cut [7] (fun v7 wc => ∃ (kq : Nat) (x7_7 : Int), v7 = .int .i64 x7_7 ∧ Zs (cx_SumOf.j1 kq a0 l1 t126 x7_7 = some (r1, r2, r3, r4, r5)) ∧ Zs (kq ≤ kj3) ∧ Zs (wc.heap[gb125]? = some (.cells #[.int .i64 0, .int .u64 0, .int .u64 0, .string (⟨#[]⟩ : ByteArray)] 24 (0, 0))) ∧ Zs (Below w.heap.size w wc))
   case first =>
    have H := HC8.out
    clear HC8
    by_cases c9 : x20_3 = true
    ·subst c9
     have H1 : (cx_SumOf.j1 kj3 a0 l1 t126 8) = some (r1, r2, r3, r4, r5) := by first | (rw [if_pos rfl] at H; exact H) | rfl
     clear H
     have H := H1
     clear H1
     have H' := Zs.mk H
     clear H
     go_wp2
     go_meet
     case rel => exact ⟨_, (8), (by first | rfl | (simp; done) | (simp [*]; done)), H', ⟨by have := HJ3.out; first | omega | exact Nat.le_refl _⟩, bks BK125, blt HB⟩
    ·replace c9 := Bool.eq_false_iff.mpr c9
     subst c9
     have H1 : (cx_SumOf.j1 kj3 a0 l1 t126 t127) = some (r1, r2, r3, r4, r5) := by first | (rw [if_neg (show ¬ (false = true) by decide)] at H; exact H) | rfl
     clear H
     have H := H1
     clear H1
     have H' := Zs.mk H
     clear H
     go_wp2
     go_meet
     case rel => exact ⟨_, (t127), (by first | rfl | (simp; done) | (simp [*]; done)), H', ⟨by have := HJ3.out; first | omega | exact Nat.le_refl _⟩, bks BK125, blt HB⟩
   case rest =>
    clear HC8
    try clear c1
    try clear p2
    try clear c3
    try clear c7
    try clear c7b0
    try clear c7b1
    try clear c8
    try clear c9
    try clear p2
    obtain ⟨kq, x7_7, rfl, HA, HJ7, BK125, HB⟩ := hcut
    cases kq with
    | zero => exact absurd HA.out (by simp [cx_SumOf.j1])
    | succ kj7 =>
     have H := HA.out
     clear HA
     simp only [cx_SumOf.j1] at H
     by_cases c10 : x7_7 = 0
     ·rw [if_pos c10] at H
      have c10b0 : (x7_7 == 0) = true := beq_iff_eq.mpr c10
      have c10b1 : (x7_7 != 0) = false := bne_eq_false_iff_eq.mpr c10
      clear c10
      replace H := Option.bind_eq_some_iff.mp H
      obtain ⟨⟨t128, t129⟩, A11, H⟩ := H
      try dsimp only at H
      replace A11 := Zs.mk A11
      by_cases c12 : t129 = 0
      ·rw [if_pos c12] at H
       have c12b0 : (t129 == 0) = true := beq_iff_eq.mpr c12
       have c12b1 : (t129 != 0) = false := bne_eq_false_iff_eq.mpr c12
       clear c12
       replace H := Option.bind_eq_some_iff.mp H
       obtain ⟨⟨t132, t133⟩, A13, H⟩ := H
       try dsimp only at H
       replace A13 := Zs.mk A13
       replace H := Option.bind_eq_some_iff.mp H
       obtain ⟨⟨t134, t135, t136, t137⟩, A14, H⟩ := H
       try dsimp only at H
       replace A14 := Zs.mk A14
       simp only [Option.some.injEq, Prod.mk.injEq] at H
       obtain ⟨rfl, rfl, rfl, rfl, rfl⟩ := H
       go_wp2_with (first | ((with_reducible refine gc_ (f := 89) rfl ?_); refine gL 28 Tryz.func89 #[.int .i64 a0, .slice A1 l1.length c1] ?_; (with_reducible refine (cx_list.calls kj7 a0 _ _ l1 t128 t129 _ ?side1 ?side2 A11.out).mono ?_); (case side1 => repeat (first | exact (Kd.C_below HR1.out HB.out) | (with_reducible refine Kd.C_alloc ?_ _) | (with_reducible refine Kd.C_drewN ?_ _) | (with_reducible refine Kd.C_drew ?_))); (case side2 => exact HC1.out); rintro e w15 ⟨v130, rfl, ho0, hb⟩; refine ⟨_, rfl, ?_⟩; have HO131 := Zs.mk (Kd.R_lower ho0 (below_size (blt HB).out)); replace BK125 := bkb BK125 hb; replace HB := bls HB hb; (try clear hb); (try clear hb2); (try clear hk); (try clear hi); (try clear ho0); obtain ⟨Ao16, co16, eo16⟩ := Kd.R_slice HO131.out; subst eo16) | ((with_reducible refine gc_ (f := 90) rfl ?_); refine gL 38 Tryz.func90 #[.int .i64 t126, .slice Ao16 t128.length co16] ?_; (with_reducible refine (fd_sum.calls kj7 t126 _ _ t128 t132 t133 _ ?side1 ?side2 A13.out).mono ?_); (case side1 => repeat (first | exact (Kd.R_reads' HO131.out).2.2 | (with_reducible refine Kd.C_alloc ?_ _) | (with_reducible refine Kd.C_drewN ?_ _) | (with_reducible refine Kd.C_drew ?_))); (case side2 => exact (Kd.R_reads' HO131.out).2.1); rintro e w17 ⟨rfl, hb⟩; refine ⟨_, rfl, ?_⟩; replace HO131 := Zs.mk (Kd.R_below (by (with_reducible repeat (first | apply Kd.R_alloc | apply Kd.R_drewN | apply Kd.R_drew)); exact HO131.out) hb); replace BK125 := bkb BK125 hb; replace HB := bls HB hb; clear hb) | ((with_reducible refine gc_ (f := 57) rfl ?_); refine gLc 39 Tryz.func57 (fd_value.calls t126 t132 t133 t134 t135 t136 t137 _ A14.out) (fun w18 hb => ?_); replace HO131 := Zs.mk (Kd.R_below (by (with_reducible repeat (first | apply Kd.R_alloc | apply Kd.R_drewN | apply Kd.R_drew)); exact HO131.out) hb); replace BK125 := bkb BK125 hb; replace HB := bls HB hb; clear hb; obtain ⟨hcz19_0, hcz19_1, hcz19_2, hcz19_3, hfz19_0, hfz19_1, hfz19_2, hfz19_3⟩ := cf4 BK125))
       refine bodyPost_ret (results_ct rfl _ _ gb125 24 #[.int .i64 t134, .int .u64 t135, .int .u64 t136, .string t137] (0, 0) _ rfl (by (with_reducible repeat (first | refine zn ?_ _ | refine zd ?_ | refine za ?_ _)); apply bp4; (with_reducible repeat (first | refine zn ?_ _ | refine zd ?_ | refine za ?_ _)); exact BK125.out) Tryz.underlying24 rfl (by kernel_rfl)) rfl ?_
       exact fin_ (blt HB)
      ·rw [if_neg c12] at H
       have c12b0 : (t129 == 0) = false := beq_eq_false_iff_ne.mpr c12
       have c12b1 : (t129 != 0) = true := bne_iff_ne.mpr c12
       simp only [Option.some.injEq, Prod.mk.injEq] at H
       obtain ⟨rfl, rfl, rfl, rfl, rfl⟩ := H
       go_wp2_with (first | ((with_reducible refine gc_ (f := 89) rfl ?_); refine gL 28 Tryz.func89 #[.int .i64 a0, .slice A1 l1.length c1] ?_; (with_reducible refine (cx_list.calls kj7 a0 _ _ l1 t128 t129 _ ?side1 ?side2 A11.out).mono ?_); (case side1 => repeat (first | exact (Kd.C_below HR1.out HB.out) | (with_reducible refine Kd.C_alloc ?_ _) | (with_reducible refine Kd.C_drewN ?_ _) | (with_reducible refine Kd.C_drew ?_))); (case side2 => exact HC1.out); rintro e w20 ⟨v130, rfl, ho0, hb⟩; refine ⟨_, rfl, ?_⟩; have HO131 := Zs.mk (Kd.R_lower ho0 (below_size (blt HB).out)); replace BK125 := bkb BK125 hb; replace HB := bls HB hb; (try clear hb); (try clear hb2); (try clear hk); (try clear hi); (try clear ho0); obtain ⟨hcz21_0, hcz21_1, hcz21_2, hcz21_3, hfz21_0, hfz21_1, hfz21_2, hfz21_3⟩ := cf4 BK125))
       refine bodyPost_ret (results_ct rfl _ _ gb125 24 #[.int .i64 0, .int .u64 0, .int .u64 0, .string (⟨#[]⟩ : ByteArray)] (0, 0) _ rfl (by (with_reducible repeat (first | refine zn ?_ _ | refine zd ?_ | refine za ?_ _)); apply bp4; (with_reducible repeat (first | refine zn ?_ _ | refine zd ?_ | refine za ?_ _)); exact BK125.out) Tryz.underlying24 rfl (by kernel_rfl)) rfl ?_
       exact fin_ (blt HB)
     ·rw [if_neg c10] at H
      have c10b0 : (x7_7 == 0) = false := beq_eq_false_iff_ne.mpr c10
      have c10b1 : (x7_7 != 0) = true := bne_iff_ne.mpr c10
      simp only [Option.some.injEq, Prod.mk.injEq] at H
      obtain ⟨rfl, rfl, rfl, rfl, rfl⟩ := H
      obtain ⟨hcz22_0, hcz22_1, hcz22_2, hcz22_3, hfz22_0, hfz22_1, hfz22_2, hfz22_3⟩ := cf4 BK125
      go_wp2
      refine bodyPost_ret (results_ct rfl _ _ gb125 24 #[.int .i64 0, .int .u64 0, .int .u64 0, .string (⟨#[]⟩ : ByteArray)] (0, 0) _ rfl (by (with_reducible repeat (first | refine zn ?_ _ | refine zd ?_ | refine za ?_ _)); apply bp4; (with_reducible repeat (first | refine zn ?_ _ | refine zd ?_ | refine za ?_ _)); exact BK125.out) Tryz.underlying24 rfl (by kernel_rfl)) rfl ?_
      exact fin_ (blt HB)
def bs_CopyValues.f (l0 : List (S24)) : Option ((List (S24))) := (some (([] : List (S24)) : List (S24))).bind fun y138 => (if y138.length + l0.length < 3518437208883 then (some (y138 ++ l0)) else (none))
set_option maxHeartbeats 8000000 in
set_option maxRecDepth 100000 in
theorem bs_CopyValues.calls (A0 : Option Addr) (c0 : Nat) (l0 : List (S24)) (r : List (S24)) (w : World) (hr0 : Kd.C k24 w A0 l0.length l0) (hc0 : l0.length ≤ c0) (h : bs_CopyValues.f l0 = some r) :
  Calls Tryz.prog 37 #[.slice A0 l0.length c0] w fun e w' => ∃ v0_ : Value, e = .returned (v0_) ∧ Kd.R k24 24 w' w.heap.size (fun _ => True) v0_ r ∧ Below w.heap.size w w' := by
 have HR0 := Zs.mk hr0
 have HC0 := Zs.mk hc0
 clear hr0 hc0
 have HB := Zs.mk (Below.refl w.heap.size w)
 have H : ((some (([] : List (S24)) : List (S24))).bind fun y138 => (if y138.length + l0.length < 3518437208883 then (some (y138 ++ l0)) else (none))) = some r := h
 clear h
 obtain ⟨y138, hy138⟩ : ∃ y_ : List (S24), y_ = (([] : List (S24))) := ⟨_, rfl⟩
 replace H : (if y138.length + l0.length < 3518437208883 then (some (y138 ++ l0)) else (none)) = some r := by first | (rw [hy138]; with_reducible exact H) | (have H2_ := (Option.bind_some _ _).symm.trans H; rw [hy138]; with_reducible exact H2_) | (have H2_ := (Option.bind_some _ _).symm.trans H; with_reducible exact H2_) | with_reducible exact H | (rw [hy138]; exact H) | exact H
 have Ny138 := Zs.mk hy138
 clear hy138
 by_cases c2 : y138.length + l0.length < 3518437208883
 ·rw [if_pos c2] at H
  have LMc2 := Zs.mk c2
  clear c2
  obtain ⟨y141, hy141⟩ : ∃ y_ : List (S24), y_ = (y138 ++ l0) := ⟨_, rfl⟩
  replace H : (some y141) = some r := by first | (rw [hy141]; with_reducible exact H) | (have H2_ := (Option.bind_some _ _).symm.trans H; rw [hy141]; with_reducible exact H2_) | (have H2_ := (Option.bind_some _ _).symm.trans H; with_reducible exact H2_) | with_reducible exact H | (rw [hy141]; exact H) | exact H
  have Ny141 := Zs.mk hy141
  clear hy141
  obtain rfl := Option.some.inj H
  go_enter Tryz.func37, Tryz.ntmps37
  go_wp2_with (first | ((with_reducible refine gd_ (N := 3) rfl ?_); refine Kd.R_lit k24 _ 24 ?hg (N := 3) ?hd (xs := ([] : List (S24))) (inner := []) (ok := fun _ => True) (okp := fun _ => True) ?hr ?hp (fun _ hk => hk) trivial (Below.refl _ _) (Nat.le_refl _) (by simp) ?_; (case hd => rfl); (case hg => rfl); (case hr => first | (go_simp; done) | (go_simp; rfl)); (case hp => exact (Reps.none _ _)); intro v139 w3 ho4 hb hg_ hnew_; clear hg_ hnew_; (first | rw [← Ny138.out] at ho4 | (simp only [Int.reduceToNat] at ho4; rw [← Ny138.out] at ho4)); have HO140 := Zs.mk (Kd.R_lower ho4 (below_size (blt HB).out)); replace HB := bls HB hb; clear hb ho4) | ((with_reducible refine gate_builtin (b := .append) (xs := #[.tmp 3, .tmp 4]) rfl ?_); at_builtin; refine Kd.R_append_rows k24 (w0 := w) w.heap.size rfl (.tmp 3) (.tmp 4) 52 24 (.agg #[(.int .i64 0), (.int .u64 0), (.int .u64 0), (.string ⟨#[]⟩)]) 40 rfl Tryz.underlying52 info24 rfl (by decide) (by omega) v139 y138 l0 _ _ _ (fun _ => True) (fun _ => False) rfl rfl ?aO ?aR (fun _ _ h => h) (fun _ h => h.elim) ?aF ?aB ?aS ?aL ?_; (case aR => repeat (first | exact (Kd.C_below HR0.out HB.out) | (with_reducible refine Kd.C_alloc ?_ _) | (with_reducible refine Kd.C_drewN ?_ _) | (with_reducible refine Kd.C_drew ?_))); (case aB => exact (blt HB).out); (case aF => exact (fun _ _ => trivial)); (case aO => exact (by (with_reducible repeat (first | apply Kd.R_alloc | apply Kd.R_drewN | apply Kd.R_drew)); exact HO140.out)); (case aS => exact (below_size (blt HB).out)); (case aL => have := LMc2.out; omega); intro v142 w5 ho hb hg hat; rw [← Ny141.out] at ho; have n0_ := Zs.mk (hb); have n1_ := Zs.mk (ho); clear HB; clear HO140; have HB := n0_; have HO143 := n1_; clear n0_ n1_; clear ho hb hg hat))
  go_ret
  exact ⟨_, by first | rfl | (simp [errW_none, errW_some] <;> rfl) | (simp [*, errW_none, errW_some] <;> rfl), by (with_reducible repeat (first | apply Kd.R_alloc | apply Kd.R_drewN | apply Kd.R_drew)); exact HO143.out, (blt HB).out⟩
 ·rw [if_neg c2] at H
  exact absurd H (by simp)
end Go.Proofs.YtmoimcblmmcffaaGreat.PLS
