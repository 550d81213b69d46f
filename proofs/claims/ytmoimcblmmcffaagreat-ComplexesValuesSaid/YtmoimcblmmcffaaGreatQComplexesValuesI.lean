/- Contracts and plain laws that the law ComplexesValues leans on (texts joined by program; what it does not come to is left out). -/
import Derived.Test.YtmoimcblmmcffaaGreatQComplexesValuesA
import Derived.Test.YtmoimcblmmcffaaGreatQComplexesValuesF
import Derived.Test.YtmoimcblmmcffaaGreatQComplexesValuesG
import Derived.Test.YtmoimcblmmcffaaGreatQComplexesValuesH
import Derived.Test.YtmoimcblmmcffaaGreatProg
import Derived.Below
import Derived.Deep.Draws
import Derived.Deep.AppendLies
import Derived.Maps.AppendAt
import Derived.OwnWalk
import Derived.Laws.BytesArg
import Derived.Laws.MakeOwn
import Derived.Laws.OwnMore
import Derived.Deep.OwnRows
import Derived.Tactics
import Derived.Lib.ConvBytes
import Derived.Laws.Slices
import Derived.WalkKit
import Derived.KernelRfl
import Derived.RowKit3
import Derived.Deep.LoopGhost
import Derived.Deep.QuietTactic
import Derived.BigQuiet
import Derived.WideLaws
import Derived.Deep.DeepCutAuto
import Derived.Deep.CutBlock
import Derived.Deep.RegionHeld3
import Derived.Laws.Rows
import Derived.Lib.AppendStr
import Derived.ArgAppend
import Derived.Laws.IdiomCopy
import Derived.OrdersHeld
import Derived.Laws.BitsLemmas
import Derived.RowKit
import Derived.Test.YtmoimcblmmcffaaGreatQComplexesValuesE

namespace Go.Proofs.YtmoimcblmmcffaaGreat.PPC
open Go.RowKit Go.Proofs.YtmoimcblmmcffaaGreatW.PrintWords Go.Proofs.YtmoimcblmmcffaaGreatW.PrintLast Go.Proofs.YtmoimcblmmcffaaGreatW.PrintMore Go.Proofs.YtmoimcblmmcffaaGreatW.PrintZ
attribute [local go_sem] max2_int min2_int max_two min_two max_three min_three max_four min_four   -- for this text's walks alone
set_option linter.unusedVariables false
set_option linter.unusedSimpArgs false


mutual
def cx_DotOf.j0 : Nat → Int → List (S24) → List (S24) → Int → Int → Option (Int × Int × Int × ByteArray × Int)
 | 0, _, _, _, _, _ => none
 | k + 1, x0, x1, x2, x8, x9 => if x9 = 0 then ((cx_list.f k x0 x1).bind fun bt259 => (if bt259.2 = 0 then ((cx_list.f k x0 x2).bind fun bt263 => (if bt263.2 = 0 then (cx_DotOf.l0 k x8 bt259.1 bt263.1 (bt259.1.length : Int) 0) else (some (0, 0, 0, (⟨#[]⟩ : ByteArray), bt263.2)))) else (some (0, 0, 0, (⟨#[]⟩ : ByteArray), bt259.2)))) else (some (0, 0, 0, (⟨#[]⟩ : ByteArray), x9))
def cx_DotOf.l0 : Nat → Int → List (S74) → List (S74) → Int → Int → Option (Int × Int × Int × ByteArray × Int)
 | 0, _, _, _, _, _ => none
 | k + 1, x8, x10, x11, x56, x57 => if x57 < x56 then (if 0 ≤ x57 then (if x57 < (x10.length : Int) then ((fd_conjugate.f x8 ((rd_T74 x10 x57).f0) ((rd_T74 x10 x57).f1)).bind fun bt268 => (if x57 < (x11.length : Int) then ((fd_times.f x8 bt268.1 bt268.2 ((rd_T74 x11 x57).f0) ((rd_T74 x11 x57).f1)).bind fun bt271 => (cx_DotOf.l0 k x8 (x10.set (x57 : Int).toNat (⟨bt271.1, bt271.2⟩ : S74)) x11 x56 (wrap64 (x57 + 1)))) else (none))) else (none)) else (none)) else ((fd_sum.f x8 x10).bind fun bt274 => ((fd_value.f x8 bt274.1 bt274.2).bind fun bt276 => (some (bt276.1, bt276.2.1, bt276.2.2.1, bt276.2.2.2, 0))))
end
def cx_DotOf.f (k : Nat) (a0 : Int) (l1 : List (S24)) (l2 : List (S24)) : Option (Int × Int × Int × ByteArray × Int) := (cx_partType.f a0).bind fun bt257 => (if bt257.2 = 0 then (if (l1.length : Int) = (l2.length : Int) then (if (l1.length : Int) > 40 then (cx_DotOf.j0 k a0 l1 l2 bt257.1 8) else (cx_DotOf.j0 k a0 l1 l2 bt257.1 bt257.2)) else (cx_DotOf.j0 k a0 l1 l2 bt257.1 10)) else (cx_DotOf.j0 k a0 l1 l2 bt257.1 bt257.2))
def cx_DotOf.T18 : Bool × List (List Nat × List Nat) := (true, [([], []), ([], []), ([], []), ([], []), ([], []), ([], []), ([4, 5], [4, 5]), ([6], [6]), ([3, 7], [3, 7]), ([], []), ([], []), ([9, 10], [9, 10]), ([11], [11]), ([2, 8, 12, 8], [2, 8, 12]), ([0, 1, 0, 1, 2, 3, 4, 5, 6, 7, 8, 9, 10, 11, 12, 13], [0, 1]), ([14, 13, 13, 0, 1, 2, 3, 4, 5, 6, 7, 8, 9, 10, 11, 12, 13], [13, 14])])
def cx_DotOf.B18 : List Nat := [0, 0, 0, 0, 0, 0, 48, 112, 248, 0, 0, 1536, 3584, 8188, 16383, 32767]
theorem cx_DotOf.tab18 : rtab .any (opsOf Tryz.f38 18) = cx_DotOf.T18 := by kernel_rfl
theorem cx_DotOf.bits18 : waitsOk cx_DotOf.T18.2 cx_DotOf.B18 = true := by kernel_rfl
set_option maxHeartbeats 8000000 in
set_option maxRecDepth 100000 in
theorem cx_DotOf.calls (k : Nat) (a0 : Int) (A1 : Option Addr) (c1 : Nat) (l1 : List (S24)) (A2 : Option Addr) (c2 : Nat) (l2 : List (S24)) (r1 : Int) (r2 : Int) (r3 : Int) (r4 : ByteArray) (r5 : Int) (w : World) (hr1 : Kd.C k24 w A1 l1.length l1) (hc1 : l1.length ≤ c1) (hr2 : Kd.C k24 w A2 l2.length l2) (hc2 : l2.length ≤ c2) (h : cx_DotOf.f k a0 l1 l2 = some (r1, r2, r3, r4, r5)) :
  Calls Tryz.prog 38 #[.int .i64 a0, .slice A1 l1.length c1, .slice A2 l2.length c2] w fun e w' => e = .returned (.tuple #[.agg #[.int .i64 r1, .int .u64 r2, .int .u64 r3, .string r4], .int .i64 r5]) ∧ Below w.heap.size w w' := by
 have hu24 := Tryz.underlying24
 have hu74 := Tryz.underlying74
 have HR1 := Aside0.mk hr1
 have HC1 := Aside0.mk hc1
 clear hr1 hc1
 have HR2 := Aside0.mk hr2
 have HC2 := Aside0.mk hc2
 clear hr2 hc2
 have HB := Aside0.mk (Below.refl w.heap.size w)
 have H : ((cx_partType.f a0).bind fun bt257 => (if bt257.2 = 0 then (if (l1.length : Int) = (l2.length : Int) then (if (l1.length : Int) > 40 then (cx_DotOf.j0 k a0 l1 l2 bt257.1 8) else (cx_DotOf.j0 k a0 l1 l2 bt257.1 bt257.2)) else (cx_DotOf.j0 k a0 l1 l2 bt257.1 10)) else (cx_DotOf.j0 k a0 l1 l2 bt257.1 bt257.2))) = some (r1, r2, r3, r4, r5) := h
 clear h
 replace H := Option.bind_eq_some_iff.mp H
 obtain ⟨⟨t257, t258⟩, A4, H⟩ := H
 try dsimp only at H
 replace A4 := Aside0.mk A4
 have HC5 := Aside0.mk H
 clear H
 go_enter Tryz.func38, Tryz.ntmps38
 go_upto_block 0 with (first | ((with_reducible refine gate_dst (N := 6) rfl ?_); refine bxe 6 (cs := #[.int .i64 0, .int .u64 0, .int .u64 0, .string (⟨#[]⟩ : ByteArray)]) (t := 24) ?_; intro gb256 hg w6 hbox hb; have BK256 := Aside0.mk hbox; have GW256 := bsz HB hg; have GE256 := bsz HB hg; replace HB := bls HB hb; clear hb hbox hg) | ((with_reducible refine gate_callee (f := 88) rfl ?_); refine gL 15 Tryz.func88 #[.int .i64 a0] ?_; (with_reducible refine (cx_partType.calls a0 t257 t258 _ A4.out).mono ?_); rintro e w7 ⟨rfl, hb⟩; refine ⟨_, rfl, ?_⟩; replace BK256 := bkb BK256 hb; replace HB := bls HB hb; clear hb))
 (try simp only [Act.put, List.setIfInBounds_toArray, List.set_cons_zero, List.set_cons_succ])
 go_cut [9] (fun v9 wc => ∃ (kq : Nat) (x9_4 : Int), v9 = .int .i64 x9_4 ∧ Aside0 (cx_DotOf.j0 kq a0 l1 l2 t257 x9_4 = some (r1, r2, r3, r4, r5)) ∧ Aside0 (kq ≤ k) ∧ Aside0 (wc.heap[gb256]? = some (.cells #[.int .i64 0, .int .u64 0, .int .u64 0, .string (⟨#[]⟩ : ByteArray)] 24 (0, 0))) ∧ Aside0 (Below w.heap.size w wc))
 case first =>
  have H := HC5.out
  clear HC5
  by_cases c8 : t258 = 0
  ·rw [if_pos c8] at H
   have c8b0 : (t258 == 0) = true := beq_iff_eq.mpr c8
   have c8b1 : (t258 != 0) = false := bne_eq_false_iff_eq.mpr c8
   clear c8
   (first | rw [c8b0] | (simp only [i64_w, i32_w]; rw [c8b0]) | skip)
   by_cases c9 : (l1.length : Int) = (l2.length : Int)
   ·rw [if_pos c9] at H
    have c9b0 : ((l1.length : Int) == (l2.length : Int)) = true := beq_iff_eq.mpr c9
    have c9b1 : ((l1.length : Int) != (l2.length : Int)) = false := bne_eq_false_iff_eq.mpr c9
    have c9b2 : (l1.length == l2.length) = true := by first | simpa using c9 | (simp at c9 ⊢; omega)
    clear c9
    by_cases c10 : (l1.length : Int) > 40
    ·rw [if_pos c10] at H
     have c10b0 : decide (40 < (l1.length : Int)) = true := decide_eq_true c10
     have c10b1 : decide (40 < l1.length) = true := decide_eq_true (by omega)
     clear c10
     have H' := Aside0.mk H
     clear H
     go_wp2
     go_meet
     case rel => exact ⟨_, (8), (by first | rfl | (simp; done) | (simp [*]; done)), H', ⟨by first | omega | exact Nat.le_refl _⟩, bks BK256, blt HB⟩
    ·rw [if_neg c10] at H
     have c10b0 : decide (40 < (l1.length : Int)) = false := decide_eq_false c10
     have c10b1 : decide (40 < l1.length) = false := decide_eq_false (by omega)
     clear c10
     have H' := Aside0.mk H
     clear H
     go_wp2
     go_meet
     case rel => exact ⟨_, (t258), (by first | rfl | (simp; done) | (simp [*]; done)), H', ⟨by first | omega | exact Nat.le_refl _⟩, bks BK256, blt HB⟩
   ·rw [if_neg c9] at H
    have c9b0 : ((l1.length : Int) == (l2.length : Int)) = false := beq_eq_false_iff_ne.mpr c9
    have c9b1 : ((l1.length : Int) != (l2.length : Int)) = true := bne_iff_ne.mpr c9
    have c9b2 : (l1.length == l2.length) = false := by first | simpa using c9 | (simp at c9 ⊢; omega)
    have H' := Aside0.mk H
    clear H
    go_wp2
    go_meet
    case rel => exact ⟨_, (10), (by first | rfl | (simp; done) | (simp [*]; done)), H', ⟨by first | omega | exact Nat.le_refl _⟩, bks BK256, blt HB⟩
  ·rw [if_neg c8] at H
   have c8b0 : (t258 == 0) = false := beq_eq_false_iff_ne.mpr c8
   have c8b1 : (t258 != 0) = true := bne_iff_ne.mpr c8
   (first | rw [c8b0] | (simp only [i64_w, i32_w]; rw [c8b0]) | skip)
   have H' := Aside0.mk H
   clear H
   go_wp2
   go_meet
   case rel => exact ⟨_, (t258), (by first | rfl | (simp; done) | (simp [*]; done)), H', ⟨by first | omega | exact Nat.le_refl _⟩, bks BK256, blt HB⟩
 case rest =>
  clear HC5
  try clear c1
  try clear c2
  try clear p2
  try clear c3
  try clear c8
  try clear c8b0
  try clear c8b1
  try clear c9
  try clear c9b0
  try clear c9b1
  try clear c9b2
  try clear c10
  try clear c10b0
  try clear c10b1
  obtain ⟨kq, x9_4, rfl, HA, HJ4, BK256, HB⟩ := hcut
  cases kq with
  | zero => exact absurd HA.out (by simp [cx_DotOf.j0])
  | succ kj4 =>
   have H := HA.out
   clear HA
   simp only [cx_DotOf.j0] at H
   by_cases c11 : x9_4 = 0
   ·rw [if_pos c11] at H
    have c11b0 : (x9_4 == 0) = true := beq_iff_eq.mpr c11
    have c11b1 : (x9_4 != 0) = false := bne_eq_false_iff_eq.mpr c11
    clear c11
    replace H := Option.bind_eq_some_iff.mp H
    obtain ⟨⟨t259, t260⟩, A12, H⟩ := H
    try dsimp only at H
    replace A12 := Aside0.mk A12
    by_cases c13 : t260 = 0
    ·rw [if_pos c13] at H
     have c13b0 : (t260 == 0) = true := beq_iff_eq.mpr c13
     have c13b1 : (t260 != 0) = false := bne_eq_false_iff_eq.mpr c13
     clear c13
     replace H := Option.bind_eq_some_iff.mp H
     obtain ⟨⟨t263, t264⟩, A14, H⟩ := H
     try dsimp only at H
     replace A14 := Aside0.mk A14
     by_cases c15 : t264 = 0
     ·rw [if_pos c15] at H
      have c15b0 : (t264 == 0) = true := beq_iff_eq.mpr c15
      have c15b1 : (t264 != 0) = false := bne_eq_false_iff_eq.mpr c15
      clear c15
      have H' := Aside0.mk H
      clear H
      go_wp2_with (first | ((with_reducible refine gate_callee (f := 89) rfl ?_); refine gL 38 Tryz.func89 #[.int .i64 a0, .slice A1 l1.length c1] ?_; (with_reducible refine (cx_list.calls kj4 a0 _ _ l1 t259 t260 _ ?side1 ?side2 A12.out).mono ?_); (case side1 => repeat (first | exact (Kd.C_below HR1.out HB.out) | (with_reducible refine Kd.C_alloc ?_ _) | (with_reducible refine Kd.C_drewN ?_ _) | (with_reducible refine Kd.C_drew ?_))); (case side2 => exact HC1.out); rintro e w16 ⟨v261, rfl, ho0, hb⟩; refine ⟨_, rfl, ?_⟩; have HO262 := Aside0.mk (Kd.R_lower ho0 (below_size (blt HB).out)); replace BK256 := bkb BK256 hb; replace HB := bls HB hb; (try clear hb); (try clear hb2); (try clear hk); (try clear hi); (try clear ho0)) | ((with_reducible refine gate_callee (f := 89) rfl ?_); refine gL 48 Tryz.func89 #[.int .i64 a0, .slice A2 l2.length c2] ?_; (with_reducible refine (cx_list.calls kj4 a0 _ _ l2 t263 t264 _ ?side1 ?side2 A14.out).mono ?_); (case side1 => repeat (first | exact (Kd.C_below HR2.out HB.out) | (with_reducible refine Kd.C_alloc ?_ _) | (with_reducible refine Kd.C_drewN ?_ _) | (with_reducible refine Kd.C_drew ?_))); (case side2 => exact HC2.out); rintro e w17 ⟨v265, rfl, ho0, hb⟩; refine ⟨_, rfl, ?_⟩; have HO266 := Aside0.mk (Kd.R_lower (Kd.R_new' ho0 (Kd.R_lt (by (with_reducible repeat (first | apply Kd.R_alloc | apply Kd.R_drewN | apply Kd.R_drew)); exact HO262.out))) (below_size (blt HB).out)); replace HO262 := Aside0.mk (Kd.R_elder' (by (with_reducible repeat (first | apply Kd.R_alloc | apply Kd.R_drewN | apply Kd.R_drew)); exact HO262.out) (Kd.R_base ho0) hb); replace BK256 := bkb BK256 hb; replace HB := bls HB hb; (try clear hb); (try clear hb2); (try clear hk); (try clear hi); (try clear ho0); obtain ⟨Ao18, co18, eo18⟩ := Kd.R_slice HO262.out; subst eo18))
      go_loopg [57] kj4 (fun kq v57 w' => ∃ (x10_2 : List (S74)) (x57_2 : Int), v57 = .int .i64 x57_2 ∧ Aside0 (cx_DotOf.l0 kq t257 x10_2 t263 (t259.length : Int) x57_2 = some (r1, r2, r3, r4, r5)) ∧ Aside0 (kq ≤ kj4) ∧ Aside0 (Kd.R k74 74 w' w.heap.size (fun k_ => some k_ ≠ (v265 : Value).ownBlock) (.slice Ao18 t259.length co18) x10_2) ∧ Aside0 (Kd.R k74 74 w' w.heap.size (fun k_ => some k_ ≠ ((.slice Ao18 t259.length co18) : Value).ownBlock) v265 t263) ∧ Aside0 (w'.heap[gb256]? = some (.cells #[.int .i64 0, .int .u64 0, .int .u64 0, .string (⟨#[]⟩ : ByteArray)] 24 (0, 0))) ∧ Aside0 (Below w.heap.size w w'))
      case atStart => exact ⟨(t259), (0), (by first | rfl | (simp; done) | (simp [*]; done)), H', ⟨Nat.le_refl _⟩, ⟨by (with_reducible repeat (first | apply Kd.R_alloc | apply Kd.R_drewN | apply Kd.R_drew)); exact Kd.R_mono HO262.out (fun _ hk => hk.2)⟩, ⟨by (with_reducible repeat (first | apply Kd.R_alloc | apply Kd.R_drewN | apply Kd.R_drew)); exact Kd.R_mono HO266.out (fun _ hk => hk.2)⟩, bks BK256, blt HB⟩
      case round =>
       clear H'
       try clear c1
       try clear c2
       try clear p2
       try clear c3
       try clear c8
       try clear c8b0
       try clear c8b1
       try clear c9
       try clear c9b0
       try clear c9b1
       try clear c9b2
       try clear c10
       try clear c10b0
       try clear c10b1
       try clear c11
       try clear c11b0
       try clear c11b1
       try clear c13
       try clear c13b0
       try clear c13b1
       try clear c15
       try clear c15b0
       try clear c15b1
       try clear p2
       obtain ⟨x10_2, x57_2, rfl, HA, HK2, HO_10, HO_11, BK256, HB⟩ := hrel
       have hl10_2 := (Kd.R_reads' HO_10.out).1
       rw [hl10_2] at HO_10
       (try simp only [hl10_2])
       (try simp only [hl10_2] at BK256)
       (try simp only [hl10_2] at HO_11)
       cases gk with
       | zero => exact absurd HA.out (by simp [cx_DotOf.l0])
       | succ k2 =>
        have H := HA.out
        clear HA
        simp only [cx_DotOf.l0] at H
        by_cases c19 : x57_2 < (t259.length : Int)
        ·rw [if_pos c19] at H
         have c19b0 : decide (x57_2 < (t259.length : Int)) = true := decide_eq_true c19
         clear c19
         by_cases c20 : 0 ≤ x57_2
         ·rw [if_pos c20] at H
          have c20b0 : decide (0 ≤ x57_2) = true := decide_eq_true c20
          clear c20
          by_cases c21 : x57_2 < (x10_2.length : Int)
          ·rw [if_pos c21] at H
           have c21b0 : decide (x57_2 < (x10_2.length : Int)) = true := decide_eq_true c21
           clear c21
           replace H := Option.bind_eq_some_iff.mp H
           obtain ⟨⟨t268, t269⟩, A22, H⟩ := H
           try dsimp only at H
           replace A22 := Aside0.mk A22
           by_cases c23 : x57_2 < (t263.length : Int)
           ·rw [if_pos c23] at H
            have c23b0 : decide (x57_2 < (t263.length : Int)) = true := decide_eq_true c23
            clear c23
            replace H := Option.bind_eq_some_iff.mp H
            obtain ⟨⟨t271, t272⟩, A24, H⟩ := H
            try dsimp only at H
            replace A24 := Aside0.mk A24
            obtain ⟨y273, hy273⟩ : ∃ y_ : List (S74), y_ = (x10_2.set (x57_2 : Int).toNat (⟨t271, t272⟩ : S74)) := ⟨_, rfl⟩
            replace H : (cx_DotOf.l0 k2 t257 y273 t263 (t259.length : Int) (wrap64 (x57_2 + 1))) = some (r1, r2, r3, r4, r5) := by first | (rw [hy273]; with_reducible exact H) | (have H2_ := (Option.bind_some _ _).symm.trans H; rw [hy273]; with_reducible exact H2_) | (have H2_ := (Option.bind_some _ _).symm.trans H; with_reducible exact H2_) | with_reducible exact H | (rw [hy273]; exact H) | exact H
            have Ny273 := Aside0.mk hy273
            clear hy273
            have H' := Aside0.mk H
            clear H
            try go_wp2
            replace HO_10 := Aside0.mk (Kd.R_drew HO_10.out)
            replace HO_11 := Aside0.mk (Kd.R_drew HO_11.out)
            replace BK256 := Aside0.mk (blk_drew BK256.out)
            replace HB := Aside0.mk (below_drew1 HB.out)
            have p267 : 0 ≤ (x57_2 : Int) := of_decide_eq_true (by first | (with_reducible assumption) | assumption)
            have q267 : x57_2 < (x10_2.length : Int) := of_decide_eq_true (by first | (with_reducible assumption) | assumption)
            obtain ⟨ad267, e267, hx267_0, hx267_1⟩ := at_T74 (Kd.R_reads' HO_10.out).2.2 x57_2 p267 q267
            cases e267
            replace p267 := eq_true p267
            replace q267 := eq_true q267
            obtain ⟨Ao27, co27, eo27⟩ := Kd.R_slice HO_11.out
            (first | subst eo27 | (injection eo27 with f1_ f2_ f3_; have f4_ := f1_.symm; have f5_ := f3_.symm; clear f1_ f2_ f3_; subst f4_; subst f5_))
            have p270 : 0 ≤ (x57_2 : Int) := of_decide_eq_true (by first | (with_reducible assumption) | assumption)
            have q270 : x57_2 < (t263.length : Int) := of_decide_eq_true (by first | (with_reducible assumption) | assumption)
            obtain ⟨ad270, e270, hx270_0, hx270_1⟩ := at_T74 (Kd.R_reads' HO_11.out).2.2 x57_2 p270 q270
            cases e270
            replace p270 := eq_true p270
            replace q270 := eq_true q270
            refine start_ (n := 16) (S := fun w' => w'.cell? (ad267.add ((x57_2).toNat * 2)) = some (.int .u64 ((rd_T74 x10_2 x57_2).f0)) ∧ w'.cell? ⟨(ad267.add ((x57_2).toNat * 2)).block, (ad267.add ((x57_2).toNat * 2)).off + 1, none⟩ = some (.int .u64 ((rd_T74 x10_2 x57_2).f1)) ∧ w'.cell? (ad270.add ((x57_2).toNat * 2)) = some (.int .u64 ((rd_T74 t263 x57_2).f0)) ∧ w'.cell? ⟨(ad270.add ((x57_2).toNat * 2)).block, (ad270.add ((x57_2).toNat * 2)).off + 1, none⟩ = some (.int .u64 ((rd_T74 t263 x57_2).f1))) (ds := [15]) #[false, false, false, false, false, false, false, false, false, false, false, false, false, false, false, false] (by kernel_rfl) rfl rfl ⟨hx267_0, hx267_1, hx270_0, hx270_1⟩ (fun hHeld => ?_); refine with_tabW cx_DotOf.tab18 cx_DotOf.bits18 (fun HT_ HW_ => ?_)
            generalize wr.drew = w26 at HO_10 HO_11 BK256 HB hx267_0 hx267_1 hx270_0 hx270_1 hHeld ⊢
            refine pu 0 60 HT_ ?_
            refine pu 1 61 HT_ ?_
            refine pu 2 62 HT_ ?_
            refine pu 3 63 HT_ ?_
            refine pu 4 64 HT_ ?_
            refine pu 5 65 HT_ ?_
            refine pu 6 66 HT_ ?_
            refine pu 9 69 HT_ ?_
            refine pu 10 70 HT_ ?_
            refine pu 11 71 HT_ ?_
            refine tk 7 67 HT_ HW_ hHeld ?_
            refine tk 12 72 HT_ HW_ hHeld ?_
            refine one_ (i := 8) (N := some 68) #[true, true, true, true, true, true, true, true, true, true, true, true, true, false, false, false] rfl rfl (one_of HT_.out (by kernel_rfl)) (by decide) (fun K hK => ?_)
            refine goes_ Tryz.func78 (by kernel_rfl) rfl #[.int .i64 t257, .agg #[.int .u64 ((rd_T74 x10_2 x57_2).f0), .int .u64 ((rd_T74 x10_2 x57_2).f1)]] (by rfl) rfl rfl (by (try simp only [List.map_toArray, List.map_cons, List.map_nil]); first | done | rfl | (simp only [List.length_drop, List.length_take]; rfl)) ?_
            with_reducible refine (fd_conjugate.calls t257 ((rd_T74 x10_2 x57_2).f0) ((rd_T74 x10_2 x57_2).f1) t268 t269 _ A22.out).mono ?_
            rintro e w28 ⟨rfl, hb⟩
            have HS0_ := (hb.cell (World.block_lt_of_cell? _ _ (hHeld.1))).trans (hHeld.1)
            have HS1_ := (hb.cell (World.block_lt_of_cell? _ _ (hHeld.2.1))).trans (hHeld.2.1)
            have HS2_ := (hb.cell (World.block_lt_of_cell? _ _ (hHeld.2.2.1))).trans (hHeld.2.2.1)
            have HS3_ := (hb.cell (World.block_lt_of_cell? _ _ (hHeld.2.2.2))).trans (hHeld.2.2.2)
            refine ⟨_, rfl, ?_⟩
            replace HO_10 := Aside0.mk (Kd.R_below (by (with_reducible repeat (first | apply Kd.R_alloc | apply Kd.R_drewN | apply Kd.R_drew)); exact HO_10.out) hb)
            replace HO_11 := Aside0.mk (Kd.R_below (by (with_reducible repeat (first | apply Kd.R_alloc | apply Kd.R_drewN | apply Kd.R_drew)); exact HO_11.out) hb)
            replace BK256 := bkb BK256 hb
            replace HB := bls HB hb
            (try clear hb)
            (try clear hb2)
            (try clear hk)
            (try clear hi)
            refine hK.out _ _ ⟨HS0_, HS1_, HS2_, HS3_⟩ (fun hHeld => ?_)
            clear hK K
            refine norm_ (a' := ?_) ?_ ?_
            rotate_left
            ·show Act.put _ (some 68) _ = _
             simp only [Act.put, List.setIfInBounds_toArray, List.set_cons_zero, List.set_cons_succ, i64_w, i32_w]
             rfl
            refine one_ (i := 13) (N := some 73) #[true, true, true, true, true, true, true, true, true, true, true, true, true, true, false, false] rfl rfl (one_of HT_.out (by kernel_rfl)) (by decide) (fun K hK => ?_)
            refine goes_ Tryz.func55 (by kernel_rfl) rfl #[.int .i64 t257, .agg #[.int .u64 t268, .int .u64 t269], .agg #[.int .u64 ((rd_T74 t263 x57_2).f0), .int .u64 ((rd_T74 t263 x57_2).f1)]] (by rfl) rfl rfl (by (try simp only [List.map_toArray, List.map_cons, List.map_nil]); first | done | rfl | (simp only [List.length_drop, List.length_take]; rfl)) ?_
            with_reducible refine (fd_times.calls t257 t268 t269 ((rd_T74 t263 x57_2).f0) ((rd_T74 t263 x57_2).f1) t271 t272 _ A24.out).mono ?_
            rintro e w29 ⟨rfl, hb⟩
            have HS0_ := (hb.cell (World.block_lt_of_cell? _ _ (hHeld.1))).trans (hHeld.1)
            have HS1_ := (hb.cell (World.block_lt_of_cell? _ _ (hHeld.2.1))).trans (hHeld.2.1)
            have HS2_ := (hb.cell (World.block_lt_of_cell? _ _ (hHeld.2.2.1))).trans (hHeld.2.2.1)
            have HS3_ := (hb.cell (World.block_lt_of_cell? _ _ (hHeld.2.2.2))).trans (hHeld.2.2.2)
            refine ⟨_, rfl, ?_⟩
            replace HO_10 := Aside0.mk (Kd.R_below (by (with_reducible repeat (first | apply Kd.R_alloc | apply Kd.R_drewN | apply Kd.R_drew)); exact HO_10.out) hb)
            replace HO_11 := Aside0.mk (Kd.R_below (by (with_reducible repeat (first | apply Kd.R_alloc | apply Kd.R_drewN | apply Kd.R_drew)); exact HO_11.out) hb)
            replace BK256 := bkb BK256 hb
            replace HB := bls HB hb
            (try clear hb)
            (try clear hb2)
            (try clear hk)
            (try clear hi)
            have p25 : 0 ≤ (x57_2 : Int) := of_decide_eq_true (by first | (with_reducible assumption) | assumption)
            have q25 : (x57_2 : Int) < ((x10_2.length : Int) : Int) := of_decide_eq_true (by first | (with_reducible assumption) | assumption)
            obtain ⟨go25, co25, eo25, gb25, gl25, cl25, HG25⟩ := Kd.R_form HO_10.out (by omega)
            (first | cases eo25 | (injection eo25 with ea_ en_ ec_; (first | subst ea_ | (injection ea_ with ea_; subst ea_)); subst ec_; clear en_))
            have GB25 := Aside0.mk gb25
            have GG25 := Aside0.mk HG25
            clear gb25 gl25 HG25
            (first | simp only [add_plain] at hx267_0 | skip)
            (first | simp only [add_plain] at hx267_1 | skip)
            obtain ⟨ce25, hcl25, hM25, hcc25, hfr25⟩ := Kd.R_elem HO_10.out z74 (x57_2 : Int) p25 q25
            obtain rfl := k74_openM hM25
            have hx25_0 : World.cell? _ ⟨go25, (x57_2 : Int).toNat * 2, none⟩ = some (.int .u64 ((rd_T74 x10_2 x57_2).f0)) := hcc25 0 _ rfl
            have hx25_1 : World.cell? _ ⟨go25, (x57_2 : Int).toNat * 2 + 1, none⟩ = some (.int .u64 ((rd_T74 x10_2 x57_2).f1)) := hcc25 1 _ rfl
            have hf25_0 : World.frozen? _ ⟨go25, (x57_2 : Int).toNat * 2, none⟩ = false := hfr25 0
            have hf25_1 : World.frozen? _ ⟨go25, (x57_2 : Int).toNat * 2 + 1, none⟩ = false := hfr25 1
            clear hcl25 hcc25 hfr25 hM25
            replace p25 := eq_true p25
            replace q25 := eq_true q25
            obtain ⟨ce30, hcl30, hM30, hcc30, hfr30⟩ := Kd.R_elem HO_10.out z74 (x57_2 : Int) (of_decide_eq_true (by first | (with_reducible assumption) | assumption)) (by have h_ : (x57_2 : Int) < ((x10_2.length : Int) : Int) := of_decide_eq_true (by first | (with_reducible assumption) | assumption); first | exact h_ | (have e_ := (Kd.R_reads' HO_10.out).1; omega) | simpa using h_)
            obtain rfl := k74_openM hM30
            have HP30 := (Kd.R_seg HO_10.out (x57_2 : Int) (of_decide_eq_true (by first | (with_reducible assumption) | assumption)) (by have h_ : (x57_2 : Int) < ((x10_2.length : Int) : Int) := of_decide_eq_true (by first | (with_reducible assumption) | assumption); first | exact h_ | (have e_ := (Kd.R_reads' HO_10.out).1; omega) | simpa using h_) (seg := [.int .u64 t271, .int .u64 t272]) (j := 0) hcl30 hcc30 (show 2 ≤ 2 from by decide) (x' := (⟨t271, t272⟩ : S74)) (k74_mkM _ _ _ (⟨t271, t272⟩ : S74) ) (fun _ hk => hk)).1
            rw [← Ny273.out] at HP30
            have HQ30 := Aside0.mk HP30
            clear hcl30 hcc30 hfr30 hM30 HP30
            refine hK.out _ _ ⟨HS0_, HS1_, HS2_, HS3_⟩ (fun hHeld => ?_)
            clear hK K
            refine norm_ (a' := ?_) ?_ ?_
            rotate_left
            ·show Act.put _ (some 73) _ = _
             simp only [Act.put, List.setIfInBounds_toArray, List.set_cons_zero, List.set_cons_succ, i64_w, i32_w]
             rfl
            refine pu 14 74 HT_ ?_
            refine last_ (i := 15) (N := none) #[true, true, true, true, true, true, true, true, true, true, true, true, true, true, true, true] rfl rfl (one_of HT_.out (by kernel_rfl)) (by decide) (fun K hK => ?_)
            refine skip_ (w1 := ?_) (by rfl) rfl ?_ ?_
            rotate_left
            ·go_simp
             rfl
            refine hK.out _ _ ?_
            clear hK K
            refine done_ (done_of HT_.out (by kernel_rfl)) ?_
            try go_wp2
            (try simp only [← hl10_2])
            go_roundg k2
            case measure => have := HJ4.out; have := HK2.out; omega
            case rel => exact ⟨(y273), (wrap64 (x57_2 + 1)), (by first | rfl | (simp; done) | (simp [*]; done)), H', ⟨by have := HJ4.out; have := HK2.out; omega⟩, ⟨by (try simp only [hl10_2]); (with_reducible repeat (first | apply Kd.R_alloc | apply Kd.R_drewN | apply Kd.R_drew)); exact HQ30.out⟩, ⟨by (try simp only [hl10_2]); (with_reducible repeat (first | apply Kd.R_alloc | apply Kd.R_drewN | apply Kd.R_drew)); exact Kd.R_mono (Kd.R_far (p := ⟨go25, (x57_2 : Int).toNat * 2 + 1, none⟩) (Kd.R_far (p := ⟨go25, (x57_2 : Int).toNat * 2, none⟩) (Kd.R_mono HO_11.out (fun k_ hk => (⟨hk, fun e_ => hk (by rw [e_]; rfl)⟩ : _ ∧ k_ ≠ go25))) (fun _ hk => hk.2) (.int .u64 t271)) (fun _ hk => hk.2) (.int .u64 t272)) (fun _ hk => hk.1)⟩, ⟨by (try simp only [hl10_2]); (with_reducible repeat (first | refine blk_drewN ?_ _ | refine blk_drew ?_ | refine blk_alloc ?_ _)); refine blk_far ?_ (by have h_ := Kd.R_ne HO_10.out BK256.out (by decide); intro e_; exact h_ (by rw [e_]; rfl)) _; (with_reducible repeat (first | refine blk_drewN ?_ _ | refine blk_drew ?_ | refine blk_alloc ?_ _)); refine blk_far ?_ (by have h_ := Kd.R_ne HO_10.out BK256.out (by decide); intro e_; exact h_ (by rw [e_]; rfl)) _; (with_reducible repeat (first | refine blk_drewN ?_ _ | refine blk_drew ?_ | refine blk_alloc ?_ _)); exact BK256.out⟩, ⟨by repeat (first | (with_reducible first | exact HB.out | apply below_alloc | apply pw_below_drewN | apply below_drew1 | refine below_set ?_ GB25.out | refine below_set ?_ GB25.out | refine below_set ?_ GE256.out) | exact HB.out)⟩⟩
           ·rw [if_neg c23] at H
            exact absurd H (by simp)
          ·rw [if_neg c21] at H
           exact absurd H (by simp)
         ·rw [if_neg c20] at H
          exact absurd H (by simp)
        ·rw [if_neg c19] at H
         have c19b0 : decide (x57_2 < (t259.length : Int)) = false := decide_eq_false c19
         (try simp only [hl10_2] at c19b0)
         clear c19
         replace H := Option.bind_eq_some_iff.mp H
         obtain ⟨⟨t274, t275⟩, A31, H⟩ := H
         try dsimp only at H
         replace A31 := Aside0.mk A31
         replace H := Option.bind_eq_some_iff.mp H
         obtain ⟨⟨t276, t277, t278, t279⟩, A32, H⟩ := H
         try dsimp only at H
         replace A32 := Aside0.mk A32
         simp only [Option.some.injEq, Prod.mk.injEq] at H
         obtain ⟨rfl, rfl, rfl, rfl, rfl⟩ := H
         go_wp2_with (first | ((with_reducible refine gate_callee (f := 90) rfl ?_); refine gL 79 Tryz.func90 #[.int .i64 t257, .slice Ao18 x10_2.length co18] ?_; (with_reducible refine (fd_sum.calls t257 _ _ x10_2 t274 t275 _ ?side1 ?side2 A31.out).mono ?_); (case side1 => repeat (first | exact (Kd.R_reads' HO_10.out).2.2 | (with_reducible refine Kd.C_alloc ?_ _) | (with_reducible refine Kd.C_drewN ?_ _) | (with_reducible refine Kd.C_drew ?_))); (case side2 => exact (Kd.R_reads' HO_10.out).2.1); rintro e w33 ⟨rfl, hb⟩; refine ⟨_, rfl, ?_⟩; replace HO_10 := Aside0.mk (Kd.R_below (by (with_reducible repeat (first | apply Kd.R_alloc | apply Kd.R_drewN | apply Kd.R_drew)); exact HO_10.out) hb); replace HO_11 := Aside0.mk (Kd.R_below (by (with_reducible repeat (first | apply Kd.R_alloc | apply Kd.R_drewN | apply Kd.R_drew)); exact HO_11.out) hb); replace BK256 := bkb BK256 hb; replace HB := bls HB hb; clear hb) | ((with_reducible refine gate_callee (f := 57) rfl ?_); refine gL 80 Tryz.func57 #[.int .i64 t257, .agg #[.int .u64 t274, .int .u64 t275]] ?_; (with_reducible refine (fd_value.calls t257 t274 t275 t276 t277 t278 t279 _ A32.out).mono ?_); rintro e w34 ⟨rfl, hb⟩; refine ⟨_, rfl, ?_⟩; replace HO_10 := Aside0.mk (Kd.R_below (by (with_reducible repeat (first | apply Kd.R_alloc | apply Kd.R_drewN | apply Kd.R_drew)); exact HO_10.out) hb); replace HO_11 := Aside0.mk (Kd.R_below (by (with_reducible repeat (first | apply Kd.R_alloc | apply Kd.R_drewN | apply Kd.R_drew)); exact HO_11.out) hb); replace BK256 := bkb BK256 hb; replace HB := bls HB hb; clear hb; have hcz35_0 : w34.cell? ⟨gb256, 0, none⟩ = some (.int .i64 0) := (blk_cell BK256.out 0).trans rfl; have hcz35_1 : w34.cell? ⟨gb256, 1, none⟩ = some (.int .u64 0) := (blk_cell BK256.out 1).trans rfl; have hcz35_2 : w34.cell? ⟨gb256, 2, none⟩ = some (.int .u64 0) := (blk_cell BK256.out 2).trans rfl; have hcz35_3 : w34.cell? ⟨gb256, 3, none⟩ = some (.string (⟨#[]⟩ : ByteArray)) := (blk_cell BK256.out 3).trans rfl; have hfz35_0 := blk_frozen BK256.out 0; have hfz35_1 := blk_frozen BK256.out 1; have hfz35_2 := blk_frozen BK256.out 2; have hfz35_3 := blk_frozen BK256.out 3))
         refine bodyPost_ret (results_ct rfl _ _ gb256 24 #[.int .i64 t276, .int .u64 t277, .int .u64 t278, .string t279] (0, 0) _ rfl (by (with_reducible repeat (first | refine blk_drewN ?_ _ | refine blk_drew ?_ | refine blk_alloc ?_ _)); refine blk_put (cs := #[.int .i64 t276, .int .u64 t277, .int .u64 t278, .string (⟨#[]⟩ : ByteArray)]) ?_ 3 _ rfl; (with_reducible repeat (first | refine blk_drewN ?_ _ | refine blk_drew ?_ | refine blk_alloc ?_ _)); refine blk_put (cs := #[.int .i64 t276, .int .u64 t277, .int .u64 0, .string (⟨#[]⟩ : ByteArray)]) ?_ 2 _ rfl; (with_reducible repeat (first | refine blk_drewN ?_ _ | refine blk_drew ?_ | refine blk_alloc ?_ _)); refine blk_put (cs := #[.int .i64 t276, .int .u64 0, .int .u64 0, .string (⟨#[]⟩ : ByteArray)]) ?_ 1 _ rfl; (with_reducible repeat (first | refine blk_drewN ?_ _ | refine blk_drew ?_ | refine blk_alloc ?_ _)); refine blk_put (cs := #[.int .i64 0, .int .u64 0, .int .u64 0, .string (⟨#[]⟩ : ByteArray)]) ?_ 0 _ rfl; (with_reducible repeat (first | refine blk_drewN ?_ _ | refine blk_drew ?_ | refine blk_alloc ?_ _)); exact BK256.out) Tryz.underlying24 rfl (by kernel_rfl)) rfl ?_
         exact ⟨by first | rfl | (simp [errW_none, errW_some] <;> rfl) | (simp [*, errW_none, errW_some] <;> rfl), (blt HB).out⟩
     ·rw [if_neg c15] at H
      have c15b0 : (t264 == 0) = false := beq_eq_false_iff_ne.mpr c15
      have c15b1 : (t264 != 0) = true := bne_iff_ne.mpr c15
      simp only [Option.some.injEq, Prod.mk.injEq] at H
      obtain ⟨rfl, rfl, rfl, rfl, rfl⟩ := H
      go_wp2_with (first | ((with_reducible refine gate_callee (f := 89) rfl ?_); refine gL 38 Tryz.func89 #[.int .i64 a0, .slice A1 l1.length c1] ?_; (with_reducible refine (cx_list.calls kj4 a0 _ _ l1 t259 t260 _ ?side1 ?side2 A12.out).mono ?_); (case side1 => repeat (first | exact (Kd.C_below HR1.out HB.out) | (with_reducible refine Kd.C_alloc ?_ _) | (with_reducible refine Kd.C_drewN ?_ _) | (with_reducible refine Kd.C_drew ?_))); (case side2 => exact HC1.out); rintro e w36 ⟨v261, rfl, ho0, hb⟩; refine ⟨_, rfl, ?_⟩; have HO262 := Aside0.mk (Kd.R_lower ho0 (below_size (blt HB).out)); replace BK256 := bkb BK256 hb; replace HB := bls HB hb; (try clear hb); (try clear hb2); (try clear hk); (try clear hi); (try clear ho0)) | ((with_reducible refine gate_callee (f := 89) rfl ?_); refine gL 48 Tryz.func89 #[.int .i64 a0, .slice A2 l2.length c2] ?_; (with_reducible refine (cx_list.calls kj4 a0 _ _ l2 t263 t264 _ ?side1 ?side2 A14.out).mono ?_); (case side1 => repeat (first | exact (Kd.C_below HR2.out HB.out) | (with_reducible refine Kd.C_alloc ?_ _) | (with_reducible refine Kd.C_drewN ?_ _) | (with_reducible refine Kd.C_drew ?_))); (case side2 => exact HC2.out); rintro e w37 ⟨v265, rfl, ho0, hb⟩; refine ⟨_, rfl, ?_⟩; have HO266 := Aside0.mk (Kd.R_lower (Kd.R_new' ho0 (Kd.R_lt (by (with_reducible repeat (first | apply Kd.R_alloc | apply Kd.R_drewN | apply Kd.R_drew)); exact HO262.out))) (below_size (blt HB).out)); replace HO262 := Aside0.mk (Kd.R_elder' (by (with_reducible repeat (first | apply Kd.R_alloc | apply Kd.R_drewN | apply Kd.R_drew)); exact HO262.out) (Kd.R_base ho0) hb); replace BK256 := bkb BK256 hb; replace HB := bls HB hb; (try clear hb); (try clear hb2); (try clear hk); (try clear hi); (try clear ho0); have hcz38_0 : w37.cell? ⟨gb256, 0, none⟩ = some (.int .i64 0) := (blk_cell BK256.out 0).trans rfl; have hcz38_1 : w37.cell? ⟨gb256, 1, none⟩ = some (.int .u64 0) := (blk_cell BK256.out 1).trans rfl; have hcz38_2 : w37.cell? ⟨gb256, 2, none⟩ = some (.int .u64 0) := (blk_cell BK256.out 2).trans rfl; have hcz38_3 : w37.cell? ⟨gb256, 3, none⟩ = some (.string (⟨#[]⟩ : ByteArray)) := (blk_cell BK256.out 3).trans rfl; have hfz38_0 := blk_frozen BK256.out 0; have hfz38_1 := blk_frozen BK256.out 1; have hfz38_2 := blk_frozen BK256.out 2; have hfz38_3 := blk_frozen BK256.out 3))
      refine bodyPost_ret (results_ct rfl _ _ gb256 24 #[.int .i64 0, .int .u64 0, .int .u64 0, .string (⟨#[]⟩ : ByteArray)] (0, 0) _ rfl (by (with_reducible repeat (first | refine blk_drewN ?_ _ | refine blk_drew ?_ | refine blk_alloc ?_ _)); refine blk_put (cs := #[.int .i64 0, .int .u64 0, .int .u64 0, .string (⟨#[]⟩ : ByteArray)]) ?_ 3 _ rfl; (with_reducible repeat (first | refine blk_drewN ?_ _ | refine blk_drew ?_ | refine blk_alloc ?_ _)); refine blk_put (cs := #[.int .i64 0, .int .u64 0, .int .u64 0, .string (⟨#[]⟩ : ByteArray)]) ?_ 2 _ rfl; (with_reducible repeat (first | refine blk_drewN ?_ _ | refine blk_drew ?_ | refine blk_alloc ?_ _)); refine blk_put (cs := #[.int .i64 0, .int .u64 0, .int .u64 0, .string (⟨#[]⟩ : ByteArray)]) ?_ 1 _ rfl; (with_reducible repeat (first | refine blk_drewN ?_ _ | refine blk_drew ?_ | refine blk_alloc ?_ _)); refine blk_put (cs := #[.int .i64 0, .int .u64 0, .int .u64 0, .string (⟨#[]⟩ : ByteArray)]) ?_ 0 _ rfl; (with_reducible repeat (first | refine blk_drewN ?_ _ | refine blk_drew ?_ | refine blk_alloc ?_ _)); exact BK256.out) Tryz.underlying24 rfl (by kernel_rfl)) rfl ?_
      exact ⟨by first | rfl | (simp [errW_none, errW_some] <;> rfl) | (simp [*, errW_none, errW_some] <;> rfl), (blt HB).out⟩
    ·rw [if_neg c13] at H
     have c13b0 : (t260 == 0) = false := beq_eq_false_iff_ne.mpr c13
     have c13b1 : (t260 != 0) = true := bne_iff_ne.mpr c13
     simp only [Option.some.injEq, Prod.mk.injEq] at H
     obtain ⟨rfl, rfl, rfl, rfl, rfl⟩ := H
     go_wp2_with (first | ((with_reducible refine gate_callee (f := 89) rfl ?_); refine gL 38 Tryz.func89 #[.int .i64 a0, .slice A1 l1.length c1] ?_; (with_reducible refine (cx_list.calls kj4 a0 _ _ l1 t259 t260 _ ?side1 ?side2 A12.out).mono ?_); (case side1 => repeat (first | exact (Kd.C_below HR1.out HB.out) | (with_reducible refine Kd.C_alloc ?_ _) | (with_reducible refine Kd.C_drewN ?_ _) | (with_reducible refine Kd.C_drew ?_))); (case side2 => exact HC1.out); rintro e w39 ⟨v261, rfl, ho0, hb⟩; refine ⟨_, rfl, ?_⟩; have HO262 := Aside0.mk (Kd.R_lower ho0 (below_size (blt HB).out)); replace BK256 := bkb BK256 hb; replace HB := bls HB hb; (try clear hb); (try clear hb2); (try clear hk); (try clear hi); (try clear ho0); have hcz40_0 : w39.cell? ⟨gb256, 0, none⟩ = some (.int .i64 0) := (blk_cell BK256.out 0).trans rfl; have hcz40_1 : w39.cell? ⟨gb256, 1, none⟩ = some (.int .u64 0) := (blk_cell BK256.out 1).trans rfl; have hcz40_2 : w39.cell? ⟨gb256, 2, none⟩ = some (.int .u64 0) := (blk_cell BK256.out 2).trans rfl; have hcz40_3 : w39.cell? ⟨gb256, 3, none⟩ = some (.string (⟨#[]⟩ : ByteArray)) := (blk_cell BK256.out 3).trans rfl; have hfz40_0 := blk_frozen BK256.out 0; have hfz40_1 := blk_frozen BK256.out 1; have hfz40_2 := blk_frozen BK256.out 2; have hfz40_3 := blk_frozen BK256.out 3))
     refine bodyPost_ret (results_ct rfl _ _ gb256 24 #[.int .i64 0, .int .u64 0, .int .u64 0, .string (⟨#[]⟩ : ByteArray)] (0, 0) _ rfl (by (with_reducible repeat (first | refine blk_drewN ?_ _ | refine blk_drew ?_ | refine blk_alloc ?_ _)); refine blk_put (cs := #[.int .i64 0, .int .u64 0, .int .u64 0, .string (⟨#[]⟩ : ByteArray)]) ?_ 3 _ rfl; (with_reducible repeat (first | refine blk_drewN ?_ _ | refine blk_drew ?_ | refine blk_alloc ?_ _)); refine blk_put (cs := #[.int .i64 0, .int .u64 0, .int .u64 0, .string (⟨#[]⟩ : ByteArray)]) ?_ 2 _ rfl; (with_reducible repeat (first | refine blk_drewN ?_ _ | refine blk_drew ?_ | refine blk_alloc ?_ _)); refine blk_put (cs := #[.int .i64 0, .int .u64 0, .int .u64 0, .string (⟨#[]⟩ : ByteArray)]) ?_ 1 _ rfl; (with_reducible repeat (first | refine blk_drewN ?_ _ | refine blk_drew ?_ | refine blk_alloc ?_ _)); refine blk_put (cs := #[.int .i64 0, .int .u64 0, .int .u64 0, .string (⟨#[]⟩ : ByteArray)]) ?_ 0 _ rfl; (with_reducible repeat (first | refine blk_drewN ?_ _ | refine blk_drew ?_ | refine blk_alloc ?_ _)); exact BK256.out) Tryz.underlying24 rfl (by kernel_rfl)) rfl ?_
     exact ⟨by first | rfl | (simp [errW_none, errW_some] <;> rfl) | (simp [*, errW_none, errW_some] <;> rfl), (blt HB).out⟩
   ·rw [if_neg c11] at H
    have c11b0 : (x9_4 == 0) = false := beq_eq_false_iff_ne.mpr c11
    have c11b1 : (x9_4 != 0) = true := bne_iff_ne.mpr c11
    simp only [Option.some.injEq, Prod.mk.injEq] at H
    obtain ⟨rfl, rfl, rfl, rfl, rfl⟩ := H
    obtain ⟨hcz41_0, hcz41_1, hcz41_2, hcz41_3, hfz41_0, hfz41_1, hfz41_2, hfz41_3⟩ := cf4 BK256
    go_wp2
    refine bodyPost_ret (results_ct rfl _ _ gb256 24 #[.int .i64 0, .int .u64 0, .int .u64 0, .string (⟨#[]⟩ : ByteArray)] (0, 0) _ rfl (by (with_reducible repeat (first | refine blk_drewN ?_ _ | refine blk_drew ?_ | refine blk_alloc ?_ _)); refine blk_put (cs := #[.int .i64 0, .int .u64 0, .int .u64 0, .string (⟨#[]⟩ : ByteArray)]) ?_ 3 _ rfl; (with_reducible repeat (first | refine blk_drewN ?_ _ | refine blk_drew ?_ | refine blk_alloc ?_ _)); refine blk_put (cs := #[.int .i64 0, .int .u64 0, .int .u64 0, .string (⟨#[]⟩ : ByteArray)]) ?_ 2 _ rfl; (with_reducible repeat (first | refine blk_drewN ?_ _ | refine blk_drew ?_ | refine blk_alloc ?_ _)); refine blk_put (cs := #[.int .i64 0, .int .u64 0, .int .u64 0, .string (⟨#[]⟩ : ByteArray)]) ?_ 1 _ rfl; (with_reducible repeat (first | refine blk_drewN ?_ _ | refine blk_drew ?_ | refine blk_alloc ?_ _)); refine blk_put (cs := #[.int .i64 0, .int .u64 0, .int .u64 0, .string (⟨#[]⟩ : ByteArray)]) ?_ 0 _ rfl; (with_reducible repeat (first | refine blk_drewN ?_ _ | refine blk_drew ?_ | refine blk_alloc ?_ _)); exact BK256.out) Tryz.underlying24 rfl (by kernel_rfl)) rfl ?_
    exact ⟨by first | rfl | (simp [errW_none, errW_some] <;> rfl) | (simp [*, errW_none, errW_some] <;> rfl), (blt HB).out⟩
def fd_fits.l0 : Nat → Int → List Int → Int → Int → Option (Bool)
 | 0, _, _, _, _ => none
 | k + 1, x0, x7, x8, x9 => if x9 < x8 then (if 0 ≤ x9 then (if x9 < (x7.length : Int) then (if x0 = 1 then (if ((rd x7 x9) / 4294967296) = 0 then (fd_fits.l0 k x0 x7 x8 (wrap64 (x9 + 1))) else (some false)) else (fd_fits.l0 k x0 x7 x8 (wrap64 (x9 + 1)))) else (none)) else (none)) else (some true)
def fd_fits.f (k : Nat) (a0 : Int) (l1 : List Int) : Option (Bool) := fd_fits.l0 k a0 l1 (l1.length : Int) 0
theorem fd_fits.mono_l : ∀ k, (∀ y0 y1 y2 y3, LeO (fd_fits.l0 k y0 y1 y2 y3) (fd_fits.l0 (k + 1) y0 y1 y2 y3))
 | 0 => fun _ _ _ _ r h => by simp [fd_fits.l0] at h
 | k + 1 => by
  have ih0 := fd_fits.mono_l k
  ·intro y0 y1 y2 y3
   unfold fd_fits.l0
   repeat' first
   | (with_reducible exact ih0 _ _ _ _)
   | (with_reducible exact LeO.refl _)
   | (with_reducible exact LeO.none _)
   | (with_reducible refine LeO.ite ?_ ?_)
   | (with_reducible refine LeO.bind ?_ (fun _ => ?_))
   | exact ih0 _ _ _ _
   | exact LeO.none _
   | refine LeO.ite ?_ ?_
   | refine LeO.bind ?_ (fun _ => ?_)
theorem fd_fits.mono : ∀ a0 a1 k, LeO (fd_fits.f k a0 a1) (fd_fits.f (k + 1) a0 a1) := by
 intro a0 a1 k
 have ih0 := fd_fits.mono_l k
 unfold fd_fits.f
 repeat' first
   | (with_reducible exact ih0 _ _ _ _)
   | (with_reducible exact LeO.refl _)
   | (with_reducible exact LeO.none _)
   | (with_reducible refine LeO.ite ?_ ?_)
   | (with_reducible refine LeO.bind ?_ (fun _ => ?_))
   | exact ih0 _ _ _ _
   | exact LeO.none _
   | refine LeO.ite ?_ ?_
   | refine LeO.bind ?_ (fun _ => ?_)
set_option maxHeartbeats 8000000 in
set_option maxRecDepth 100000 in
theorem fd_fits.calls (k : Nat) (a0 : Int) (A1 : Option Addr) (c1 : Nat) (l1 : List Int) (r : Bool) (w : World) (hr1 : Kd.C (Kd.int .u64) w A1 l1.length l1) (hc1 : l1.length ≤ c1) (h : fd_fits.f k a0 l1 = some r) :
  Calls Tryz.prog 91 #[.int .i64 a0, .slice A1 l1.length c1] w fun e w' => e = .returned (.bool r) ∧ Drawn0 w w' := by
 have HR1 := Aside0.mk hr1
 have HC1 := Aside0.mk hc1
 clear hr1 hc1
 have H : (fd_fits.l0 k a0 l1 (l1.length : Int) 0) = some r := h
 clear h
 have H' := Aside0.mk H
 clear H
 go_enter Tryz.func91, Tryz.ntmps91
 go_wp2
 go_loopg [9] k (fun kq v9 w' => ∃ (x9_1 : Int), v9 = .int .i64 x9_1 ∧ Aside0 (fd_fits.l0 kq a0 l1 (l1.length : Int) x9_1 = some r) ∧ Aside0 (kq ≤ k) ∧ Drawn0 w w')
 case atStart => exact ⟨(0), (by first | rfl | (simp; done) | (simp [*]; done)), H', ⟨Nat.le_refl _⟩, by repeat (first | exact Drawn0.refl _ | apply Drawn0.step)⟩
 case round =>
  clear H'
  try clear c1
  try clear p2
  obtain ⟨x9_1, rfl, HA, HK1, ⟨m1, rfl⟩⟩ := hrel
  cases gk with
  | zero => exact absurd HA.out (by simp [fd_fits.l0])
  | succ k1 =>
   have H := HA.out
   clear HA
   simp only [fd_fits.l0] at H
   by_cases c3 : x9_1 < (l1.length : Int)
   ·rw [if_pos c3] at H
    have c3b0 : decide (x9_1 < (l1.length : Int)) = true := decide_eq_true c3
    clear c3
    by_cases c4 : 0 ≤ x9_1
    ·rw [if_pos c4] at H
     have c4b0 : decide (0 ≤ x9_1) = true := decide_eq_true c4
     clear c4
     by_cases c5 : x9_1 < (l1.length : Int)
     ·rw [if_pos c5] at H
      have c5b0 : decide (x9_1 < (l1.length : Int)) = true := decide_eq_true c5
      clear c5
      by_cases c6 : a0 = 1
      ·rw [if_pos c6] at H
       have c6b0 : (a0 == 1) = true := beq_iff_eq.mpr c6
       have c6b1 : (a0 != 1) = false := bne_eq_false_iff_eq.mpr c6
       clear c6
       by_cases c7 : ((rd l1 x9_1) / 4294967296) = 0
       ·rw [if_pos c7] at H
        have c7b0 : (((rd l1 x9_1) / 4294967296) == 0) = true := beq_iff_eq.mpr c7
        have c7b1 : (((rd l1 x9_1) / 4294967296) != 0) = false := bne_eq_false_iff_eq.mpr c7
        clear c7
        have H' := Aside0.mk H
        clear H
        have p280 : 0 ≤ (x9_1 : Int) := of_decide_eq_true (by first | (with_reducible assumption) | assumption)
        have q280 : x9_1 < (l1.length : Int) := of_decide_eq_true (by first | (with_reducible assumption) | assumption)
        obtain ⟨ad280, e280, hx280_0⟩ := Kd.at_int HR1.out x9_1 p280 q280
        cases e280
        replace p280 := eq_true p280
        replace q280 := eq_true q280
        go_wp2
        go_roundg k1
        case measure => have := HK1.out; omega
        case rel => exact ⟨(wrap64 (x9_1 + 1)), (by first | rfl | (simp; done) | (simp [*]; done)), H', ⟨by have := HK1.out; omega⟩, by repeat (first | exact Drawn0.refl _ | apply Drawn0.step)⟩
       ·rw [if_neg c7] at H
        have c7b0 : (((rd l1 x9_1) / 4294967296) == 0) = false := beq_eq_false_iff_ne.mpr c7
        have c7b1 : (((rd l1 x9_1) / 4294967296) != 0) = true := bne_iff_ne.mpr c7
        obtain rfl := Option.some.inj H
        have p280 : 0 ≤ (x9_1 : Int) := of_decide_eq_true (by first | (with_reducible assumption) | assumption)
        have q280 : x9_1 < (l1.length : Int) := of_decide_eq_true (by first | (with_reducible assumption) | assumption)
        obtain ⟨ad280, e280, hx280_0⟩ := Kd.at_int HR1.out x9_1 p280 q280
        cases e280
        replace p280 := eq_true p280
        replace q280 := eq_true q280
        go_wp2
        go_ret
        exact ⟨by first | rfl | (simp; done) | (simp [*]; done), by repeat (first | exact Drawn0.refl _ | apply Drawn0.step)⟩
      ·rw [if_neg c6] at H
       have c6b0 : (a0 == 1) = false := beq_eq_false_iff_ne.mpr c6
       have c6b1 : (a0 != 1) = true := bne_iff_ne.mpr c6
       have H' := Aside0.mk H
       clear H
       have p280 : 0 ≤ (x9_1 : Int) := of_decide_eq_true (by first | (with_reducible assumption) | assumption)
       have q280 : x9_1 < (l1.length : Int) := of_decide_eq_true (by first | (with_reducible assumption) | assumption)
       obtain ⟨ad280, e280, hx280_0⟩ := Kd.at_int HR1.out x9_1 p280 q280
       cases e280
       replace p280 := eq_true p280
       replace q280 := eq_true q280
       go_wp2
       go_roundg k1
       case measure => have := HK1.out; omega
       case rel => exact ⟨(wrap64 (x9_1 + 1)), (by first | rfl | (simp; done) | (simp [*]; done)), H', ⟨by have := HK1.out; omega⟩, by repeat (first | exact Drawn0.refl _ | apply Drawn0.step)⟩
     ·rw [if_neg c5] at H
      exact absurd H (by simp)
    ·rw [if_neg c4] at H
     exact absurd H (by simp)
   ·rw [if_neg c3] at H
    have c3b0 : decide (x9_1 < (l1.length : Int)) = false := decide_eq_false c3
    clear c3
    obtain rfl := Option.some.inj H
    go_wp2
    go_ret
    exact ⟨by first | rfl | (simp; done) | (simp [*]; done), by repeat (first | exact Drawn0.refl _ | apply Drawn0.step)⟩
def cx_Made.f (k : Nat) (a0 : Int) (a1 : Int) (a2 : Int) : Option (Int × Int × Int × ByteArray × Int) := (cx_partType.f a0).bind fun bt282 => (if bt282.2 = 0 then ((fd_fits.f k bt282.1 (([a1, a2] : List Int))).bind fun t287 => (if t287 = true then ((fd_value.f bt282.1 a1 a2).bind fun bt288 => (some (bt288.1, bt288.2.1, bt288.2.2.1, bt288.2.2.2, 0))) else (some (0, 0, 0, (⟨#[]⟩ : ByteArray), 2)))) else (some (0, 0, 0, (⟨#[]⟩ : ByteArray), bt282.2)))
theorem cx_Made.mono : ∀ a0 a1 a2 k, LeO (cx_Made.f k a0 a1 a2) (cx_Made.f (k + 1) a0 a1 a2) := by
 intro a0 a1 a2 k
 unfold cx_Made.f
 repeat' first
   | (with_reducible exact fd_fits.mono _ _ _)
   | (with_reducible exact LeO.refl _)
   | (with_reducible exact LeO.none _)
   | (with_reducible refine LeO.ite ?_ ?_)
   | (with_reducible refine LeO.bind ?_ (fun _ => ?_))
   | exact fd_fits.mono _ _ _
   | exact LeO.none _
   | refine LeO.ite ?_ ?_
   | refine LeO.bind ?_ (fun _ => ?_)
set_option maxHeartbeats 8000000 in
set_option maxRecDepth 100000 in
theorem cx_Made.calls (k : Nat) (a0 : Int) (a1 : Int) (a2 : Int) (r1 : Int) (r2 : Int) (r3 : Int) (r4 : ByteArray) (r5 : Int) (w : World) (h : cx_Made.f k a0 a1 a2 = some (r1, r2, r3, r4, r5)) :
  Calls Tryz.prog 43 #[.int .i64 a0, .int .u64 a1, .int .u64 a2] w fun e w' => e = .returned (.tuple #[.agg #[.int .i64 r1, .int .u64 r2, .int .u64 r3, .string r4], .int .i64 r5]) ∧ Below w.heap.size w w' := by
 have hu24 := Tryz.underlying24
 have hu74 := Tryz.underlying74
 have HB := Aside0.mk (Below.refl w.heap.size w)
 have H : ((cx_partType.f a0).bind fun bt282 => (if bt282.2 = 0 then ((fd_fits.f k bt282.1 (([a1, a2] : List Int))).bind fun t287 => (if t287 = true then ((fd_value.f bt282.1 a1 a2).bind fun bt288 => (some (bt288.1, bt288.2.1, bt288.2.2.1, bt288.2.2.2, 0))) else (some (0, 0, 0, (⟨#[]⟩ : ByteArray), 2)))) else (some (0, 0, 0, (⟨#[]⟩ : ByteArray), bt282.2)))) = some (r1, r2, r3, r4, r5) := h
 clear h
 replace H := Option.bind_eq_some_iff.mp H
 obtain ⟨⟨t282, t283⟩, A4, H⟩ := H
 try dsimp only at H
 replace A4 := Aside0.mk A4
 by_cases c5 : t283 = 0
 ·rw [if_pos c5] at H
  have c5b0 : (t283 == 0) = true := beq_iff_eq.mpr c5
  have c5b1 : (t283 != 0) = false := bne_eq_false_iff_eq.mpr c5
  clear c5
  obtain ⟨y284, hy284⟩ : ∃ y_ : List Int, y_ = (([a1, a2] : List Int)) := ⟨_, rfl⟩
  replace H : ((fd_fits.f k t282 y284).bind fun t287 => (if t287 = true then ((fd_value.f t282 a1 a2).bind fun bt288 => (some (bt288.1, bt288.2.1, bt288.2.2.1, bt288.2.2.2, 0))) else (some (0, 0, 0, (⟨#[]⟩ : ByteArray), 2)))) = some (r1, r2, r3, r4, r5) := by first | (rw [hy284]; with_reducible exact H) | (have H2_ := (Option.bind_some _ _).symm.trans H; rw [hy284]; with_reducible exact H2_) | (have H2_ := (Option.bind_some _ _).symm.trans H; with_reducible exact H2_) | with_reducible exact H | (rw [hy284]; exact H) | exact H
  have Ny284 := Aside0.mk hy284
  clear hy284
  replace H := Option.bind_eq_some_iff.mp H
  obtain ⟨t287, A6, H⟩ := H
  try dsimp only at H
  replace A6 := Aside0.mk A6
  by_cases c7 : t287 = true
  ·subst c7
   have H1 : ((fd_value.f t282 a1 a2).bind fun bt288 => (some (bt288.1, bt288.2.1, bt288.2.2.1, bt288.2.2.2, 0))) = some (r1, r2, r3, r4, r5) := by rw [if_pos rfl] at H; exact H
   clear H
   have H := H1
   clear H1
   replace H := Option.bind_eq_some_iff.mp H
   obtain ⟨⟨t288, t289, t290, t291⟩, A8, H⟩ := H
   try dsimp only at H
   replace A8 := Aside0.mk A8
   simp only [Option.some.injEq, Prod.mk.injEq] at H
   obtain ⟨rfl, rfl, rfl, rfl, rfl⟩ := H
   go_enter Tryz.func43, Tryz.ntmps43
   go_wp2_with (first | ((with_reducible refine gate_dst (N := 6) rfl ?_); refine bxe 6 (cs := #[.int .i64 0, .int .u64 0, .int .u64 0, .string (⟨#[]⟩ : ByteArray)]) (t := 24) ?_; intro gb281 hg w9 hbox hb; have BK281 := Aside0.mk hbox; have GW281 := bsz HB hg; have GE281 := bsz HB hg; replace HB := bls HB hb; clear hb hbox hg) | ((with_reducible refine gate_callee (f := 88) rfl ?_); refine gL 12 Tryz.func88 #[.int .i64 a0] ?_; (with_reducible refine (cx_partType.calls a0 t282 t283 _ A4.out).mono ?_); rintro e w10 ⟨rfl, hb⟩; refine ⟨_, rfl, ?_⟩; replace BK281 := bkb BK281 hb; replace HB := bls HB hb; clear hb) | ((with_reducible refine gate_dst (N := 22) rfl ?_); refine Kd.R_lit (Kd.int .u64) _ 22 ?hg (N := 22) ?hd (xs := ([a1, a2] : List Int)) (inner := [.int .u64 a1, .int .u64 a2]) (ok := fun _ => True) (okp := fun _ => True) ?hr ?hp (fun _ hk => hk) trivial (Below.refl _ _) (Nat.le_refl _) (by simp) ?_; (case hd => rfl); (case hg => rfl); (case hr => first | (go_simp; done) | (go_simp; rfl)); (case hp => exact (Reps.one (show Kd.M (Kd.int .u64) _ _ _ a1 [.int .u64 a1] from rfl) (Reps.one (show Kd.M (Kd.int .u64) _ _ _ a2 [.int .u64 a2] from rfl) (Reps.none _ _)))); intro v285 w11 ho12 hb hg_ hnew_; clear hg_ hnew_; (first | rw [← Ny284.out] at ho12 | (simp only [Int.reduceToNat] at ho12; rw [← Ny284.out] at ho12)); have HO286 := Aside0.mk (Kd.R_lower ho12 (below_size (blt HB).out)); replace BK281 := bkb BK281 hb; replace HB := bls HB hb; clear hb ho12; obtain ⟨Ao13, co13, eo13⟩ := Kd.R_slice HO286.out; subst eo13) | ((with_reducible refine gate_callee (f := 91) rfl ?_); refine gL 23 Tryz.func91 #[.int .i64 t282, .slice Ao13 y284.length co13] ?_; (with_reducible refine (fd_fits.calls k t282 _ _ y284 true _ ?side1 ?side2 A6.out).mono ?_); (case side1 => repeat (first | exact (Kd.R_reads' HO286.out).2.2 | (with_reducible refine Kd.C_alloc ?_ _) | (with_reducible refine Kd.C_drewN ?_ _) | (with_reducible refine Kd.C_drew ?_))); (case side2 => exact (Kd.R_reads' HO286.out).2.1); rintro e w' ⟨rfl, ⟨nd, rfl⟩⟩; refine ⟨_, rfl, ?_⟩; (try (rw [drewN_self w11]; generalize hq_ : World.drewN w11 _ = w11; have n0_ : Aside0 (Kd.R (Kd.int .u64) 22 w11 w.heap.size (fun _ => True) (.slice Ao13 y284.length co13) y284) := ⟨by rw [← hq_]; exact (by (with_reducible repeat (first | apply Kd.R_alloc | apply Kd.R_drewN | apply Kd.R_drew)); exact HO286.out)⟩; have n1_ : Aside0 (w11.heap[gb281]? = some (.cells #[.int .i64 0, .int .u64 0, .int .u64 0, .string (⟨#[]⟩ : ByteArray)] 24 (0, 0))) := ⟨by rw [← hq_]; exact (bks BK281).out⟩; have n2_ : Aside0 (Below w.heap.size w w11) := ⟨by rw [← hq_]; exact (blt HB).out⟩; clear HO286 BK281 HB hq_; have HO286 := n0_; have BK281 := n1_; have HB := n2_; clear n0_ n1_ n2_))) | ((with_reducible refine gate_callee (f := 57) rfl ?_); refine gL 30 Tryz.func57 #[.int .i64 t282, .agg #[.int .u64 a1, .int .u64 a2]] ?_; (with_reducible refine (fd_value.calls t282 a1 a2 t288 t289 t290 t291 _ A8.out).mono ?_); rintro e w14 ⟨rfl, hb⟩; refine ⟨_, rfl, ?_⟩; replace HO286 := Aside0.mk (Kd.R_below (by (with_reducible repeat (first | apply Kd.R_alloc | apply Kd.R_drewN | apply Kd.R_drew)); exact HO286.out) hb); replace BK281 := bkb BK281 hb; replace HB := bls HB hb; clear hb; have hcz15_0 : w14.cell? ⟨gb281, 0, none⟩ = some (.int .i64 0) := (blk_cell BK281.out 0).trans rfl; have hcz15_1 : w14.cell? ⟨gb281, 1, none⟩ = some (.int .u64 0) := (blk_cell BK281.out 1).trans rfl; have hcz15_2 : w14.cell? ⟨gb281, 2, none⟩ = some (.int .u64 0) := (blk_cell BK281.out 2).trans rfl; have hcz15_3 : w14.cell? ⟨gb281, 3, none⟩ = some (.string (⟨#[]⟩ : ByteArray)) := (blk_cell BK281.out 3).trans rfl; have hfz15_0 := blk_frozen BK281.out 0; have hfz15_1 := blk_frozen BK281.out 1; have hfz15_2 := blk_frozen BK281.out 2; have hfz15_3 := blk_frozen BK281.out 3))
   refine bodyPost_ret (results_ct rfl _ _ gb281 24 #[.int .i64 t288, .int .u64 t289, .int .u64 t290, .string t291] (0, 0) _ rfl (by (with_reducible repeat (first | refine blk_drewN ?_ _ | refine blk_drew ?_ | refine blk_alloc ?_ _)); refine blk_put (cs := #[.int .i64 t288, .int .u64 t289, .int .u64 t290, .string (⟨#[]⟩ : ByteArray)]) ?_ 3 _ rfl; (with_reducible repeat (first | refine blk_drewN ?_ _ | refine blk_drew ?_ | refine blk_alloc ?_ _)); refine blk_put (cs := #[.int .i64 t288, .int .u64 t289, .int .u64 0, .string (⟨#[]⟩ : ByteArray)]) ?_ 2 _ rfl; (with_reducible repeat (first | refine blk_drewN ?_ _ | refine blk_drew ?_ | refine blk_alloc ?_ _)); refine blk_put (cs := #[.int .i64 t288, .int .u64 0, .int .u64 0, .string (⟨#[]⟩ : ByteArray)]) ?_ 1 _ rfl; (with_reducible repeat (first | refine blk_drewN ?_ _ | refine blk_drew ?_ | refine blk_alloc ?_ _)); refine blk_put (cs := #[.int .i64 0, .int .u64 0, .int .u64 0, .string (⟨#[]⟩ : ByteArray)]) ?_ 0 _ rfl; (with_reducible repeat (first | refine blk_drewN ?_ _ | refine blk_drew ?_ | refine blk_alloc ?_ _)); exact BK281.out) Tryz.underlying24 rfl (by kernel_rfl)) rfl ?_
   exact ⟨by first | rfl | (simp [errW_none, errW_some] <;> rfl) | (simp [*, errW_none, errW_some] <;> rfl), (blt HB).out⟩
  ·replace c7 := Bool.eq_false_iff.mpr c7
   subst c7
   have H1 : (some (0, 0, 0, (⟨#[]⟩ : ByteArray), 2)) = some (r1, r2, r3, r4, r5) := by rw [if_neg (show ¬ (false = true) by decide)] at H; exact H
   clear H
   have H := H1
   clear H1
   simp only [Option.some.injEq, Prod.mk.injEq] at H
   obtain ⟨rfl, rfl, rfl, rfl, rfl⟩ := H
   go_enter Tryz.func43, Tryz.ntmps43
   go_wp2_with (first | ((with_reducible refine gate_dst (N := 6) rfl ?_); refine bxe 6 (cs := #[.int .i64 0, .int .u64 0, .int .u64 0, .string (⟨#[]⟩ : ByteArray)]) (t := 24) ?_; intro gb281 hg w16 hbox hb; have BK281 := Aside0.mk hbox; have GW281 := bsz HB hg; have GE281 := bsz HB hg; replace HB := bls HB hb; clear hb hbox hg) | ((with_reducible refine gate_callee (f := 88) rfl ?_); refine gL 12 Tryz.func88 #[.int .i64 a0] ?_; (with_reducible refine (cx_partType.calls a0 t282 t283 _ A4.out).mono ?_); rintro e w17 ⟨rfl, hb⟩; refine ⟨_, rfl, ?_⟩; replace BK281 := bkb BK281 hb; replace HB := bls HB hb; clear hb) | ((with_reducible refine gate_dst (N := 22) rfl ?_); refine Kd.R_lit (Kd.int .u64) _ 22 ?hg (N := 22) ?hd (xs := ([a1, a2] : List Int)) (inner := [.int .u64 a1, .int .u64 a2]) (ok := fun _ => True) (okp := fun _ => True) ?hr ?hp (fun _ hk => hk) trivial (Below.refl _ _) (Nat.le_refl _) (by simp) ?_; (case hd => rfl); (case hg => rfl); (case hr => first | (go_simp; done) | (go_simp; rfl)); (case hp => exact (Reps.one (show Kd.M (Kd.int .u64) _ _ _ a1 [.int .u64 a1] from rfl) (Reps.one (show Kd.M (Kd.int .u64) _ _ _ a2 [.int .u64 a2] from rfl) (Reps.none _ _)))); intro v285 w18 ho19 hb hg_ hnew_; clear hg_ hnew_; (first | rw [← Ny284.out] at ho19 | (simp only [Int.reduceToNat] at ho19; rw [← Ny284.out] at ho19)); have HO286 := Aside0.mk (Kd.R_lower ho19 (below_size (blt HB).out)); replace BK281 := bkb BK281 hb; replace HB := bls HB hb; clear hb ho19; obtain ⟨Ao20, co20, eo20⟩ := Kd.R_slice HO286.out; subst eo20) | ((with_reducible refine gate_callee (f := 91) rfl ?_); refine gL 23 Tryz.func91 #[.int .i64 t282, .slice Ao20 y284.length co20] ?_; (with_reducible refine (fd_fits.calls k t282 _ _ y284 false _ ?side1 ?side2 A6.out).mono ?_); (case side1 => repeat (first | exact (Kd.R_reads' HO286.out).2.2 | (with_reducible refine Kd.C_alloc ?_ _) | (with_reducible refine Kd.C_drewN ?_ _) | (with_reducible refine Kd.C_drew ?_))); (case side2 => exact (Kd.R_reads' HO286.out).2.1); rintro e w' ⟨rfl, ⟨nd, rfl⟩⟩; refine ⟨_, rfl, ?_⟩; (try (rw [drewN_self w18]; generalize hq_ : World.drewN w18 _ = w18; have n0_ : Aside0 (Kd.R (Kd.int .u64) 22 w18 w.heap.size (fun _ => True) (.slice Ao20 y284.length co20) y284) := ⟨by rw [← hq_]; exact (by (with_reducible repeat (first | apply Kd.R_alloc | apply Kd.R_drewN | apply Kd.R_drew)); exact HO286.out)⟩; have n1_ : Aside0 (w18.heap[gb281]? = some (.cells #[.int .i64 0, .int .u64 0, .int .u64 0, .string (⟨#[]⟩ : ByteArray)] 24 (0, 0))) := ⟨by rw [← hq_]; exact (bks BK281).out⟩; have n2_ : Aside0 (Below w.heap.size w w18) := ⟨by rw [← hq_]; exact (blt HB).out⟩; clear HO286 BK281 HB hq_; have HO286 := n0_; have BK281 := n1_; have HB := n2_; clear n0_ n1_ n2_)); have hcz21_0 : w18.cell? ⟨gb281, 0, none⟩ = some (.int .i64 0) := (blk_cell BK281.out 0).trans rfl; have hcz21_1 : w18.cell? ⟨gb281, 1, none⟩ = some (.int .u64 0) := (blk_cell BK281.out 1).trans rfl; have hcz21_2 : w18.cell? ⟨gb281, 2, none⟩ = some (.int .u64 0) := (blk_cell BK281.out 2).trans rfl; have hcz21_3 : w18.cell? ⟨gb281, 3, none⟩ = some (.string (⟨#[]⟩ : ByteArray)) := (blk_cell BK281.out 3).trans rfl; have hfz21_0 := blk_frozen BK281.out 0; have hfz21_1 := blk_frozen BK281.out 1; have hfz21_2 := blk_frozen BK281.out 2; have hfz21_3 := blk_frozen BK281.out 3))
   refine bodyPost_ret (results_ct rfl _ _ gb281 24 #[.int .i64 0, .int .u64 0, .int .u64 0, .string (⟨#[]⟩ : ByteArray)] (0, 0) _ rfl (by (with_reducible repeat (first | refine blk_drewN ?_ _ | refine blk_drew ?_ | refine blk_alloc ?_ _)); refine blk_put (cs := #[.int .i64 0, .int .u64 0, .int .u64 0, .string (⟨#[]⟩ : ByteArray)]) ?_ 3 _ rfl; (with_reducible repeat (first | refine blk_drewN ?_ _ | refine blk_drew ?_ | refine blk_alloc ?_ _)); refine blk_put (cs := #[.int .i64 0, .int .u64 0, .int .u64 0, .string (⟨#[]⟩ : ByteArray)]) ?_ 2 _ rfl; (with_reducible repeat (first | refine blk_drewN ?_ _ | refine blk_drew ?_ | refine blk_alloc ?_ _)); refine blk_put (cs := #[.int .i64 0, .int .u64 0, .int .u64 0, .string (⟨#[]⟩ : ByteArray)]) ?_ 1 _ rfl; (with_reducible repeat (first | refine blk_drewN ?_ _ | refine blk_drew ?_ | refine blk_alloc ?_ _)); refine blk_put (cs := #[.int .i64 0, .int .u64 0, .int .u64 0, .string (⟨#[]⟩ : ByteArray)]) ?_ 0 _ rfl; (with_reducible repeat (first | refine blk_drewN ?_ _ | refine blk_drew ?_ | refine blk_alloc ?_ _)); exact BK281.out) Tryz.underlying24 rfl (by kernel_rfl)) rfl ?_
   exact ⟨by first | rfl | (simp [errW_none, errW_some] <;> rfl) | (simp [*, errW_none, errW_some] <;> rfl), (blt HB).out⟩
 ·rw [if_neg c5] at H
  have c5b0 : (t283 == 0) = false := beq_eq_false_iff_ne.mpr c5
  have c5b1 : (t283 != 0) = true := bne_iff_ne.mpr c5
  simp only [Option.some.injEq, Prod.mk.injEq] at H
  obtain ⟨rfl, rfl, rfl, rfl, rfl⟩ := H
  go_enter Tryz.func43, Tryz.ntmps43
  go_wp2_with (first | ((with_reducible refine gate_dst (N := 6) rfl ?_); refine bxe 6 (cs := #[.int .i64 0, .int .u64 0, .int .u64 0, .string (⟨#[]⟩ : ByteArray)]) (t := 24) ?_; intro gb281 hg w22 hbox hb; have BK281 := Aside0.mk hbox; have GW281 := bsz HB hg; have GE281 := bsz HB hg; replace HB := bls HB hb; clear hb hbox hg) | ((with_reducible refine gate_callee (f := 88) rfl ?_); refine gL 12 Tryz.func88 #[.int .i64 a0] ?_; (with_reducible refine (cx_partType.calls a0 t282 t283 _ A4.out).mono ?_); rintro e w23 ⟨rfl, hb⟩; refine ⟨_, rfl, ?_⟩; replace BK281 := bkb BK281 hb; replace HB := bls HB hb; clear hb; have hcz24_0 : w23.cell? ⟨gb281, 0, none⟩ = some (.int .i64 0) := (blk_cell BK281.out 0).trans rfl; have hcz24_1 : w23.cell? ⟨gb281, 1, none⟩ = some (.int .u64 0) := (blk_cell BK281.out 1).trans rfl; have hcz24_2 : w23.cell? ⟨gb281, 2, none⟩ = some (.int .u64 0) := (blk_cell BK281.out 2).trans rfl; have hcz24_3 : w23.cell? ⟨gb281, 3, none⟩ = some (.string (⟨#[]⟩ : ByteArray)) := (blk_cell BK281.out 3).trans rfl; have hfz24_0 := blk_frozen BK281.out 0; have hfz24_1 := blk_frozen BK281.out 1; have hfz24_2 := blk_frozen BK281.out 2; have hfz24_3 := blk_frozen BK281.out 3))
  refine bodyPost_ret (results_ct rfl _ _ gb281 24 #[.int .i64 0, .int .u64 0, .int .u64 0, .string (⟨#[]⟩ : ByteArray)] (0, 0) _ rfl (by (with_reducible repeat (first | refine blk_drewN ?_ _ | refine blk_drew ?_ | refine blk_alloc ?_ _)); refine blk_put (cs := #[.int .i64 0, .int .u64 0, .int .u64 0, .string (⟨#[]⟩ : ByteArray)]) ?_ 3 _ rfl; (with_reducible repeat (first | refine blk_drewN ?_ _ | refine blk_drew ?_ | refine blk_alloc ?_ _)); refine blk_put (cs := #[.int .i64 0, .int .u64 0, .int .u64 0, .string (⟨#[]⟩ : ByteArray)]) ?_ 2 _ rfl; (with_reducible repeat (first | refine blk_drewN ?_ _ | refine blk_drew ?_ | refine blk_alloc ?_ _)); refine blk_put (cs := #[.int .i64 0, .int .u64 0, .int .u64 0, .string (⟨#[]⟩ : ByteArray)]) ?_ 1 _ rfl; (with_reducible repeat (first | refine blk_drewN ?_ _ | refine blk_drew ?_ | refine blk_alloc ?_ _)); refine blk_put (cs := #[.int .i64 0, .int .u64 0, .int .u64 0, .string (⟨#[]⟩ : ByteArray)]) ?_ 0 _ rfl; (with_reducible repeat (first | refine blk_drewN ?_ _ | refine blk_drew ?_ | refine blk_alloc ?_ _)); exact BK281.out) Tryz.underlying24 rfl (by kernel_rfl)) rfl ?_
  exact ⟨by first | rfl | (simp [errW_none, errW_some] <;> rfl) | (simp [*, errW_none, errW_some] <;> rfl), (blt HB).out⟩
def cx_PartsOf.f (a0_0 : Int) (a0_1 : Int) (a0_2 : Int) (a0_3 : ByteArray) : Option (Int × Int × Int × Int) := (cx_open.f a0_0 a0_1 a0_2 a0_3).bind fun bt294 => (if bt294.2.2.2 = 0 then (some (bt294.1, bt294.2.1, bt294.2.2.1, 0)) else (some (0, 0, 0, bt294.2.2.2)))
set_option maxHeartbeats 8000000 in
set_option maxRecDepth 100000 in
theorem cx_PartsOf.calls (a0_0 : Int) (a0_1 : Int) (a0_2 : Int) (a0_3 : ByteArray) (r1 : Int) (r2 : Int) (r3 : Int) (r4 : Int) (w : World) (h : cx_PartsOf.f a0_0 a0_1 a0_2 a0_3 = some (r1, r2, r3, r4)) :
  Calls Tryz.prog 44 #[.agg #[.int .i64 a0_0, .int .u64 a0_1, .int .u64 a0_2, .string a0_3]] w fun e w' => e = .returned (.tuple #[.agg #[.int .i64 r1, .int .u64 r2, .int .u64 r3], .int .i64 r4]) ∧ Below w.heap.size w w' := by
 have hu24 := Tryz.underlying24
 have hu62 := Tryz.underlying62
 have hu74 := Tryz.underlying74
 have HB := Aside0.mk (Below.refl w.heap.size w)
 have H : ((cx_open.f a0_0 a0_1 a0_2 a0_3).bind fun bt294 => (if bt294.2.2.2 = 0 then (some (bt294.1, bt294.2.1, bt294.2.2.1, 0)) else (some (0, 0, 0, bt294.2.2.2)))) = some (r1, r2, r3, r4) := h
 clear h
 replace H := Option.bind_eq_some_iff.mp H
 obtain ⟨⟨t294, t295, t296, t297⟩, A2, H⟩ := H
 try dsimp only at H
 replace A2 := Aside0.mk A2
 by_cases c3 : t297 = 0
 ·rw [if_pos c3] at H
  have c3b0 : (t297 == 0) = true := beq_iff_eq.mpr c3
  have c3b1 : (t297 != 0) = false := bne_eq_false_iff_eq.mpr c3
  clear c3
  simp only [Option.some.injEq, Prod.mk.injEq] at H
  obtain ⟨rfl, rfl, rfl, rfl⟩ := H
  go_enter Tryz.func44, Tryz.ntmps44
  go_wp2_with (first | ((with_reducible refine gate_dst (N := 1) rfl ?_); refine bxe 1 (cs := #[.int .i64 a0_0, .int .u64 a0_1, .int .u64 a0_2, .string a0_3]) (t := 24) ?_; intro gb292 hg w4 hbox hb; have BK292 := Aside0.mk hbox; have GW292 := bsz HB hg; have GE292 := bsz HB hg; replace HB := bls HB hb; clear hb hbox hg) | ((with_reducible refine gate_dst (N := 2) rfl ?_); refine bxe 2 (cs := #[.int .i64 0, .int .u64 0, .int .u64 0]) (t := 62) ?_; intro gb293 hg w5 hbox hb; have BK293 := Aside0.mk hbox; have GW293 := bsz HB hg; have GE293 := bsz HB hg; have NB292_293 := bnl BK292 hg; have NB293_292 := bng BK292 hg; replace BK292 := bkb BK292 hb; replace HB := bls HB hb; clear hb hbox hg; have hnb6 := NB292_293.out; have hnc6 := NB293_292.out; have hcz7_0 : w5.cell? ⟨gb292, 0, none⟩ = some (.int .i64 a0_0) := (blk_cell BK292.out 0).trans rfl; have hcz7_1 : w5.cell? ⟨gb292, 1, none⟩ = some (.int .u64 a0_1) := (blk_cell BK292.out 1).trans rfl; have hcz7_2 : w5.cell? ⟨gb292, 2, none⟩ = some (.int .u64 a0_2) := (blk_cell BK292.out 2).trans rfl; have hcz7_3 : w5.cell? ⟨gb292, 3, none⟩ = some (.string a0_3) := (blk_cell BK292.out 3).trans rfl; have hfz7_0 := blk_frozen BK292.out 0; have hfz7_1 := blk_frozen BK292.out 1; have hfz7_2 := blk_frozen BK292.out 2; have hfz7_3 := blk_frozen BK292.out 3) | ((with_reducible refine gate_callee (f := 72) rfl ?_); refine gL 9 Tryz.func72 #[.agg #[.int .i64 a0_0, .int .u64 a0_1, .int .u64 a0_2, .string a0_3]] ?_; (with_reducible refine (cx_open.calls a0_0 a0_1 a0_2 a0_3 t294 t295 t296 t297 _ A2.out).mono ?_); rintro e w8 ⟨rfl, hb⟩; refine ⟨_, rfl, ?_⟩; replace BK292 := bkb BK292 hb; replace BK293 := bkb BK293 hb; replace HB := bls HB hb; clear hb) | ((with_reducible refine gate_dst (N := 5) rfl ?_); refine bxe 5 (cs := #[.int .u64 0, .int .u64 0]) (t := 74) ?_; intro gb298 hg w9 hbox hb; have BK298 := Aside0.mk hbox; have GW298 := bsz HB hg; have GE298 := bsz HB hg; have NB292_298 := bnl BK292 hg; have NB298_292 := bng BK292 hg; have NB293_298 := bnl BK293 hg; have NB298_293 := bng BK293 hg; replace BK292 := bkb BK292 hb; replace BK293 := bkb BK293 hb; replace HB := bls HB hb; clear hb hbox hg; have hnb10 := NB298_292.out; have hnc10 := NB292_298.out; have hnb11 := NB298_293.out; have hnc11 := NB293_298.out; obtain ⟨hcz12_0, hcz12_1, hfz12_0, hfz12_1⟩ := cf2 BK298; have hcz13_0 : w9.cell? ⟨gb293, 0, none⟩ = some (.int .i64 0) := (blk_cell BK293.out 0).trans rfl; have hcz13_1 : w9.cell? ⟨gb293, 1, none⟩ = some (.int .u64 0) := (blk_cell BK293.out 1).trans rfl; have hcz13_2 : w9.cell? ⟨gb293, 2, none⟩ = some (.int .u64 0) := (blk_cell BK293.out 2).trans rfl; have hfz13_0 := blk_frozen BK293.out 0; have hfz13_1 := blk_frozen BK293.out 1; have hfz13_2 := blk_frozen BK293.out 2))
  refine bodyPost_ret (results_ct rfl _ _ gb293 62 #[.int .i64 t294, .int .u64 t295, .int .u64 t296] (0, 0) _ rfl (by (with_reducible repeat (first | refine blk_drewN ?_ _ | refine blk_drew ?_ | refine blk_alloc ?_ _)); refine blk_put (cs := #[.int .i64 t294, .int .u64 t295, .int .u64 0]) ?_ 2 _ rfl; (with_reducible repeat (first | refine blk_drewN ?_ _ | refine blk_drew ?_ | refine blk_alloc ?_ _)); refine blk_put (cs := #[.int .i64 t294, .int .u64 0, .int .u64 0]) ?_ 1 _ rfl; (with_reducible repeat (first | refine blk_drewN ?_ _ | refine blk_drew ?_ | refine blk_alloc ?_ _)); refine blk_put (cs := #[.int .i64 0, .int .u64 0, .int .u64 0]) ?_ 0 _ rfl; (with_reducible repeat (first | refine blk_drewN ?_ _ | refine blk_drew ?_ | refine blk_alloc ?_ _)); refine blk_far ?_ NB293_298.out _; (with_reducible repeat (first | refine blk_drewN ?_ _ | refine blk_drew ?_ | refine blk_alloc ?_ _)); refine blk_far ?_ NB293_298.out _; (with_reducible repeat (first | refine blk_drewN ?_ _ | refine blk_drew ?_ | refine blk_alloc ?_ _)); exact BK293.out) Tryz.underlying62 rfl (by kernel_rfl)) rfl ?_
  exact ⟨by first | rfl | (simp [errW_none, errW_some] <;> rfl) | (simp [*, errW_none, errW_some] <;> rfl), (blt HB).out⟩
 ·rw [if_neg c3] at H
  have c3b0 : (t297 == 0) = false := beq_eq_false_iff_ne.mpr c3
  have c3b1 : (t297 != 0) = true := bne_iff_ne.mpr c3
  simp only [Option.some.injEq, Prod.mk.injEq] at H
  obtain ⟨rfl, rfl, rfl, rfl⟩ := H
  go_enter Tryz.func44, Tryz.ntmps44
  go_wp2_with (first | ((with_reducible refine gate_dst (N := 1) rfl ?_); refine bxe 1 (cs := #[.int .i64 a0_0, .int .u64 a0_1, .int .u64 a0_2, .string a0_3]) (t := 24) ?_; intro gb292 hg w14 hbox hb; have BK292 := Aside0.mk hbox; have GW292 := bsz HB hg; have GE292 := bsz HB hg; replace HB := bls HB hb; clear hb hbox hg) | ((with_reducible refine gate_dst (N := 2) rfl ?_); refine bxe 2 (cs := #[.int .i64 0, .int .u64 0, .int .u64 0]) (t := 62) ?_; intro gb293 hg w15 hbox hb; have BK293 := Aside0.mk hbox; have GW293 := bsz HB hg; have GE293 := bsz HB hg; have NB292_293 := bnl BK292 hg; have NB293_292 := bng BK292 hg; replace BK292 := bkb BK292 hb; replace HB := bls HB hb; clear hb hbox hg; have hnb16 := NB292_293.out; have hnc16 := NB293_292.out; have hcz17_0 : w15.cell? ⟨gb292, 0, none⟩ = some (.int .i64 a0_0) := (blk_cell BK292.out 0).trans rfl; have hcz17_1 : w15.cell? ⟨gb292, 1, none⟩ = some (.int .u64 a0_1) := (blk_cell BK292.out 1).trans rfl; have hcz17_2 : w15.cell? ⟨gb292, 2, none⟩ = some (.int .u64 a0_2) := (blk_cell BK292.out 2).trans rfl; have hcz17_3 : w15.cell? ⟨gb292, 3, none⟩ = some (.string a0_3) := (blk_cell BK292.out 3).trans rfl; have hfz17_0 := blk_frozen BK292.out 0; have hfz17_1 := blk_frozen BK292.out 1; have hfz17_2 := blk_frozen BK292.out 2; have hfz17_3 := blk_frozen BK292.out 3) | ((with_reducible refine gate_callee (f := 72) rfl ?_); refine gL 9 Tryz.func72 #[.agg #[.int .i64 a0_0, .int .u64 a0_1, .int .u64 a0_2, .string a0_3]] ?_; (with_reducible refine (cx_open.calls a0_0 a0_1 a0_2 a0_3 t294 t295 t296 t297 _ A2.out).mono ?_); rintro e w18 ⟨rfl, hb⟩; refine ⟨_, rfl, ?_⟩; replace BK292 := bkb BK292 hb; replace BK293 := bkb BK293 hb; replace HB := bls HB hb; clear hb) | ((with_reducible refine gate_dst (N := 5) rfl ?_); refine bxe 5 (cs := #[.int .u64 0, .int .u64 0]) (t := 74) ?_; intro gb298 hg w19 hbox hb; have BK298 := Aside0.mk hbox; have GW298 := bsz HB hg; have GE298 := bsz HB hg; have NB292_298 := bnl BK292 hg; have NB298_292 := bng BK292 hg; have NB293_298 := bnl BK293 hg; have NB298_293 := bng BK293 hg; replace BK292 := bkb BK292 hb; replace BK293 := bkb BK293 hb; replace HB := bls HB hb; clear hb hbox hg; have hnb20 := NB298_292.out; have hnc20 := NB292_298.out; have hnb21 := NB298_293.out; have hnc21 := NB293_298.out; obtain ⟨hcz22_0, hcz22_1, hfz22_0, hfz22_1⟩ := cf2 BK298; have hcz23_0 : w19.cell? ⟨gb293, 0, none⟩ = some (.int .i64 0) := (blk_cell BK293.out 0).trans rfl; have hcz23_1 : w19.cell? ⟨gb293, 1, none⟩ = some (.int .u64 0) := (blk_cell BK293.out 1).trans rfl; have hcz23_2 : w19.cell? ⟨gb293, 2, none⟩ = some (.int .u64 0) := (blk_cell BK293.out 2).trans rfl; have hfz23_0 := blk_frozen BK293.out 0; have hfz23_1 := blk_frozen BK293.out 1; have hfz23_2 := blk_frozen BK293.out 2))
  refine bodyPost_ret (results_ct rfl _ _ gb293 62 #[.int .i64 0, .int .u64 0, .int .u64 0] (0, 0) _ rfl (by (with_reducible repeat (first | refine blk_drewN ?_ _ | refine blk_drew ?_ | refine blk_alloc ?_ _)); refine blk_put (cs := #[.int .i64 0, .int .u64 0, .int .u64 0]) ?_ 2 _ rfl; (with_reducible repeat (first | refine blk_drewN ?_ _ | refine blk_drew ?_ | refine blk_alloc ?_ _)); refine blk_put (cs := #[.int .i64 0, .int .u64 0, .int .u64 0]) ?_ 1 _ rfl; (with_reducible repeat (first | refine blk_drewN ?_ _ | refine blk_drew ?_ | refine blk_alloc ?_ _)); refine blk_put (cs := #[.int .i64 0, .int .u64 0, .int .u64 0]) ?_ 0 _ rfl; (with_reducible repeat (first | refine blk_drewN ?_ _ | refine blk_drew ?_ | refine blk_alloc ?_ _)); refine blk_far ?_ NB293_298.out _; (with_reducible repeat (first | refine blk_drewN ?_ _ | refine blk_drew ?_ | refine blk_alloc ?_ _)); refine blk_far ?_ NB293_298.out _; (with_reducible repeat (first | refine blk_drewN ?_ _ | refine blk_drew ?_ | refine blk_alloc ?_ _)); exact BK293.out) Tryz.underlying62 rfl (by kernel_rfl)) rfl ?_
  exact ⟨by first | rfl | (simp [errW_none, errW_some] <;> rfl) | (simp [*, errW_none, errW_some] <;> rfl), (blt HB).out⟩
def cx_Same.f (a0_0 : Int) (a0_1 : Int) (a0_2 : Int) (a0_3 : ByteArray) (a1_0 : Int) (a1_1 : Int) (a1_2 : Int) (a1_3 : ByteArray) : Option (Bool × Int) := (cx_both.f a0_0 a0_1 a0_2 a0_3 a1_0 a1_1 a1_2 a1_3).bind fun bt301 => (if bt301.2.2.2.2.2 = 0 then ((fd_order.f bt301.1 bt301.2.1 bt301.2.2.2.1).bind fun t309 => (if t309 = 0 then ((fd_order.f bt301.1 bt301.2.2.1 bt301.2.2.2.2.1).bind fun t310 => (some ((t310 == 0), 0))) else (some (false, 0)))) else (some (false, bt301.2.2.2.2.2)))
set_option maxHeartbeats 8000000 in
set_option maxRecDepth 100000 in
theorem cx_Same.calls (a0_0 : Int) (a0_1 : Int) (a0_2 : Int) (a0_3 : ByteArray) (a1_0 : Int) (a1_1 : Int) (a1_2 : Int) (a1_3 : ByteArray) (r1 : Bool) (r2 : Int) (w : World) (h : cx_Same.f a0_0 a0_1 a0_2 a0_3 a1_0 a1_1 a1_2 a1_3 = some (r1, r2)) :
  Calls Tryz.prog 45 #[.agg #[.int .i64 a0_0, .int .u64 a0_1, .int .u64 a0_2, .string a0_3], .agg #[.int .i64 a1_0, .int .u64 a1_1, .int .u64 a1_2, .string a1_3]] w fun e w' => e = .returned (.tuple #[.bool r1, .int .i64 r2]) ∧ Below w.heap.size w w' := by
 have hu24 := Tryz.underlying24
 have hu74 := Tryz.underlying74
 have HB := Aside0.mk (Below.refl w.heap.size w)
 have H : ((cx_both.f a0_0 a0_1 a0_2 a0_3 a1_0 a1_1 a1_2 a1_3).bind fun bt301 => (if bt301.2.2.2.2.2 = 0 then ((fd_order.f bt301.1 bt301.2.1 bt301.2.2.2.1).bind fun t309 => (if t309 = 0 then ((fd_order.f bt301.1 bt301.2.2.1 bt301.2.2.2.2.1).bind fun t310 => (some ((t310 == 0), 0))) else (some (false, 0)))) else (some (false, bt301.2.2.2.2.2)))) = some (r1, r2) := h
 clear h
 replace H := Option.bind_eq_some_iff.mp H
 obtain ⟨⟨t301, t302, t303, t304, t305, t306⟩, A3, H⟩ := H
 try dsimp only at H
 replace A3 := Aside0.mk A3
 by_cases c4 : t306 = 0
 ·rw [if_pos c4] at H
  have c4b0 : (t306 == 0) = true := beq_iff_eq.mpr c4
  have c4b1 : (t306 != 0) = false := bne_eq_false_iff_eq.mpr c4
  clear c4
  replace H := Option.bind_eq_some_iff.mp H
  obtain ⟨t309, A5, H⟩ := H
  try dsimp only at H
  replace A5 := Aside0.mk A5
  by_cases c6 : t309 = 0
  ·rw [if_pos c6] at H
   have c6b0 : (t309 == 0) = true := beq_iff_eq.mpr c6
   have c6b1 : (t309 != 0) = false := bne_eq_false_iff_eq.mpr c6
   clear c6
   replace H := Option.bind_eq_some_iff.mp H
   obtain ⟨t310, A7, H⟩ := H
   try dsimp only at H
   replace A7 := Aside0.mk A7
   simp only [Option.some.injEq, Prod.mk.injEq] at H
   obtain ⟨rfl, rfl⟩ := H
   go_enter Tryz.func45, Tryz.ntmps45
   go_wp2_with (first | ((with_reducible refine gate_dst (N := 2) rfl ?_); refine bxe 2 (cs := #[.int .i64 a0_0, .int .u64 a0_1, .int .u64 a0_2, .string a0_3]) (t := 24) ?_; intro gb299 hg w8 hbox hb; have BK299 := Aside0.mk hbox; have GW299 := bsz HB hg; have GE299 := bsz HB hg; replace HB := bls HB hb; clear hb hbox hg) | ((with_reducible refine gate_dst (N := 3) rfl ?_); refine bxe 3 (cs := #[.int .i64 a1_0, .int .u64 a1_1, .int .u64 a1_2, .string a1_3]) (t := 24) ?_; intro gb300 hg w9 hbox hb; have BK300 := Aside0.mk hbox; have GW300 := bsz HB hg; have GE300 := bsz HB hg; have NB299_300 := bnl BK299 hg; have NB300_299 := bng BK299 hg; replace BK299 := bkb BK299 hb; replace HB := bls HB hb; clear hb hbox hg; have hnb10 := NB299_300.out; have hnc10 := NB300_299.out; obtain ⟨hcz11_0, hcz11_1, hcz11_2, hcz11_3, hfz11_0, hfz11_1, hfz11_2, hfz11_3⟩ := cf4 BK299; have hcz12_0 : w9.cell? ⟨gb300, 0, none⟩ = some (.int .i64 a1_0) := (blk_cell BK300.out 0).trans rfl; have hcz12_1 : w9.cell? ⟨gb300, 1, none⟩ = some (.int .u64 a1_1) := (blk_cell BK300.out 1).trans rfl; have hcz12_2 : w9.cell? ⟨gb300, 2, none⟩ = some (.int .u64 a1_2) := (blk_cell BK300.out 2).trans rfl; have hcz12_3 : w9.cell? ⟨gb300, 3, none⟩ = some (.string a1_3) := (blk_cell BK300.out 3).trans rfl; have hfz12_0 := blk_frozen BK300.out 0; have hfz12_1 := blk_frozen BK300.out 1; have hfz12_2 := blk_frozen BK300.out 2; have hfz12_3 := blk_frozen BK300.out 3) | ((with_reducible refine gate_callee (f := 52) rfl ?_); refine gL 13 Tryz.func52 #[.agg #[.int .i64 a0_0, .int .u64 a0_1, .int .u64 a0_2, .string a0_3], .agg #[.int .i64 a1_0, .int .u64 a1_1, .int .u64 a1_2, .string a1_3]] ?_; (with_reducible refine (cx_both.calls a0_0 a0_1 a0_2 a0_3 a1_0 a1_1 a1_2 a1_3 t301 t302 t303 t304 t305 t306 _ A3.out).mono ?_); rintro e w13 ⟨rfl, hb⟩; refine ⟨_, rfl, ?_⟩; replace BK299 := bkb BK299 hb; replace BK300 := bkb BK300 hb; replace HB := bls HB hb; clear hb) | ((with_reducible refine gate_dst (N := 7) rfl ?_); refine bxe 7 (cs := #[.int .u64 0, .int .u64 0]) (t := 74) ?_; intro gb307 hg w14 hbox hb; have BK307 := Aside0.mk hbox; have GW307 := bsz HB hg; have GE307 := bsz HB hg; have NB299_307 := bnl BK299 hg; have NB307_299 := bng BK299 hg; have NB300_307 := bnl BK300 hg; have NB307_300 := bng BK300 hg; replace BK299 := bkb BK299 hb; replace BK300 := bkb BK300 hb; replace HB := bls HB hb; clear hb hbox hg) | ((with_reducible refine gate_dst (N := 8) rfl ?_); refine bxe 8 (cs := #[.int .u64 0, .int .u64 0]) (t := 74) ?_; intro gb308 hg w15 hbox hb; have BK308 := Aside0.mk hbox; have GW308 := bsz HB hg; have GE308 := bsz HB hg; have NB299_308 := bnl BK299 hg; have NB308_299 := bng BK299 hg; have NB300_308 := bnl BK300 hg; have NB308_300 := bng BK300 hg; have NB307_308 := bnl BK307 hg; have NB308_307 := bng BK307 hg; replace BK299 := bkb BK299 hb; replace BK300 := bkb BK300 hb; replace BK307 := bkb BK307 hb; replace HB := bls HB hb; clear hb hbox hg; have hnb16 := NB307_299.out; have hnc16 := NB299_307.out; have hnb17 := NB307_300.out; have hnc17 := NB300_307.out; have hnb18 := NB307_308.out; have hnc18 := NB308_307.out; obtain ⟨hcz19_0, hcz19_1, hfz19_0, hfz19_1⟩ := cf2 BK307; have hnb20 := NB308_299.out; have hnc20 := NB299_308.out; have hnb21 := NB308_300.out; have hnc21 := NB300_308.out; have hcz22_0 : w15.cell? ⟨gb308, 0, none⟩ = some (.int .u64 0) := (blk_cell BK308.out 0).trans rfl; have hcz22_1 : w15.cell? ⟨gb308, 1, none⟩ = some (.int .u64 0) := (blk_cell BK308.out 1).trans rfl; have hfz22_0 := blk_frozen BK308.out 0; have hfz22_1 := blk_frozen BK308.out 1) | ((with_reducible refine gate_callee (f := 92) rfl ?_); refine gL 26 Tryz.func92 #[.int .i64 t301, .int .u64 t302, .int .u64 t304] ?_; (with_reducible refine (fd_order.calls t301 t302 t304 t309 _ A5.out).mono ?_); rintro e w23 ⟨rfl, hb⟩; refine ⟨_, rfl, ?_⟩; replace BK299 := Aside0.mk (blk_below (g := gb299) (o := .cells #[.int .i64 a0_0, .int .u64 a0_1, .int .u64 a0_2, .string a0_3] 24 (0, 0)) (bkf BK299).out hb); replace BK300 := Aside0.mk (blk_below (g := gb300) (o := .cells #[.int .i64 a1_0, .int .u64 a1_1, .int .u64 a1_2, .string a1_3] 24 (0, 0)) (bkf BK300).out hb); replace BK307 := Aside0.mk (blk_below (g := gb307) (o := .cells #[.int .u64 t302, .int .u64 t303] 74 (0, 0)) (by (with_reducible repeat (first | refine blk_drewN ?_ _ | refine blk_drew ?_ | refine blk_alloc ?_ _)); refine blk_far ?_ NB307_308.out _; (with_reducible repeat (first | refine blk_drewN ?_ _ | refine blk_drew ?_ | refine blk_alloc ?_ _)); refine blk_far ?_ NB307_308.out _; (with_reducible repeat (first | refine blk_drewN ?_ _ | refine blk_drew ?_ | refine blk_alloc ?_ _)); refine blk_put (cs := #[.int .u64 t302, .int .u64 0]) ?_ 1 _ rfl; (with_reducible repeat (first | refine blk_drewN ?_ _ | refine blk_drew ?_ | refine blk_alloc ?_ _)); refine blk_put (cs := #[.int .u64 0, .int .u64 0]) ?_ 0 _ rfl; (with_reducible repeat (first | refine blk_drewN ?_ _ | refine blk_drew ?_ | refine blk_alloc ?_ _)); exact BK307.out) hb); replace BK308 := Aside0.mk (blk_below (g := gb308) (o := .cells #[.int .u64 t304, .int .u64 t305] 74 (0, 0)) (by (with_reducible repeat (first | refine blk_drewN ?_ _ | refine blk_drew ?_ | refine blk_alloc ?_ _)); refine blk_put (cs := #[.int .u64 t304, .int .u64 0]) ?_ 1 _ rfl; (with_reducible repeat (first | refine blk_drewN ?_ _ | refine blk_drew ?_ | refine blk_alloc ?_ _)); refine blk_put (cs := #[.int .u64 0, .int .u64 0]) ?_ 0 _ rfl; (with_reducible repeat (first | refine blk_drewN ?_ _ | refine blk_drew ?_ | refine blk_alloc ?_ _)); refine blk_far ?_ NB308_307.out _; (with_reducible repeat (first | refine blk_drewN ?_ _ | refine blk_drew ?_ | refine blk_alloc ?_ _)); refine blk_far ?_ NB308_307.out _; (with_reducible repeat (first | refine blk_drewN ?_ _ | refine blk_drew ?_ | refine blk_alloc ?_ _)); exact BK308.out) hb); replace HB := bls HB hb; clear hb; obtain ⟨hcz24_0, hcz24_1, hfz24_0, hfz24_1⟩ := cf2 BK307; have hcz25_0 : w23.cell? ⟨gb308, 0, none⟩ = some (.int .u64 t304) := (blk_cell BK308.out 0).trans rfl; have hcz25_1 : w23.cell? ⟨gb308, 1, none⟩ = some (.int .u64 t305) := (blk_cell BK308.out 1).trans rfl; have hfz25_0 := blk_frozen BK308.out 0; have hfz25_1 := blk_frozen BK308.out 1) | (go_at_call 92; (with_reducible refine (fd_order.calls t301 t303 t305 t310 _ A7.out).mono ?_); rintro e w26 ⟨rfl, hb⟩; replace BK299 := bkb BK299 hb; replace BK300 := bkb BK300 hb; replace BK307 := bkb BK307 hb; replace BK308 := bkb BK308 hb; replace HB := bls HB hb; clear hb))
   go_ret2
   exact ⟨by first | rfl | (simp [errW_none, errW_some] <;> rfl) | (simp [*, errW_none, errW_some] <;> rfl), (blt HB).out⟩
  ·rw [if_neg c6] at H
   have c6b0 : (t309 == 0) = false := beq_eq_false_iff_ne.mpr c6
   have c6b1 : (t309 != 0) = true := bne_iff_ne.mpr c6
   simp only [Option.some.injEq, Prod.mk.injEq] at H
   obtain ⟨rfl, rfl⟩ := H
   go_enter Tryz.func45, Tryz.ntmps45
   go_wp2_with (first | ((with_reducible refine gate_dst (N := 2) rfl ?_); refine bxe 2 (cs := #[.int .i64 a0_0, .int .u64 a0_1, .int .u64 a0_2, .string a0_3]) (t := 24) ?_; intro gb299 hg w27 hbox hb; have BK299 := Aside0.mk hbox; have GW299 := bsz HB hg; have GE299 := bsz HB hg; replace HB := bls HB hb; clear hb hbox hg) | ((with_reducible refine gate_dst (N := 3) rfl ?_); refine bxe 3 (cs := #[.int .i64 a1_0, .int .u64 a1_1, .int .u64 a1_2, .string a1_3]) (t := 24) ?_; intro gb300 hg w28 hbox hb; have BK300 := Aside0.mk hbox; have GW300 := bsz HB hg; have GE300 := bsz HB hg; have NB299_300 := bnl BK299 hg; have NB300_299 := bng BK299 hg; replace BK299 := bkb BK299 hb; replace HB := bls HB hb; clear hb hbox hg; have hnb29 := NB299_300.out; have hnc29 := NB300_299.out; obtain ⟨hcz30_0, hcz30_1, hcz30_2, hcz30_3, hfz30_0, hfz30_1, hfz30_2, hfz30_3⟩ := cf4 BK299; have hcz31_0 : w28.cell? ⟨gb300, 0, none⟩ = some (.int .i64 a1_0) := (blk_cell BK300.out 0).trans rfl; have hcz31_1 : w28.cell? ⟨gb300, 1, none⟩ = some (.int .u64 a1_1) := (blk_cell BK300.out 1).trans rfl; have hcz31_2 : w28.cell? ⟨gb300, 2, none⟩ = some (.int .u64 a1_2) := (blk_cell BK300.out 2).trans rfl; have hcz31_3 : w28.cell? ⟨gb300, 3, none⟩ = some (.string a1_3) := (blk_cell BK300.out 3).trans rfl; have hfz31_0 := blk_frozen BK300.out 0; have hfz31_1 := blk_frozen BK300.out 1; have hfz31_2 := blk_frozen BK300.out 2; have hfz31_3 := blk_frozen BK300.out 3) | ((with_reducible refine gate_callee (f := 52) rfl ?_); refine gL 13 Tryz.func52 #[.agg #[.int .i64 a0_0, .int .u64 a0_1, .int .u64 a0_2, .string a0_3], .agg #[.int .i64 a1_0, .int .u64 a1_1, .int .u64 a1_2, .string a1_3]] ?_; (with_reducible refine (cx_both.calls a0_0 a0_1 a0_2 a0_3 a1_0 a1_1 a1_2 a1_3 t301 t302 t303 t304 t305 t306 _ A3.out).mono ?_); rintro e w32 ⟨rfl, hb⟩; refine ⟨_, rfl, ?_⟩; replace BK299 := bkb BK299 hb; replace BK300 := bkb BK300 hb; replace HB := bls HB hb; clear hb) | ((with_reducible refine gate_dst (N := 7) rfl ?_); refine bxe 7 (cs := #[.int .u64 0, .int .u64 0]) (t := 74) ?_; intro gb307 hg w33 hbox hb; have BK307 := Aside0.mk hbox; have GW307 := bsz HB hg; have GE307 := bsz HB hg; have NB299_307 := bnl BK299 hg; have NB307_299 := bng BK299 hg; have NB300_307 := bnl BK300 hg; have NB307_300 := bng BK300 hg; replace BK299 := bkb BK299 hb; replace BK300 := bkb BK300 hb; replace HB := bls HB hb; clear hb hbox hg) | ((with_reducible refine gate_dst (N := 8) rfl ?_); refine bxe 8 (cs := #[.int .u64 0, .int .u64 0]) (t := 74) ?_; intro gb308 hg w34 hbox hb; have BK308 := Aside0.mk hbox; have GW308 := bsz HB hg; have GE308 := bsz HB hg; have NB299_308 := bnl BK299 hg; have NB308_299 := bng BK299 hg; have NB300_308 := bnl BK300 hg; have NB308_300 := bng BK300 hg; have NB307_308 := bnl BK307 hg; have NB308_307 := bng BK307 hg; replace BK299 := bkb BK299 hb; replace BK300 := bkb BK300 hb; replace BK307 := bkb BK307 hb; replace HB := bls HB hb; clear hb hbox hg; have hnb35 := NB307_299.out; have hnc35 := NB299_307.out; have hnb36 := NB307_300.out; have hnc36 := NB300_307.out; have hnb37 := NB307_308.out; have hnc37 := NB308_307.out; obtain ⟨hcz38_0, hcz38_1, hfz38_0, hfz38_1⟩ := cf2 BK307; have hnb39 := NB308_299.out; have hnc39 := NB299_308.out; have hnb40 := NB308_300.out; have hnc40 := NB300_308.out; have hcz41_0 : w34.cell? ⟨gb308, 0, none⟩ = some (.int .u64 0) := (blk_cell BK308.out 0).trans rfl; have hcz41_1 : w34.cell? ⟨gb308, 1, none⟩ = some (.int .u64 0) := (blk_cell BK308.out 1).trans rfl; have hfz41_0 := blk_frozen BK308.out 0; have hfz41_1 := blk_frozen BK308.out 1) | ((with_reducible refine gate_callee (f := 92) rfl ?_); refine gL 26 Tryz.func92 #[.int .i64 t301, .int .u64 t302, .int .u64 t304] ?_; (with_reducible refine (fd_order.calls t301 t302 t304 t309 _ A5.out).mono ?_); rintro e w42 ⟨rfl, hb⟩; refine ⟨_, rfl, ?_⟩; replace BK299 := Aside0.mk (blk_below (g := gb299) (o := .cells #[.int .i64 a0_0, .int .u64 a0_1, .int .u64 a0_2, .string a0_3] 24 (0, 0)) (bkf BK299).out hb); replace BK300 := Aside0.mk (blk_below (g := gb300) (o := .cells #[.int .i64 a1_0, .int .u64 a1_1, .int .u64 a1_2, .string a1_3] 24 (0, 0)) (bkf BK300).out hb); replace BK307 := Aside0.mk (blk_below (g := gb307) (o := .cells #[.int .u64 t302, .int .u64 t303] 74 (0, 0)) (by (with_reducible repeat (first | refine blk_drewN ?_ _ | refine blk_drew ?_ | refine blk_alloc ?_ _)); refine blk_far ?_ NB307_308.out _; (with_reducible repeat (first | refine blk_drewN ?_ _ | refine blk_drew ?_ | refine blk_alloc ?_ _)); refine blk_far ?_ NB307_308.out _; (with_reducible repeat (first | refine blk_drewN ?_ _ | refine blk_drew ?_ | refine blk_alloc ?_ _)); refine blk_put (cs := #[.int .u64 t302, .int .u64 0]) ?_ 1 _ rfl; (with_reducible repeat (first | refine blk_drewN ?_ _ | refine blk_drew ?_ | refine blk_alloc ?_ _)); refine blk_put (cs := #[.int .u64 0, .int .u64 0]) ?_ 0 _ rfl; (with_reducible repeat (first | refine blk_drewN ?_ _ | refine blk_drew ?_ | refine blk_alloc ?_ _)); exact BK307.out) hb); replace BK308 := Aside0.mk (blk_below (g := gb308) (o := .cells #[.int .u64 t304, .int .u64 t305] 74 (0, 0)) (by (with_reducible repeat (first | refine blk_drewN ?_ _ | refine blk_drew ?_ | refine blk_alloc ?_ _)); refine blk_put (cs := #[.int .u64 t304, .int .u64 0]) ?_ 1 _ rfl; (with_reducible repeat (first | refine blk_drewN ?_ _ | refine blk_drew ?_ | refine blk_alloc ?_ _)); refine blk_put (cs := #[.int .u64 0, .int .u64 0]) ?_ 0 _ rfl; (with_reducible repeat (first | refine blk_drewN ?_ _ | refine blk_drew ?_ | refine blk_alloc ?_ _)); refine blk_far ?_ NB308_307.out _; (with_reducible repeat (first | refine blk_drewN ?_ _ | refine blk_drew ?_ | refine blk_alloc ?_ _)); refine blk_far ?_ NB308_307.out _; (with_reducible repeat (first | refine blk_drewN ?_ _ | refine blk_drew ?_ | refine blk_alloc ?_ _)); exact BK308.out) hb); replace HB := bls HB hb; clear hb))
   go_ret2
   exact ⟨by first | rfl | (simp [errW_none, errW_some] <;> rfl) | (simp [*, errW_none, errW_some] <;> rfl), (blt HB).out⟩
 ·rw [if_neg c4] at H
  have c4b0 : (t306 == 0) = false := beq_eq_false_iff_ne.mpr c4
  have c4b1 : (t306 != 0) = true := bne_iff_ne.mpr c4
  simp only [Option.some.injEq, Prod.mk.injEq] at H
  obtain ⟨rfl, rfl⟩ := H
  go_enter Tryz.func45, Tryz.ntmps45
  go_wp2_with (first | ((with_reducible refine gate_dst (N := 2) rfl ?_); refine bxe 2 (cs := #[.int .i64 a0_0, .int .u64 a0_1, .int .u64 a0_2, .string a0_3]) (t := 24) ?_; intro gb299 hg w43 hbox hb; have BK299 := Aside0.mk hbox; have GW299 := bsz HB hg; have GE299 := bsz HB hg; replace HB := bls HB hb; clear hb hbox hg) | ((with_reducible refine gate_dst (N := 3) rfl ?_); refine bxe 3 (cs := #[.int .i64 a1_0, .int .u64 a1_1, .int .u64 a1_2, .string a1_3]) (t := 24) ?_; intro gb300 hg w44 hbox hb; have BK300 := Aside0.mk hbox; have GW300 := bsz HB hg; have GE300 := bsz HB hg; have NB299_300 := bnl BK299 hg; have NB300_299 := bng BK299 hg; replace BK299 := bkb BK299 hb; replace HB := bls HB hb; clear hb hbox hg; have hnb45 := NB299_300.out; have hnc45 := NB300_299.out; obtain ⟨hcz46_0, hcz46_1, hcz46_2, hcz46_3, hfz46_0, hfz46_1, hfz46_2, hfz46_3⟩ := cf4 BK299; have hcz47_0 : w44.cell? ⟨gb300, 0, none⟩ = some (.int .i64 a1_0) := (blk_cell BK300.out 0).trans rfl; have hcz47_1 : w44.cell? ⟨gb300, 1, none⟩ = some (.int .u64 a1_1) := (blk_cell BK300.out 1).trans rfl; have hcz47_2 : w44.cell? ⟨gb300, 2, none⟩ = some (.int .u64 a1_2) := (blk_cell BK300.out 2).trans rfl; have hcz47_3 : w44.cell? ⟨gb300, 3, none⟩ = some (.string a1_3) := (blk_cell BK300.out 3).trans rfl; have hfz47_0 := blk_frozen BK300.out 0; have hfz47_1 := blk_frozen BK300.out 1; have hfz47_2 := blk_frozen BK300.out 2; have hfz47_3 := blk_frozen BK300.out 3) | ((with_reducible refine gate_callee (f := 52) rfl ?_); refine gL 13 Tryz.func52 #[.agg #[.int .i64 a0_0, .int .u64 a0_1, .int .u64 a0_2, .string a0_3], .agg #[.int .i64 a1_0, .int .u64 a1_1, .int .u64 a1_2, .string a1_3]] ?_; (with_reducible refine (cx_both.calls a0_0 a0_1 a0_2 a0_3 a1_0 a1_1 a1_2 a1_3 t301 t302 t303 t304 t305 t306 _ A3.out).mono ?_); rintro e w48 ⟨rfl, hb⟩; refine ⟨_, rfl, ?_⟩; replace BK299 := bkb BK299 hb; replace BK300 := bkb BK300 hb; replace HB := bls HB hb; clear hb) | ((with_reducible refine gate_dst (N := 7) rfl ?_); refine bxe 7 (cs := #[.int .u64 0, .int .u64 0]) (t := 74) ?_; intro gb307 hg w49 hbox hb; have BK307 := Aside0.mk hbox; have GW307 := bsz HB hg; have GE307 := bsz HB hg; have NB299_307 := bnl BK299 hg; have NB307_299 := bng BK299 hg; have NB300_307 := bnl BK300 hg; have NB307_300 := bng BK300 hg; replace BK299 := bkb BK299 hb; replace BK300 := bkb BK300 hb; replace HB := bls HB hb; clear hb hbox hg) | ((with_reducible refine gate_dst (N := 8) rfl ?_); refine bxe 8 (cs := #[.int .u64 0, .int .u64 0]) (t := 74) ?_; intro gb308 hg w50 hbox hb; have BK308 := Aside0.mk hbox; have GW308 := bsz HB hg; have GE308 := bsz HB hg; have NB299_308 := bnl BK299 hg; have NB308_299 := bng BK299 hg; have NB300_308 := bnl BK300 hg; have NB308_300 := bng BK300 hg; have NB307_308 := bnl BK307 hg; have NB308_307 := bng BK307 hg; replace BK299 := bkb BK299 hb; replace BK300 := bkb BK300 hb; replace BK307 := bkb BK307 hb; replace HB := bls HB hb; clear hb hbox hg; have hnb51 := NB307_299.out; have hnc51 := NB299_307.out; have hnb52 := NB307_300.out; have hnc52 := NB300_307.out; have hnb53 := NB307_308.out; have hnc53 := NB308_307.out; obtain ⟨hcz54_0, hcz54_1, hfz54_0, hfz54_1⟩ := cf2 BK307; have hnb55 := NB308_299.out; have hnc55 := NB299_308.out; have hnb56 := NB308_300.out; have hnc56 := NB300_308.out; have hcz57_0 : w50.cell? ⟨gb308, 0, none⟩ = some (.int .u64 0) := (blk_cell BK308.out 0).trans rfl; have hcz57_1 : w50.cell? ⟨gb308, 1, none⟩ = some (.int .u64 0) := (blk_cell BK308.out 1).trans rfl; have hfz57_0 := blk_frozen BK308.out 0; have hfz57_1 := blk_frozen BK308.out 1))
  go_ret2
  exact ⟨by first | rfl | (simp [errW_none, errW_some] <;> rfl) | (simp [*, errW_none, errW_some] <;> rfl), (blt HB).out⟩
end Go.Proofs.YtmoimcblmmcffaaGreat.PPC

namespace Go.Proofs.YtmoimcblmmcffaaGreat.PRA
open Go.RowKit Go.Proofs.YtmoimcblmmcffaaGreatW.PrintWords Go.Proofs.YtmoimcblmmcffaaGreatW.PrintLast Go.Proofs.YtmoimcblmmcffaaGreatW.PrintMore
attribute [local go_sem] max2_int min2_int max_two min_two max_three min_three max_four min_four   -- for this text's walks alone
set_option linter.unusedVariables false
set_option linter.unusedSimpArgs false
def errW : Option Int → Value
 | none => .nilIface
 | some c => .iface 0 (.int .i64 c)
theorem errW_none : errW none = .nilIface := rfl
theorem errW_some (c : Int) : errW (some c) = .iface 0 (.int .i64 c) := rfl
end Go.Proofs.YtmoimcblmmcffaaGreat.PRA

namespace Go.Proofs.YtmoimcblmmcffaaGreat.PRA
open Go.RowKit Go.Proofs.YtmoimcblmmcffaaGreatW.PrintWords Go.Proofs.YtmoimcblmmcffaaGreatW.PrintLast Go.Proofs.YtmoimcblmmcffaaGreatW.PrintMore Go.Proofs.YtmoimcblmmcffaaGreatW.PrintZ
attribute [local go_sem] max2_int min2_int max_two min_two max_three min_three max_four min_four   -- for this text's walks alone
set_option linter.unusedVariables false
set_option linter.unusedSimpArgs false
def r10_PartType.f (a0 : Int) : Option (Int) := if a0 = 3 then (some 1) else (some 2)
set_option maxHeartbeats 8000000 in
set_option maxRecDepth 100000 in
theorem r10_PartType.calls (a0 : Int) (r : Int) (w : World) (h : r10_PartType.f a0 = some r) :
  Calls Tryz.prog 16 #[.int .i64 a0] w fun e w' => e = .returned (.int .i64 r) ∧ Drawn0 w w' := by
 have H : (if a0 = 3 then (some 1) else (some 2)) = some r := h
 clear h
 by_cases c2 : a0 = 3
 ·rw [if_pos c2] at H
  have c2b0 : (a0 == 3) = true := beq_iff_eq.mpr c2
  have c2b1 : (a0 != 3) = false := bne_eq_false_iff_eq.mpr c2
  clear c2
  obtain rfl := Option.some.inj H
  go_enter Tryz.func16, Tryz.ntmps16
  go_wp2
  go_ret
  exact ⟨by first | rfl | (simp; done) | (simp [*]; done), by repeat (first | exact Drawn0.refl _ | apply Drawn0.step)⟩
 ·rw [if_neg c2] at H
  have c2b0 : (a0 == 3) = false := beq_eq_false_iff_ne.mpr c2
  have c2b1 : (a0 != 3) = true := bne_iff_ne.mpr c2
  obtain rfl := Option.some.inj H
  go_enter Tryz.func16, Tryz.ntmps16
  go_wp2
  go_ret
  exact ⟨by first | rfl | (simp; done) | (simp [*]; done), by repeat (first | exact Drawn0.refl _ | apply Drawn0.step)⟩
def r10_Made.f (a0 : Int) (a1 : Int) (a2 : Int) : Option (Int × Int × Int × ByteArray) := some (a0, a1, a2, (⟨#[]⟩ : ByteArray))
set_option maxHeartbeats 8000000 in
set_option maxRecDepth 100000 in
theorem r10_Made.calls (a0 : Int) (a1 : Int) (a2 : Int) (r1 : Int) (r2 : Int) (r3 : Int) (r4 : ByteArray) (w : World) (h : r10_Made.f a0 a1 a2 = some (r1, r2, r3, r4)) :
  Calls Tryz.prog 18 #[.int .i64 a0, .int .u64 a1, .int .u64 a2] w fun e w' => e = .returned (.agg #[.int .i64 r1, .int .u64 r2, .int .u64 r3, .string r4]) ∧ Below w.heap.size w w' := by
 have hu24 := Tryz.underlying24
 have HB := Aside0.mk (Below.refl w.heap.size w)
 have H : (some (a0, a1, a2, (⟨#[]⟩ : ByteArray))) = some (r1, r2, r3, r4) := h
 clear h
 simp only [Option.some.injEq, Prod.mk.injEq] at H
 obtain ⟨rfl, rfl, rfl, rfl⟩ := H
 go_enter Tryz.func18, Tryz.ntmps18
 go_wp2_with (first | ((with_reducible refine gate_dst (N := 6) rfl ?_); refine bxe 6 (cs := #[.int .i64 0, .int .u64 0, .int .u64 0, .string (⟨#[]⟩ : ByteArray)]) (t := 24) ?_; intro gb101 hg w4 hbox hb; have BK101 := Aside0.mk hbox; have GW101 := bsz HB hg; have GE101 := bsz HB hg; replace HB := bls HB hb; clear hb hbox hg; have hcz5_0 : w4.cell? ⟨gb101, 0, none⟩ = some (.int .i64 0) := (blk_cell BK101.out 0).trans rfl; have hcz5_1 : w4.cell? ⟨gb101, 1, none⟩ = some (.int .u64 0) := (blk_cell BK101.out 1).trans rfl; have hcz5_2 : w4.cell? ⟨gb101, 2, none⟩ = some (.int .u64 0) := (blk_cell BK101.out 2).trans rfl; have hcz5_3 : w4.cell? ⟨gb101, 3, none⟩ = some (.string (⟨#[]⟩ : ByteArray)) := (blk_cell BK101.out 3).trans rfl; have hfz5_0 := blk_frozen BK101.out 0; have hfz5_1 := blk_frozen BK101.out 1; have hfz5_2 := blk_frozen BK101.out 2; have hfz5_3 := blk_frozen BK101.out 3))
 refine bodyPost_ret (results_cell_row rfl _ _ gb101 24 #[.int .i64 a0, .int .u64 a1, .int .u64 a2, .string (⟨#[]⟩ : ByteArray)] (0, 0) _ rfl (by (with_reducible repeat (first | refine blk_drewN ?_ _ | refine blk_drew ?_ | refine blk_alloc ?_ _)); refine blk_put (cs := #[.int .i64 a0, .int .u64 a1, .int .u64 a2, .string (⟨#[]⟩ : ByteArray)]) ?_ 3 _ rfl; (with_reducible repeat (first | refine blk_drewN ?_ _ | refine blk_drew ?_ | refine blk_alloc ?_ _)); refine blk_put (cs := #[.int .i64 a0, .int .u64 a1, .int .u64 0, .string (⟨#[]⟩ : ByteArray)]) ?_ 2 _ rfl; (with_reducible repeat (first | refine blk_drewN ?_ _ | refine blk_drew ?_ | refine blk_alloc ?_ _)); refine blk_put (cs := #[.int .i64 a0, .int .u64 0, .int .u64 0, .string (⟨#[]⟩ : ByteArray)]) ?_ 1 _ rfl; (with_reducible repeat (first | refine blk_drewN ?_ _ | refine blk_drew ?_ | refine blk_alloc ?_ _)); refine blk_put (cs := #[.int .i64 0, .int .u64 0, .int .u64 0, .string (⟨#[]⟩ : ByteArray)]) ?_ 0 _ rfl; (with_reducible repeat (first | refine blk_drewN ?_ _ | refine blk_drew ?_ | refine blk_alloc ?_ _)); exact BK101.out) Tryz.underlying24 rfl (by kernel_rfl)) rfl ?_
 exact ⟨by first | rfl | (simp [errW_none, errW_some] <;> rfl) | (simp [*, errW_none, errW_some] <;> rfl), (blt HB).out⟩
end Go.Proofs.YtmoimcblmmcffaaGreat.PRA

namespace Go.Proofs.YtmoimcblmmcffaaGreat.PRA
open Go.RowKit Go.Proofs.YtmoimcblmmcffaaGreatW.PrintWords Go.Proofs.YtmoimcblmmcffaaGreatW.PrintLast Go.Proofs.YtmoimcblmmcffaaGreatW.PrintMore Go.Proofs.YtmoimcblmmcffaaGreatW.PrintZ
attribute [local go_sem] max2_int min2_int max_two min_two max_three min_three max_four min_four   -- for this text's walks alone
set_option linter.unusedVariables false
set_option linter.unusedSimpArgs false
def r10_Mul.T3 : Bool × List (List Nat × List Nat) := (true, [([], []), ([], []), ([], []), ([2], [2]), ([], []), ([4], [4]), ([1, 3, 5], [1, 3, 5]), ([], []), ([], []), ([8], [8]), ([], []), ([10], [10]), ([7, 9, 11, 6], [7, 9, 11]), ([0, 6, 12, 12], [0, 6, 12]), ([13, 13, 0, 1, 2, 3, 4, 5, 6, 7, 8, 9, 10, 11, 12, 13], [13])])
def r10_Mul.B3 : List Nat := [0, 0, 0, 4, 0, 16, 62, 0, 0, 256, 0, 1024, 4094, 8191, 16383]
theorem r10_Mul.tab3 : rtab .any (opsOf Tryz.f60 3) = r10_Mul.T3 := by kernel_rfl
theorem r10_Mul.bits3 : waitsOk r10_Mul.T3.2 r10_Mul.B3 = true := by kernel_rfl
end Go.Proofs.YtmoimcblmmcffaaGreat.PRA

namespace Go.Proofs.YtmoimcblmmcffaaGreat.PRA
open Go.RowKit Go.Proofs.YtmoimcblmmcffaaGreatW.PrintWords Go.Proofs.YtmoimcblmmcffaaGreatW.PrintLast Go.Proofs.YtmoimcblmmcffaaGreatW.PrintMore Go.Proofs.YtmoimcblmmcffaaGreatW.PrintZ
attribute [local go_sem] max2_int min2_int max_two min_two max_three min_three max_four min_four   -- for this text's walks alone
set_option linter.unusedVariables false
set_option linter.unusedSimpArgs false
def r10_Div.T6 : Bool × List (List Nat × List Nat) := (true, [([], []), ([0], [0]), ([], []), ([], []), ([], []), ([], []), ([], []), ([], []), ([5, 6, 7], [5, 6, 7]), ([3, 4, 8, 8], [3, 4, 8]), ([], []), ([2, 9, 10, 9], [2, 9, 10]), ([], []), ([], []), ([], []), ([], []), ([], []), ([], []), ([15, 16, 17, 11], [15, 16, 17]), ([13, 14, 18, 18], [13, 14, 18]), ([], []), ([12, 19, 20, 19], [12, 19, 20]), ([1, 11, 21, 21], [1, 11, 21]), ([22, 22, 0, 1, 2, 3, 4, 5, 6, 7, 8, 9, 10, 11, 12, 13, 14, 15, 16, 17, 18, 19, 20, 21, 22], [22])])
def r10_Div.B6 : List Nat := [0, 1, 0, 0, 0, 0, 0, 0, 224, 504, 0, 2044, 0, 0, 0, 0, 0, 0, 233468, 520188, 0, 2097148, 4194303, 8388607]
theorem r10_Div.tab6 : rtab .any (opsOf Tryz.f61 6) = r10_Div.T6 := by kernel_rfl
theorem r10_Div.bits6 : waitsOk r10_Div.T6.2 r10_Div.B6 = true := by kernel_rfl
def r10_Div.T9 : Bool × List (List Nat × List Nat) := (true, [([], []), ([0], [0]), ([], []), ([], []), ([], []), ([], []), ([], []), ([4, 5, 6], [4, 5, 6]), ([], []), ([3, 7, 8, 7], [3, 7, 8]), ([], []), ([2, 9, 10, 9], [2, 9, 10]), ([], []), ([], []), ([], []), ([], []), ([], []), ([14, 15, 16, 11], [14, 15, 16]), ([], []), ([13, 17, 18, 17], [13, 17, 18]), ([], []), ([12, 19, 20, 19], [12, 19, 20]), ([1, 11, 21, 21], [1, 11, 21]), ([22, 22, 0, 1, 2, 3, 4, 5, 6, 7, 8, 9, 10, 11, 12, 13, 14, 15, 16, 17, 18, 19, 20, 21, 22], [22])])
def r10_Div.B9 : List Nat := [0, 1, 0, 0, 0, 0, 0, 112, 0, 504, 0, 2044, 0, 0, 0, 0, 0, 118780, 0, 520188, 0, 2097148, 4194303, 8388607]
theorem r10_Div.tab9 : rtab .any (opsOf Tryz.f61 9) = r10_Div.T9 := by kernel_rfl
theorem r10_Div.bits9 : waitsOk r10_Div.T9.2 r10_Div.B9 = true := by kernel_rfl
end Go.Proofs.YtmoimcblmmcffaaGreat.PRA

namespace Go.Proofs.YtmoimcblmmcffaaGreat.PRA
open Go.RowKit Go.Proofs.YtmoimcblmmcffaaGreatW.PrintWords Go.Proofs.YtmoimcblmmcffaaGreatW.PrintLast Go.Proofs.YtmoimcblmmcffaaGreatW.PrintMore Go.Proofs.YtmoimcblmmcffaaGreatW.PrintZ
attribute [local go_sem] max2_int min2_int max_two min_two max_three min_three max_four min_four   -- for this text's walks alone
set_option linter.unusedVariables false
set_option linter.unusedSimpArgs false
def r10_TypeErr.f (a0 : Int) : Option (Int) := if a0 = 3 then (some 0) else (if a0 = 4 then (some 0) else (some 27))
set_option maxHeartbeats 8000000 in
set_option maxRecDepth 100000 in
theorem r10_TypeErr.calls (a0 : Int) (r : Int) (w : World) (h : r10_TypeErr.f a0 = some r) :
  Calls Tryz.prog 39 #[.int .i64 a0] w fun e w' => e = .returned (.int .i64 r) ∧ Drawn0 w w' := by
 have H : (if a0 = 3 then (some 0) else (if a0 = 4 then (some 0) else (some 27))) = some r := h
 clear h
 by_cases c2 : a0 = 3
 ·rw [if_pos c2] at H
  have c2b0 : (a0 == 3) = true := beq_iff_eq.mpr c2
  have c2b1 : (a0 != 3) = false := bne_eq_false_iff_eq.mpr c2
  clear c2
  obtain rfl := Option.some.inj H
  go_enter Tryz.func39, Tryz.ntmps39
  go_wp2
  go_ret
  exact ⟨by first | rfl | (simp; done) | (simp [*]; done), by repeat (first | exact Drawn0.refl _ | apply Drawn0.step)⟩
 ·rw [if_neg c2] at H
  have c2b0 : (a0 == 3) = false := beq_eq_false_iff_ne.mpr c2
  have c2b1 : (a0 != 3) = true := bne_iff_ne.mpr c2
  by_cases c3 : a0 = 4
  ·rw [if_pos c3] at H
   have c3b0 : (a0 == 4) = true := beq_iff_eq.mpr c3
   have c3b1 : (a0 != 4) = false := bne_eq_false_iff_eq.mpr c3
   clear c3
   obtain rfl := Option.some.inj H
   go_enter Tryz.func39, Tryz.ntmps39
   go_wp2
   go_ret
   exact ⟨by first | rfl | (simp; done) | (simp [*]; done), by repeat (first | exact Drawn0.refl _ | apply Drawn0.step)⟩
  ·rw [if_neg c3] at H
   have c3b0 : (a0 == 4) = false := beq_eq_false_iff_ne.mpr c3
   have c3b1 : (a0 != 4) = true := bne_iff_ne.mpr c3
   obtain rfl := Option.some.inj H
   go_enter Tryz.func39, Tryz.ntmps39
   go_wp2
   go_ret
   exact ⟨by first | rfl | (simp; done) | (simp [*]; done), by repeat (first | exact Drawn0.refl _ | apply Drawn0.step)⟩
def r10_ValueErr.f (a0_0 : Int) (a0_1 : Int) (a0_2 : Int) (a0_3 : ByteArray) : Option (Int) := (r10_TypeErr.f a0_0).bind fun t189 => (if t189 = 0 then (if a0_3.toList = ([] : List UInt8) then (if a0_0 = 3 then (if a0_1 ≥ 4294967296 then (some 3) else (if a0_2 ≥ 4294967296 then (some 3) else (some 0))) else (some 0)) else (some 3)) else (some t189))
set_option maxHeartbeats 8000000 in
set_option maxRecDepth 100000 in
theorem r10_ValueErr.calls (a0_0 : Int) (a0_1 : Int) (a0_2 : Int) (a0_3 : ByteArray) (r : Int) (w : World) (h : r10_ValueErr.f a0_0 a0_1 a0_2 a0_3 = some r) :
  Calls Tryz.prog 29 #[.agg #[.int .i64 a0_0, .int .u64 a0_1, .int .u64 a0_2, .string a0_3]] w fun e w' => e = .returned (.int .i64 r) ∧ Below w.heap.size w w' := by
 have hu24 := Tryz.underlying24
 have HB := Aside0.mk (Below.refl w.heap.size w)
 have H : ((r10_TypeErr.f a0_0).bind fun t189 => (if t189 = 0 then (if a0_3.toList = ([] : List UInt8) then (if a0_0 = 3 then (if a0_1 ≥ 4294967296 then (some 3) else (if a0_2 ≥ 4294967296 then (some 3) else (some 0))) else (some 0)) else (some 3)) else (some t189))) = some r := h
 clear h
 replace H := Option.bind_eq_some_iff.mp H
 obtain ⟨t189, A2, H⟩ := H
 try dsimp only at H
 replace A2 := Aside0.mk A2
 by_cases c3 : t189 = 0
 ·rw [if_pos c3] at H
  have c3b0 : (t189 == 0) = true := beq_iff_eq.mpr c3
  have c3b1 : (t189 != 0) = false := bne_eq_false_iff_eq.mpr c3
  clear c3
  by_cases c4 : a0_3.toList = ([] : List UInt8)
  ·rw [if_pos c4] at H
   have c4b0 : (a0_3.toList == ([] : List UInt8)) = true := beq_iff_eq.mpr c4
   have c4b1 : (a0_3.toList != ([] : List UInt8)) = false := bne_eq_false_iff_eq.mpr c4
   clear c4
   by_cases c5 : a0_0 = 3
   ·rw [if_pos c5] at H
    have c5b0 : (a0_0 == 3) = true := beq_iff_eq.mpr c5
    have c5b1 : (a0_0 != 3) = false := bne_eq_false_iff_eq.mpr c5
    clear c5
    by_cases c6 : a0_1 ≥ 4294967296
    ·rw [if_pos c6] at H
     have c6b0 : decide (4294967296 ≤ a0_1) = true := decide_eq_true c6
     clear c6
     obtain rfl := Option.some.inj H
     go_enter Tryz.func29, Tryz.ntmps29
     go_wp2_with (first | ((with_reducible refine gate_dst (N := 1) rfl ?_); refine bxe 1 (cs := #[.int .i64 a0_0, .int .u64 a0_1, .int .u64 a0_2, .string a0_3]) (t := 24) ?_; intro gb188 hg w7 hbox hb; have BK188 := Aside0.mk hbox; have GW188 := bsz HB hg; have GE188 := bsz HB hg; replace HB := bls HB hb; clear hb hbox hg; have hcz8_0 : w7.cell? ⟨gb188, 0, none⟩ = some (.int .i64 a0_0) := (blk_cell BK188.out 0).trans rfl; have hcz8_1 : w7.cell? ⟨gb188, 1, none⟩ = some (.int .u64 a0_1) := (blk_cell BK188.out 1).trans rfl; have hcz8_2 : w7.cell? ⟨gb188, 2, none⟩ = some (.int .u64 a0_2) := (blk_cell BK188.out 2).trans rfl; have hcz8_3 : w7.cell? ⟨gb188, 3, none⟩ = some (.string a0_3) := (blk_cell BK188.out 3).trans rfl; have hfz8_0 := blk_frozen BK188.out 0; have hfz8_1 := blk_frozen BK188.out 1; have hfz8_2 := blk_frozen BK188.out 2; have hfz8_3 := blk_frozen BK188.out 3) | ((with_reducible refine gate_callee (f := 39) rfl ?_); refine gL 6 Tryz.func39 #[.int .i64 a0_0] ?_; (with_reducible refine (r10_TypeErr.calls a0_0 t189 _ A2.out).mono ?_); rintro e w' ⟨rfl, ⟨nd, rfl⟩⟩; refine ⟨_, rfl, ?_⟩))
     go_ret
     exact ⟨by first | rfl | (simp [errW_none, errW_some] <;> rfl) | (simp [*, errW_none, errW_some] <;> rfl), (blt HB).out⟩
    ·rw [if_neg c6] at H
     have c6b0 : decide (4294967296 ≤ a0_1) = false := decide_eq_false c6
     clear c6
     by_cases c9 : a0_2 ≥ 4294967296
     ·rw [if_pos c9] at H
      have c9b0 : decide (4294967296 ≤ a0_2) = true := decide_eq_true c9
      clear c9
      obtain rfl := Option.some.inj H
      go_enter Tryz.func29, Tryz.ntmps29
      go_wp2_with (first | ((with_reducible refine gate_dst (N := 1) rfl ?_); refine bxe 1 (cs := #[.int .i64 a0_0, .int .u64 a0_1, .int .u64 a0_2, .string a0_3]) (t := 24) ?_; intro gb188 hg w10 hbox hb; have BK188 := Aside0.mk hbox; have GW188 := bsz HB hg; have GE188 := bsz HB hg; replace HB := bls HB hb; clear hb hbox hg; have hcz11_0 : w10.cell? ⟨gb188, 0, none⟩ = some (.int .i64 a0_0) := (blk_cell BK188.out 0).trans rfl; have hcz11_1 : w10.cell? ⟨gb188, 1, none⟩ = some (.int .u64 a0_1) := (blk_cell BK188.out 1).trans rfl; have hcz11_2 : w10.cell? ⟨gb188, 2, none⟩ = some (.int .u64 a0_2) := (blk_cell BK188.out 2).trans rfl; have hcz11_3 : w10.cell? ⟨gb188, 3, none⟩ = some (.string a0_3) := (blk_cell BK188.out 3).trans rfl; have hfz11_0 := blk_frozen BK188.out 0; have hfz11_1 := blk_frozen BK188.out 1; have hfz11_2 := blk_frozen BK188.out 2; have hfz11_3 := blk_frozen BK188.out 3) | ((with_reducible refine gate_callee (f := 39) rfl ?_); refine gL 6 Tryz.func39 #[.int .i64 a0_0] ?_; (with_reducible refine (r10_TypeErr.calls a0_0 t189 _ A2.out).mono ?_); rintro e w' ⟨rfl, ⟨nd, rfl⟩⟩; refine ⟨_, rfl, ?_⟩))
      go_ret
      exact ⟨by first | rfl | (simp [errW_none, errW_some] <;> rfl) | (simp [*, errW_none, errW_some] <;> rfl), (blt HB).out⟩
     ·rw [if_neg c9] at H
      have c9b0 : decide (4294967296 ≤ a0_2) = false := decide_eq_false c9
      clear c9
      obtain rfl := Option.some.inj H
      go_enter Tryz.func29, Tryz.ntmps29
      go_wp2_with (first | ((with_reducible refine gate_dst (N := 1) rfl ?_); refine bxe 1 (cs := #[.int .i64 a0_0, .int .u64 a0_1, .int .u64 a0_2, .string a0_3]) (t := 24) ?_; intro gb188 hg w12 hbox hb; have BK188 := Aside0.mk hbox; have GW188 := bsz HB hg; have GE188 := bsz HB hg; replace HB := bls HB hb; clear hb hbox hg; have hcz13_0 : w12.cell? ⟨gb188, 0, none⟩ = some (.int .i64 a0_0) := (blk_cell BK188.out 0).trans rfl; have hcz13_1 : w12.cell? ⟨gb188, 1, none⟩ = some (.int .u64 a0_1) := (blk_cell BK188.out 1).trans rfl; have hcz13_2 : w12.cell? ⟨gb188, 2, none⟩ = some (.int .u64 a0_2) := (blk_cell BK188.out 2).trans rfl; have hcz13_3 : w12.cell? ⟨gb188, 3, none⟩ = some (.string a0_3) := (blk_cell BK188.out 3).trans rfl; have hfz13_0 := blk_frozen BK188.out 0; have hfz13_1 := blk_frozen BK188.out 1; have hfz13_2 := blk_frozen BK188.out 2; have hfz13_3 := blk_frozen BK188.out 3) | ((with_reducible refine gate_callee (f := 39) rfl ?_); refine gL 6 Tryz.func39 #[.int .i64 a0_0] ?_; (with_reducible refine (r10_TypeErr.calls a0_0 t189 _ A2.out).mono ?_); rintro e w' ⟨rfl, ⟨nd, rfl⟩⟩; refine ⟨_, rfl, ?_⟩))
      go_ret
      exact ⟨by first | rfl | (simp [errW_none, errW_some] <;> rfl) | (simp [*, errW_none, errW_some] <;> rfl), (blt HB).out⟩
   ·rw [if_neg c5] at H
    have c5b0 : (a0_0 == 3) = false := beq_eq_false_iff_ne.mpr c5
    have c5b1 : (a0_0 != 3) = true := bne_iff_ne.mpr c5
    obtain rfl := Option.some.inj H
    go_enter Tryz.func29, Tryz.ntmps29
    go_wp2_with (first | ((with_reducible refine gate_dst (N := 1) rfl ?_); refine bxe 1 (cs := #[.int .i64 a0_0, .int .u64 a0_1, .int .u64 a0_2, .string a0_3]) (t := 24) ?_; intro gb188 hg w14 hbox hb; have BK188 := Aside0.mk hbox; have GW188 := bsz HB hg; have GE188 := bsz HB hg; replace HB := bls HB hb; clear hb hbox hg; have hcz15_0 : w14.cell? ⟨gb188, 0, none⟩ = some (.int .i64 a0_0) := (blk_cell BK188.out 0).trans rfl; have hcz15_1 : w14.cell? ⟨gb188, 1, none⟩ = some (.int .u64 a0_1) := (blk_cell BK188.out 1).trans rfl; have hcz15_2 : w14.cell? ⟨gb188, 2, none⟩ = some (.int .u64 a0_2) := (blk_cell BK188.out 2).trans rfl; have hcz15_3 : w14.cell? ⟨gb188, 3, none⟩ = some (.string a0_3) := (blk_cell BK188.out 3).trans rfl; have hfz15_0 := blk_frozen BK188.out 0; have hfz15_1 := blk_frozen BK188.out 1; have hfz15_2 := blk_frozen BK188.out 2; have hfz15_3 := blk_frozen BK188.out 3) | ((with_reducible refine gate_callee (f := 39) rfl ?_); refine gL 6 Tryz.func39 #[.int .i64 a0_0] ?_; (with_reducible refine (r10_TypeErr.calls a0_0 t189 _ A2.out).mono ?_); rintro e w' ⟨rfl, ⟨nd, rfl⟩⟩; refine ⟨_, rfl, ?_⟩))
    go_ret
    exact ⟨by first | rfl | (simp [errW_none, errW_some] <;> rfl) | (simp [*, errW_none, errW_some] <;> rfl), (blt HB).out⟩
  ·rw [if_neg c4] at H
   have c4b0 : (a0_3.toList == ([] : List UInt8)) = false := beq_eq_false_iff_ne.mpr c4
   have c4b1 : (a0_3.toList != ([] : List UInt8)) = true := bne_iff_ne.mpr c4
   obtain rfl := Option.some.inj H
   go_enter Tryz.func29, Tryz.ntmps29
   go_wp2_with (first | ((with_reducible refine gate_dst (N := 1) rfl ?_); refine bxe 1 (cs := #[.int .i64 a0_0, .int .u64 a0_1, .int .u64 a0_2, .string a0_3]) (t := 24) ?_; intro gb188 hg w16 hbox hb; have BK188 := Aside0.mk hbox; have GW188 := bsz HB hg; have GE188 := bsz HB hg; replace HB := bls HB hb; clear hb hbox hg; have hcz17_0 : w16.cell? ⟨gb188, 0, none⟩ = some (.int .i64 a0_0) := (blk_cell BK188.out 0).trans rfl; have hcz17_1 : w16.cell? ⟨gb188, 1, none⟩ = some (.int .u64 a0_1) := (blk_cell BK188.out 1).trans rfl; have hcz17_2 : w16.cell? ⟨gb188, 2, none⟩ = some (.int .u64 a0_2) := (blk_cell BK188.out 2).trans rfl; have hcz17_3 : w16.cell? ⟨gb188, 3, none⟩ = some (.string a0_3) := (blk_cell BK188.out 3).trans rfl; have hfz17_0 := blk_frozen BK188.out 0; have hfz17_1 := blk_frozen BK188.out 1; have hfz17_2 := blk_frozen BK188.out 2; have hfz17_3 := blk_frozen BK188.out 3) | ((with_reducible refine gate_callee (f := 39) rfl ?_); refine gL 6 Tryz.func39 #[.int .i64 a0_0] ?_; (with_reducible refine (r10_TypeErr.calls a0_0 t189 _ A2.out).mono ?_); rintro e w' ⟨rfl, ⟨nd, rfl⟩⟩; refine ⟨_, rfl, ?_⟩))
   go_ret
   exact ⟨by first | rfl | (simp [errW_none, errW_some] <;> rfl) | (simp [*, errW_none, errW_some] <;> rfl), (blt HB).out⟩
 ·rw [if_neg c3] at H
  have c3b0 : (t189 == 0) = false := beq_eq_false_iff_ne.mpr c3
  have c3b1 : (t189 != 0) = true := bne_iff_ne.mpr c3
  obtain rfl := Option.some.inj H
  go_enter Tryz.func29, Tryz.ntmps29
  go_wp2_with (first | ((with_reducible refine gate_dst (N := 1) rfl ?_); refine bxe 1 (cs := #[.int .i64 a0_0, .int .u64 a0_1, .int .u64 a0_2, .string a0_3]) (t := 24) ?_; intro gb188 hg w18 hbox hb; have BK188 := Aside0.mk hbox; have GW188 := bsz HB hg; have GE188 := bsz HB hg; replace HB := bls HB hb; clear hb hbox hg; have hcz19_0 : w18.cell? ⟨gb188, 0, none⟩ = some (.int .i64 a0_0) := (blk_cell BK188.out 0).trans rfl; have hcz19_1 : w18.cell? ⟨gb188, 1, none⟩ = some (.int .u64 a0_1) := (blk_cell BK188.out 1).trans rfl; have hcz19_2 : w18.cell? ⟨gb188, 2, none⟩ = some (.int .u64 a0_2) := (blk_cell BK188.out 2).trans rfl; have hcz19_3 : w18.cell? ⟨gb188, 3, none⟩ = some (.string a0_3) := (blk_cell BK188.out 3).trans rfl; have hfz19_0 := blk_frozen BK188.out 0; have hfz19_1 := blk_frozen BK188.out 1; have hfz19_2 := blk_frozen BK188.out 2; have hfz19_3 := blk_frozen BK188.out 3) | ((with_reducible refine gate_callee (f := 39) rfl ?_); refine gL 6 Tryz.func39 #[.int .i64 a0_0] ?_; (with_reducible refine (r10_TypeErr.calls a0_0 t189 _ A2.out).mono ?_); rintro e w' ⟨rfl, ⟨nd, rfl⟩⟩; refine ⟨_, rfl, ?_⟩))
  go_ret
  exact ⟨by first | rfl | (simp [errW_none, errW_some] <;> rfl) | (simp [*, errW_none, errW_some] <;> rfl), (blt HB).out⟩
def r10_TwoErr.f (a0_0 : Int) (a0_1 : Int) (a0_2 : Int) (a0_3 : ByteArray) (a1_0 : Int) (a1_1 : Int) (a1_2 : Int) (a1_3 : ByteArray) : Option (Int) := (r10_ValueErr.f a0_0 a0_1 a0_2 a0_3).bind fun t192 => (if t192 = 0 then ((r10_ValueErr.f a1_0 a1_1 a1_2 a1_3).bind fun t193 => (if t193 = 0 then (if a0_0 = a1_0 then (some 0) else (some 27)) else (some t193))) else (some t192))
set_option maxHeartbeats 8000000 in
set_option maxRecDepth 100000 in
theorem r10_TwoErr.calls (a0_0 : Int) (a0_1 : Int) (a0_2 : Int) (a0_3 : ByteArray) (a1_0 : Int) (a1_1 : Int) (a1_2 : Int) (a1_3 : ByteArray) (r : Int) (w : World) (h : r10_TwoErr.f a0_0 a0_1 a0_2 a0_3 a1_0 a1_1 a1_2 a1_3 = some r) :
  Calls Tryz.prog 13 #[.agg #[.int .i64 a0_0, .int .u64 a0_1, .int .u64 a0_2, .string a0_3], .agg #[.int .i64 a1_0, .int .u64 a1_1, .int .u64 a1_2, .string a1_3]] w fun e w' => e = .returned (.int .i64 r) ∧ Below w.heap.size w w' := by
 have hu24 := Tryz.underlying24
 have HB := Aside0.mk (Below.refl w.heap.size w)
 have H : ((r10_ValueErr.f a0_0 a0_1 a0_2 a0_3).bind fun t192 => (if t192 = 0 then ((r10_ValueErr.f a1_0 a1_1 a1_2 a1_3).bind fun t193 => (if t193 = 0 then (if a0_0 = a1_0 then (some 0) else (some 27)) else (some t193))) else (some t192))) = some r := h
 clear h
 replace H := Option.bind_eq_some_iff.mp H
 obtain ⟨t192, A3, H⟩ := H
 try dsimp only at H
 replace A3 := Aside0.mk A3
 by_cases c4 : t192 = 0
 ·rw [if_pos c4] at H
  have c4b0 : (t192 == 0) = true := beq_iff_eq.mpr c4
  have c4b1 : (t192 != 0) = false := bne_eq_false_iff_eq.mpr c4
  clear c4
  replace H := Option.bind_eq_some_iff.mp H
  obtain ⟨t193, A5, H⟩ := H
  try dsimp only at H
  replace A5 := Aside0.mk A5
  by_cases c6 : t193 = 0
  ·rw [if_pos c6] at H
   have c6b0 : (t193 == 0) = true := beq_iff_eq.mpr c6
   have c6b1 : (t193 != 0) = false := bne_eq_false_iff_eq.mpr c6
   clear c6
   by_cases c7 : a0_0 = a1_0
   ·rw [if_pos c7] at H
    have c7b0 : (a0_0 == a1_0) = true := beq_iff_eq.mpr c7
    have c7b1 : (a0_0 != a1_0) = false := bne_eq_false_iff_eq.mpr c7
    clear c7
    obtain rfl := Option.some.inj H
    go_enter Tryz.func13, Tryz.ntmps13
    go_wp2_with (first | ((with_reducible refine gate_dst (N := 2) rfl ?_); refine bxe 2 (cs := #[.int .i64 a0_0, .int .u64 a0_1, .int .u64 a0_2, .string a0_3]) (t := 24) ?_; intro gb190 hg w8 hbox hb; have BK190 := Aside0.mk hbox; have GW190 := bsz HB hg; have GE190 := bsz HB hg; replace HB := bls HB hb; clear hb hbox hg) | ((with_reducible refine gate_dst (N := 3) rfl ?_); refine bxe 3 (cs := #[.int .i64 a1_0, .int .u64 a1_1, .int .u64 a1_2, .string a1_3]) (t := 24) ?_; intro gb191 hg w9 hbox hb; have BK191 := Aside0.mk hbox; have GW191 := bsz HB hg; have GE191 := bsz HB hg; have NB190_191 := bnl BK190 hg; have NB191_190 := bng BK190 hg; replace BK190 := bkb BK190 hb; replace HB := bls HB hb; clear hb hbox hg; have hnb10 := NB190_191.out; have hnc10 := NB191_190.out; have hcz11_0 : w9.cell? ⟨gb190, 0, none⟩ = some (.int .i64 a0_0) := (blk_cell BK190.out 0).trans rfl; have hcz11_1 : w9.cell? ⟨gb190, 1, none⟩ = some (.int .u64 a0_1) := (blk_cell BK190.out 1).trans rfl; have hcz11_2 : w9.cell? ⟨gb190, 2, none⟩ = some (.int .u64 a0_2) := (blk_cell BK190.out 2).trans rfl; have hcz11_3 : w9.cell? ⟨gb190, 3, none⟩ = some (.string a0_3) := (blk_cell BK190.out 3).trans rfl; have hfz11_0 := blk_frozen BK190.out 0; have hfz11_1 := blk_frozen BK190.out 1; have hfz11_2 := blk_frozen BK190.out 2; have hfz11_3 := blk_frozen BK190.out 3) | ((with_reducible refine gate_callee (f := 29) rfl ?_); refine gL 8 Tryz.func29 #[.agg #[.int .i64 a0_0, .int .u64 a0_1, .int .u64 a0_2, .string a0_3]] ?_; (with_reducible refine (r10_ValueErr.calls a0_0 a0_1 a0_2 a0_3 t192 _ A3.out).mono ?_); rintro e w12 ⟨rfl, hb⟩; refine ⟨_, rfl, ?_⟩; replace BK190 := bkb BK190 hb; replace BK191 := bkb BK191 hb; replace HB := bls HB hb; clear hb; have hcz13_0 : w12.cell? ⟨gb191, 0, none⟩ = some (.int .i64 a1_0) := (blk_cell BK191.out 0).trans rfl; have hcz13_1 : w12.cell? ⟨gb191, 1, none⟩ = some (.int .u64 a1_1) := (blk_cell BK191.out 1).trans rfl; have hcz13_2 : w12.cell? ⟨gb191, 2, none⟩ = some (.int .u64 a1_2) := (blk_cell BK191.out 2).trans rfl; have hcz13_3 : w12.cell? ⟨gb191, 3, none⟩ = some (.string a1_3) := (blk_cell BK191.out 3).trans rfl; have hfz13_0 := blk_frozen BK191.out 0; have hfz13_1 := blk_frozen BK191.out 1; have hfz13_2 := blk_frozen BK191.out 2; have hfz13_3 := blk_frozen BK191.out 3) | ((with_reducible refine gate_callee (f := 29) rfl ?_); refine gL 13 Tryz.func29 #[.agg #[.int .i64 a1_0, .int .u64 a1_1, .int .u64 a1_2, .string a1_3]] ?_; (with_reducible refine (r10_ValueErr.calls a1_0 a1_1 a1_2 a1_3 t193 _ A5.out).mono ?_); rintro e w14 ⟨rfl, hb⟩; refine ⟨_, rfl, ?_⟩; replace BK190 := bkb BK190 hb; replace BK191 := bkb BK191 hb; replace HB := bls HB hb; clear hb; obtain ⟨hcz15_0, hcz15_1, hcz15_2, hcz15_3, hfz15_0, hfz15_1, hfz15_2, hfz15_3⟩ := cf4 BK190; have hcz16_0 : w14.cell? ⟨gb191, 0, none⟩ = some (.int .i64 a1_0) := (blk_cell BK191.out 0).trans rfl; have hcz16_1 : w14.cell? ⟨gb191, 1, none⟩ = some (.int .u64 a1_1) := (blk_cell BK191.out 1).trans rfl; have hcz16_2 : w14.cell? ⟨gb191, 2, none⟩ = some (.int .u64 a1_2) := (blk_cell BK191.out 2).trans rfl; have hcz16_3 : w14.cell? ⟨gb191, 3, none⟩ = some (.string a1_3) := (blk_cell BK191.out 3).trans rfl; have hfz16_0 := blk_frozen BK191.out 0; have hfz16_1 := blk_frozen BK191.out 1; have hfz16_2 := blk_frozen BK191.out 2; have hfz16_3 := blk_frozen BK191.out 3))
    go_ret
    exact ⟨by first | rfl | (simp [errW_none, errW_some] <;> rfl) | (simp [*, errW_none, errW_some] <;> rfl), (blt HB).out⟩
   ·rw [if_neg c7] at H
    have c7b0 : (a0_0 == a1_0) = false := beq_eq_false_iff_ne.mpr c7
    have c7b1 : (a0_0 != a1_0) = true := bne_iff_ne.mpr c7
    obtain rfl := Option.some.inj H
    go_enter Tryz.func13, Tryz.ntmps13
    go_wp2_with (first | ((with_reducible refine gate_dst (N := 2) rfl ?_); refine bxe 2 (cs := #[.int .i64 a0_0, .int .u64 a0_1, .int .u64 a0_2, .string a0_3]) (t := 24) ?_; intro gb190 hg w17 hbox hb; have BK190 := Aside0.mk hbox; have GW190 := bsz HB hg; have GE190 := bsz HB hg; replace HB := bls HB hb; clear hb hbox hg) | ((with_reducible refine gate_dst (N := 3) rfl ?_); refine bxe 3 (cs := #[.int .i64 a1_0, .int .u64 a1_1, .int .u64 a1_2, .string a1_3]) (t := 24) ?_; intro gb191 hg w18 hbox hb; have BK191 := Aside0.mk hbox; have GW191 := bsz HB hg; have GE191 := bsz HB hg; have NB190_191 := bnl BK190 hg; have NB191_190 := bng BK190 hg; replace BK190 := bkb BK190 hb; replace HB := bls HB hb; clear hb hbox hg; have hnb19 := NB190_191.out; have hnc19 := NB191_190.out; have hcz20_0 : w18.cell? ⟨gb190, 0, none⟩ = some (.int .i64 a0_0) := (blk_cell BK190.out 0).trans rfl; have hcz20_1 : w18.cell? ⟨gb190, 1, none⟩ = some (.int .u64 a0_1) := (blk_cell BK190.out 1).trans rfl; have hcz20_2 : w18.cell? ⟨gb190, 2, none⟩ = some (.int .u64 a0_2) := (blk_cell BK190.out 2).trans rfl; have hcz20_3 : w18.cell? ⟨gb190, 3, none⟩ = some (.string a0_3) := (blk_cell BK190.out 3).trans rfl; have hfz20_0 := blk_frozen BK190.out 0; have hfz20_1 := blk_frozen BK190.out 1; have hfz20_2 := blk_frozen BK190.out 2; have hfz20_3 := blk_frozen BK190.out 3) | ((with_reducible refine gate_callee (f := 29) rfl ?_); refine gL 8 Tryz.func29 #[.agg #[.int .i64 a0_0, .int .u64 a0_1, .int .u64 a0_2, .string a0_3]] ?_; (with_reducible refine (r10_ValueErr.calls a0_0 a0_1 a0_2 a0_3 t192 _ A3.out).mono ?_); rintro e w21 ⟨rfl, hb⟩; refine ⟨_, rfl, ?_⟩; replace BK190 := bkb BK190 hb; replace BK191 := bkb BK191 hb; replace HB := bls HB hb; clear hb; have hcz22_0 : w21.cell? ⟨gb191, 0, none⟩ = some (.int .i64 a1_0) := (blk_cell BK191.out 0).trans rfl; have hcz22_1 : w21.cell? ⟨gb191, 1, none⟩ = some (.int .u64 a1_1) := (blk_cell BK191.out 1).trans rfl; have hcz22_2 : w21.cell? ⟨gb191, 2, none⟩ = some (.int .u64 a1_2) := (blk_cell BK191.out 2).trans rfl; have hcz22_3 : w21.cell? ⟨gb191, 3, none⟩ = some (.string a1_3) := (blk_cell BK191.out 3).trans rfl; have hfz22_0 := blk_frozen BK191.out 0; have hfz22_1 := blk_frozen BK191.out 1; have hfz22_2 := blk_frozen BK191.out 2; have hfz22_3 := blk_frozen BK191.out 3) | ((with_reducible refine gate_callee (f := 29) rfl ?_); refine gL 13 Tryz.func29 #[.agg #[.int .i64 a1_0, .int .u64 a1_1, .int .u64 a1_2, .string a1_3]] ?_; (with_reducible refine (r10_ValueErr.calls a1_0 a1_1 a1_2 a1_3 t193 _ A5.out).mono ?_); rintro e w23 ⟨rfl, hb⟩; refine ⟨_, rfl, ?_⟩; replace BK190 := bkb BK190 hb; replace BK191 := bkb BK191 hb; replace HB := bls HB hb; clear hb; obtain ⟨hcz24_0, hcz24_1, hcz24_2, hcz24_3, hfz24_0, hfz24_1, hfz24_2, hfz24_3⟩ := cf4 BK190; have hcz25_0 : w23.cell? ⟨gb191, 0, none⟩ = some (.int .i64 a1_0) := (blk_cell BK191.out 0).trans rfl; have hcz25_1 : w23.cell? ⟨gb191, 1, none⟩ = some (.int .u64 a1_1) := (blk_cell BK191.out 1).trans rfl; have hcz25_2 : w23.cell? ⟨gb191, 2, none⟩ = some (.int .u64 a1_2) := (blk_cell BK191.out 2).trans rfl; have hcz25_3 : w23.cell? ⟨gb191, 3, none⟩ = some (.string a1_3) := (blk_cell BK191.out 3).trans rfl; have hfz25_0 := blk_frozen BK191.out 0; have hfz25_1 := blk_frozen BK191.out 1; have hfz25_2 := blk_frozen BK191.out 2; have hfz25_3 := blk_frozen BK191.out 3))
    go_ret
    exact ⟨by first | rfl | (simp [errW_none, errW_some] <;> rfl) | (simp [*, errW_none, errW_some] <;> rfl), (blt HB).out⟩
  ·rw [if_neg c6] at H
   have c6b0 : (t193 == 0) = false := beq_eq_false_iff_ne.mpr c6
   have c6b1 : (t193 != 0) = true := bne_iff_ne.mpr c6
   obtain rfl := Option.some.inj H
   go_enter Tryz.func13, Tryz.ntmps13
   go_wp2_with (first | ((with_reducible refine gate_dst (N := 2) rfl ?_); refine bxe 2 (cs := #[.int .i64 a0_0, .int .u64 a0_1, .int .u64 a0_2, .string a0_3]) (t := 24) ?_; intro gb190 hg w26 hbox hb; have BK190 := Aside0.mk hbox; have GW190 := bsz HB hg; have GE190 := bsz HB hg; replace HB := bls HB hb; clear hb hbox hg) | ((with_reducible refine gate_dst (N := 3) rfl ?_); refine bxe 3 (cs := #[.int .i64 a1_0, .int .u64 a1_1, .int .u64 a1_2, .string a1_3]) (t := 24) ?_; intro gb191 hg w27 hbox hb; have BK191 := Aside0.mk hbox; have GW191 := bsz HB hg; have GE191 := bsz HB hg; have NB190_191 := bnl BK190 hg; have NB191_190 := bng BK190 hg; replace BK190 := bkb BK190 hb; replace HB := bls HB hb; clear hb hbox hg; have hnb28 := NB190_191.out; have hnc28 := NB191_190.out; have hcz29_0 : w27.cell? ⟨gb190, 0, none⟩ = some (.int .i64 a0_0) := (blk_cell BK190.out 0).trans rfl; have hcz29_1 : w27.cell? ⟨gb190, 1, none⟩ = some (.int .u64 a0_1) := (blk_cell BK190.out 1).trans rfl; have hcz29_2 : w27.cell? ⟨gb190, 2, none⟩ = some (.int .u64 a0_2) := (blk_cell BK190.out 2).trans rfl; have hcz29_3 : w27.cell? ⟨gb190, 3, none⟩ = some (.string a0_3) := (blk_cell BK190.out 3).trans rfl; have hfz29_0 := blk_frozen BK190.out 0; have hfz29_1 := blk_frozen BK190.out 1; have hfz29_2 := blk_frozen BK190.out 2; have hfz29_3 := blk_frozen BK190.out 3) | ((with_reducible refine gate_callee (f := 29) rfl ?_); refine gL 8 Tryz.func29 #[.agg #[.int .i64 a0_0, .int .u64 a0_1, .int .u64 a0_2, .string a0_3]] ?_; (with_reducible refine (r10_ValueErr.calls a0_0 a0_1 a0_2 a0_3 t192 _ A3.out).mono ?_); rintro e w30 ⟨rfl, hb⟩; refine ⟨_, rfl, ?_⟩; replace BK190 := bkb BK190 hb; replace BK191 := bkb BK191 hb; replace HB := bls HB hb; clear hb; have hcz31_0 : w30.cell? ⟨gb191, 0, none⟩ = some (.int .i64 a1_0) := (blk_cell BK191.out 0).trans rfl; have hcz31_1 : w30.cell? ⟨gb191, 1, none⟩ = some (.int .u64 a1_1) := (blk_cell BK191.out 1).trans rfl; have hcz31_2 : w30.cell? ⟨gb191, 2, none⟩ = some (.int .u64 a1_2) := (blk_cell BK191.out 2).trans rfl; have hcz31_3 : w30.cell? ⟨gb191, 3, none⟩ = some (.string a1_3) := (blk_cell BK191.out 3).trans rfl; have hfz31_0 := blk_frozen BK191.out 0; have hfz31_1 := blk_frozen BK191.out 1; have hfz31_2 := blk_frozen BK191.out 2; have hfz31_3 := blk_frozen BK191.out 3) | ((with_reducible refine gate_callee (f := 29) rfl ?_); refine gL 13 Tryz.func29 #[.agg #[.int .i64 a1_0, .int .u64 a1_1, .int .u64 a1_2, .string a1_3]] ?_; (with_reducible refine (r10_ValueErr.calls a1_0 a1_1 a1_2 a1_3 t193 _ A5.out).mono ?_); rintro e w32 ⟨rfl, hb⟩; refine ⟨_, rfl, ?_⟩; replace BK190 := bkb BK190 hb; replace BK191 := bkb BK191 hb; replace HB := bls HB hb; clear hb))
   go_ret
   exact ⟨by first | rfl | (simp [errW_none, errW_some] <;> rfl) | (simp [*, errW_none, errW_some] <;> rfl), (blt HB).out⟩
 ·rw [if_neg c4] at H
  have c4b0 : (t192 == 0) = false := beq_eq_false_iff_ne.mpr c4
  have c4b1 : (t192 != 0) = true := bne_iff_ne.mpr c4
  obtain rfl := Option.some.inj H
  go_enter Tryz.func13, Tryz.ntmps13
  go_wp2_with (first | ((with_reducible refine gate_dst (N := 2) rfl ?_); refine bxe 2 (cs := #[.int .i64 a0_0, .int .u64 a0_1, .int .u64 a0_2, .string a0_3]) (t := 24) ?_; intro gb190 hg w33 hbox hb; have BK190 := Aside0.mk hbox; have GW190 := bsz HB hg; have GE190 := bsz HB hg; replace HB := bls HB hb; clear hb hbox hg) | ((with_reducible refine gate_dst (N := 3) rfl ?_); refine bxe 3 (cs := #[.int .i64 a1_0, .int .u64 a1_1, .int .u64 a1_2, .string a1_3]) (t := 24) ?_; intro gb191 hg w34 hbox hb; have BK191 := Aside0.mk hbox; have GW191 := bsz HB hg; have GE191 := bsz HB hg; have NB190_191 := bnl BK190 hg; have NB191_190 := bng BK190 hg; replace BK190 := bkb BK190 hb; replace HB := bls HB hb; clear hb hbox hg; have hnb35 := NB190_191.out; have hnc35 := NB191_190.out; have hcz36_0 : w34.cell? ⟨gb190, 0, none⟩ = some (.int .i64 a0_0) := (blk_cell BK190.out 0).trans rfl; have hcz36_1 : w34.cell? ⟨gb190, 1, none⟩ = some (.int .u64 a0_1) := (blk_cell BK190.out 1).trans rfl; have hcz36_2 : w34.cell? ⟨gb190, 2, none⟩ = some (.int .u64 a0_2) := (blk_cell BK190.out 2).trans rfl; have hcz36_3 : w34.cell? ⟨gb190, 3, none⟩ = some (.string a0_3) := (blk_cell BK190.out 3).trans rfl; have hfz36_0 := blk_frozen BK190.out 0; have hfz36_1 := blk_frozen BK190.out 1; have hfz36_2 := blk_frozen BK190.out 2; have hfz36_3 := blk_frozen BK190.out 3) | ((with_reducible refine gate_callee (f := 29) rfl ?_); refine gL 8 Tryz.func29 #[.agg #[.int .i64 a0_0, .int .u64 a0_1, .int .u64 a0_2, .string a0_3]] ?_; (with_reducible refine (r10_ValueErr.calls a0_0 a0_1 a0_2 a0_3 t192 _ A3.out).mono ?_); rintro e w37 ⟨rfl, hb⟩; refine ⟨_, rfl, ?_⟩; replace BK190 := bkb BK190 hb; replace BK191 := bkb BK191 hb; replace HB := bls HB hb; clear hb))
  go_ret
  exact ⟨by first | rfl | (simp [errW_none, errW_some] <;> rfl) | (simp [*, errW_none, errW_some] <;> rfl), (blt HB).out⟩
def l10_brief.f (a0_0 : Int) (a0_1 : Int) (a0_2 : Int) (a0_3 : ByteArray) : Option (Bool) := some (decide ((a0_3.size : Int) ≤ 60))
set_option maxHeartbeats 8000000 in
set_option maxRecDepth 100000 in
theorem l10_brief.calls (a0_0 : Int) (a0_1 : Int) (a0_2 : Int) (a0_3 : ByteArray) (r : Bool) (w : World) (h : l10_brief.f a0_0 a0_1 a0_2 a0_3 = some r) :
  Calls Tryz.prog 11 #[.agg #[.int .i64 a0_0, .int .u64 a0_1, .int .u64 a0_2, .string a0_3]] w fun e w' => e = .returned (.bool r) ∧ Below w.heap.size w w' := by
 have hu24 := Tryz.underlying24
 have HB := Aside0.mk (Below.refl w.heap.size w)
 have H : (some (decide ((a0_3.size : Int) ≤ 60))) = some r := h
 clear h
 obtain rfl := Option.some.inj H
 go_enter Tryz.func11, Tryz.ntmps11
 go_wp2_with (first | ((with_reducible refine gate_dst (N := 1) rfl ?_); refine bxe 1 (cs := #[.int .i64 a0_0, .int .u64 a0_1, .int .u64 a0_2, .string a0_3]) (t := 24) ?_; intro gb194 hg w2 hbox hb; have BK194 := Aside0.mk hbox; have GW194 := bsz HB hg; have GE194 := bsz HB hg; replace HB := bls HB hb; clear hb hbox hg; have hcz3_0 : w2.cell? ⟨gb194, 0, none⟩ = some (.int .i64 a0_0) := (blk_cell BK194.out 0).trans rfl; have hcz3_1 : w2.cell? ⟨gb194, 1, none⟩ = some (.int .u64 a0_1) := (blk_cell BK194.out 1).trans rfl; have hcz3_2 : w2.cell? ⟨gb194, 2, none⟩ = some (.int .u64 a0_2) := (blk_cell BK194.out 2).trans rfl; have hcz3_3 : w2.cell? ⟨gb194, 3, none⟩ = some (.string a0_3) := (blk_cell BK194.out 3).trans rfl; have hfz3_0 := blk_frozen BK194.out 0; have hfz3_1 := blk_frozen BK194.out 1; have hfz3_2 := blk_frozen BK194.out 2; have hfz3_3 := blk_frozen BK194.out 3))
 go_ret
 exact ⟨by first | rfl | (simp [errW_none, errW_some] <;> rfl) | (simp [*, errW_none, errW_some] <;> rfl), (blt HB).out⟩
end Go.Proofs.YtmoimcblmmcffaaGreat.PRA

namespace Go.Proofs.YtmoimcblmmcffaaGreat.B
open Go.RowKit NC N PPC PRA
set_option linter.unusedSimpArgs false
set_option linter.unusedVariables false
theorem u64B_nat {s : Bool} {x : Nat} (h : x < 2 * signN s) : u64B (x : Int) = true := by
 have := (rg_nat h).u64
 unfold u64B
 rw [decide_eq_true this.1, decide_eq_true this.2]; rfl
section
variable {s : Bool} {x y : Nat} (hx : x < 2 * signN s) (hy : y < 2 * signN s)
include hx hy
theorem forder : fd_order.f (tv s) (x : Int) (y : Int) = some (cmpR s x y) := by
 unfold fd_order.f rl_Compare.f
 rw [u64B_nat hx, u64B_nat hy, if_pos (show (true && true) = true from rfl), (rg_nat hx).valid2 (rg_nat hy), if_pos rfl, tv_eq, cmp_eq hx hy]; rfl
theorem rcmp : r8_Compare.f (tv s) (x : Int) (y : Int) = some (cmpR s x y) := on2_tv hx hy
end
def ct (s : Bool) : Int := if s then 3 else 4
theorem rpart (s : Bool) : r10_PartType.f (ct s) = some (tv s) := by cases s <;> rfl
theorem cpart_ct (s : Bool) : cpart (ct s) = tv s := by cases s <;> rfl
end Go.Proofs.YtmoimcblmmcffaaGreat.B
