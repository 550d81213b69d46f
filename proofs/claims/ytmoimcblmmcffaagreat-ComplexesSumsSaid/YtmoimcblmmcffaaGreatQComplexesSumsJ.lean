/- Contracts and plain laws that the law ComplexesSums leans on (texts joined by program; what it does not come to is left out). -/
import Derived.Test.YtmoimcblmmcffaaGreatQComplexesSumsA
import Derived.Test.YtmoimcblmmcffaaGreatQComplexesSumsI

namespace Go.Proofs.YtmoimcblmmcffaaGreat.PLS
open Go.RowKit Go.Proofs.YtmoimcblmmcffaaGreat.PPC Go.Proofs.YtmoimcblmmcffaaGreat.PRA Go.Proofs.YtmoimcblmmcffaaGreat.PN Go.Proofs.YtmoimcblmmcffaaGreatW.PrintWords Go.Proofs.YtmoimcblmmcffaaGreatW.PrintLast Go.Proofs.YtmoimcblmmcffaaGreatW.PrintMore Go.Proofs.YtmoimcblmmcffaaGreatW.PrintZ
attribute [local go_sem] max2_int min2_int max_two min_two max_three min_three max_four min_four   -- for this text's walks alone
attribute [local go_sem high] Go.Proofs.YtmoimcblmmcffaaGreat.NC.fld0
set_option linter.unusedVariables false
set_option linter.unusedSimpArgs false


mutual
def cx_DotOf.j0 : Nat → Int → List (S24) → List (S24) → Int → Int → Option (Int × Int × Int × ByteArray × Int)
 | 0, _, _, _, _, _ => none
 | k + 1, x0, x1, x2, x8, x9 => if x9 = 0 then ((cx_list.f k x0 x1).bind fun bt147 => (if bt147.2 = 0 then ((cx_list.f k x0 x2).bind fun bt151 => (if bt151.2 = 0 then (cx_DotOf.l0 k x8 bt147.1 bt151.1 (bt147.1.length : Int) 0) else (some (0, 0, 0, (⟨#[]⟩ : ByteArray), bt151.2)))) else (some (0, 0, 0, (⟨#[]⟩ : ByteArray), bt147.2)))) else (some (0, 0, 0, (⟨#[]⟩ : ByteArray), x9))
def cx_DotOf.l0 : Nat → Int → List (S74) → List (S74) → Int → Int → Option (Int × Int × Int × ByteArray × Int)
 | 0, _, _, _, _, _ => none
 | k + 1, x8, x10, x11, x56, x57 => if x57 < x56 then (if 0 ≤ x57 then (if x57 < (x10.length : Int) then ((fd_conjugate.f x8 ((rd_T74 x10 x57).f0) ((rd_T74 x10 x57).f1)).bind fun bt156 => (if x57 < (x11.length : Int) then ((fd_times.f x8 bt156.1 bt156.2 ((rd_T74 x11 x57).f0) ((rd_T74 x11 x57).f1)).bind fun bt159 => (cx_DotOf.l0 k x8 (x10.set (x57 : Int).toNat (⟨bt159.1, bt159.2⟩ : S74)) x11 x56 (wrap64 (x57 + 1)))) else (none))) else (none)) else (none)) else ((fd_sum.f k x8 x10).bind fun bt162 => ((fd_value.f x8 bt162.1 bt162.2).bind fun bt164 => (some (bt164.1, bt164.2.1, bt164.2.2.1, bt164.2.2.2, 0))))
end
def cx_DotOf.f (k : Nat) (a0 : Int) (l1 : List (S24)) (l2 : List (S24)) : Option (Int × Int × Int × ByteArray × Int) := (cx_partType.f a0).bind fun bt145 => (if bt145.2 = 0 then (if (l1.length : Int) = (l2.length : Int) then (if (l1.length : Int) > 40 then (cx_DotOf.j0 k a0 l1 l2 bt145.1 8) else (cx_DotOf.j0 k a0 l1 l2 bt145.1 bt145.2)) else (cx_DotOf.j0 k a0 l1 l2 bt145.1 10)) else (cx_DotOf.j0 k a0 l1 l2 bt145.1 bt145.2))
def cx_DotOf.T18 : Bool × List (List Nat × List Nat) := (true, [([], []), ([], []), ([], []), ([], []), ([], []), ([], []), ([4, 5], [4, 5]), ([6], [6]), ([3, 7], [3, 7]), ([], []), ([], []), ([9, 10], [9, 10]), ([11], [11]), ([2, 8, 12, 8], [2, 8, 12]), ([0, 1, 0, 1, 2, 3, 4, 5, 6, 7, 8, 9, 10, 11, 12, 13], [0, 1]), ([14, 13, 13, 0, 1, 2, 3, 4, 5, 6, 7, 8, 9, 10, 11, 12, 13], [13, 14])])
def cx_DotOf.B18 : List Nat := [0, 0, 0, 0, 0, 0, 48, 112, 248, 0, 0, 1536, 3584, 8188, 16383, 32767]
theorem cx_DotOf.tab18 : rtab .any (opsOf Tryz.f38 18) = cx_DotOf.T18 := by kernel_rfl
theorem cx_DotOf.bits18 : waitsOk cx_DotOf.T18.2 cx_DotOf.B18 = true := by kernel_rfl
set_option maxHeartbeats 8000000 in
set_option maxRecDepth 100000 in
theorem cx_DotOf.calls (k : Nat) (a0 : Int) (A1 : Option Addr) (c1 : Nat) (l1 : List (S24)) (A2 : Option Addr) (c2 : Nat) (l2 : List (S24)) (r1 : Int) (r2 : Int) (r3 : Int) (r4 : ByteArray) (r5 : Int) (w : World) (hr1 : Kd.C k24 w A1 l1.length l1) (hc1 : l1.length ≤ c1) (hr2 : Kd.C k24 w A2 l2.length l2) (hc2 : l2.length ≤ c2) (h : cx_DotOf.f k a0 l1 l2 = some (r1, r2, r3, r4, r5)) :
  Calls Tryz.prog 38 #[.int .i64 a0, .slice A1 l1.length c1, .slice A2 l2.length c2] w fun e w' => e = .returned (.tuple #[.agg #[.int .i64 r1, .int .u64 r2, .int .u64 r3, .string r4], .int .i64 r5]) ∧ Below w.heap.size w w' := by
 have hu24 := Tryz.underlying24
 have hu74 := Tryz.underlying74
 have HR1 := Zs.mk hr1
 have HC1 := Zs.mk hc1
 clear hr1 hc1
 have HR2 := Zs.mk hr2
 have HC2 := Zs.mk hc2
 clear hr2 hc2
 have HB := Zs.mk (Below.refl w.heap.size w)
 have H : ((cx_partType.f a0).bind fun bt145 => (if bt145.2 = 0 then (if (l1.length : Int) = (l2.length : Int) then (if (l1.length : Int) > 40 then (cx_DotOf.j0 k a0 l1 l2 bt145.1 8) else (cx_DotOf.j0 k a0 l1 l2 bt145.1 bt145.2)) else (cx_DotOf.j0 k a0 l1 l2 bt145.1 10)) else (cx_DotOf.j0 k a0 l1 l2 bt145.1 bt145.2))) = some (r1, r2, r3, r4, r5) := h
 clear h
 replace H := Option.bind_eq_some_iff.mp H
 obtain ⟨⟨t145, t146⟩, A4, H⟩ := H
 try dsimp only at H
 replace A4 := Zs.mk A4
 have HC5 := Zs.mk H
 clear H
 go_enter Tryz.func38, Tryz.ntmps38
 go_upto_block 0 with (first | ((with_reducible refine gd_ (N := 6) rfl ?_); refine bxe 6 (cs := #[.int .i64 0, .int .u64 0, .int .u64 0, .string (⟨#[]⟩ : ByteArray)]) (t := 24) ?_; intro gb144 hg w6 hbox hb; have BK144 := Zs.mk hbox; have GW144 := bsz HB hg; have GE144 := bsz HB hg; replace HB := bls HB hb; clear hb hbox hg) | ((with_reducible refine gc_ (f := 88) rfl ?_); refine gLc 15 Tryz.func88 (cx_partType.calls a0 t145 t146 _ A4.out) (fun w7 hb => ?_); replace BK144 := bkb BK144 hb; replace HB := bls HB hb; clear hb))
 (try simp only [Act.put, List.setIfInBounds_toArray, List.set_cons_zero, List.set_cons_succ])
 go_cut [9] (fun v9 wc => ∃ (kq : Nat) (x9_4 : Int), v9 = .int .i64 x9_4 ∧ Zs (cx_DotOf.j0 kq a0 l1 l2 t145 x9_4 = some (r1, r2, r3, r4, r5)) ∧ Zs (kq ≤ k) ∧ Zs (wc.heap[gb144]? = some (.cells #[.int .i64 0, .int .u64 0, .int .u64 0, .string (⟨#[]⟩ : ByteArray)] 24 (0, 0))) ∧ Zs (Below w.heap.size w wc))
 case first =>
  have H := HC5.out
  clear HC5
  by_cases c8 : t146 = 0
  ·rw [if_pos c8] at H
   have c8b0 : (t146 == 0) = true := beq_iff_eq.mpr c8
   have c8b1 : (t146 != 0) = false := bne_eq_false_iff_eq.mpr c8
   clear c8
   (first | rw [c8b0] | (simp only [i64_w, i32_w]; rw [c8b0]) | skip)
   by_cases c9 : (l1.length : Int) = (l2.length : Int)
   ·rw [if_pos c9] at H
    have c9b0 : ((l1.length : Int) == (l2.length : Int)) = true := beq_iff_eq.mpr c9
    have c9b1 : ((l1.length : Int) != (l2.length : Int)) = false := bne_eq_false_iff_eq.mpr c9
    have c9b2 : (l1.length == l2.length) = true := by first | simpa using c9 | (simp at c9 ⊢; omega)
    clear c9
    by_cases c10 : (l1.length : Int) > 40
    ·rw [if_pos c10] at H
     have c10b0 : decide (40 < (l1.length : Int)) = true := decide_eq_true c10
     have c10b1 : decide (40 < l1.length) = true := decide_eq_true (by omega)
     clear c10
     have H' := Zs.mk H
     clear H
     go_wp2
     go_meet
     case rel => exact ⟨_, (8), (by first | rfl | (simp; done) | (simp [*]; done)), H', ⟨by first | omega | exact Nat.le_refl _⟩, bks BK144, blt HB⟩
    ·rw [if_neg c10] at H
     have c10b0 : decide (40 < (l1.length : Int)) = false := decide_eq_false c10
     have c10b1 : decide (40 < l1.length) = false := decide_eq_false (by omega)
     clear c10
     have H' := Zs.mk H
     clear H
     go_wp2
     go_meet
     case rel => exact ⟨_, (t146), (by first | rfl | (simp; done) | (simp [*]; done)), H', ⟨by first | omega | exact Nat.le_refl _⟩, bks BK144, blt HB⟩
   ·rw [if_neg c9] at H
    have c9b0 : ((l1.length : Int) == (l2.length : Int)) = false := beq_eq_false_iff_ne.mpr c9
    have c9b1 : ((l1.length : Int) != (l2.length : Int)) = true := bne_iff_ne.mpr c9
    have c9b2 : (l1.length == l2.length) = false := by first | simpa using c9 | (simp at c9 ⊢; omega)
    have H' := Zs.mk H
    clear H
    go_wp2
    go_meet
    case rel => exact ⟨_, (10), (by first | rfl | (simp; done) | (simp [*]; done)), H', ⟨by first | omega | exact Nat.le_refl _⟩, bks BK144, blt HB⟩
  ·rw [if_neg c8] at H
   have c8b0 : (t146 == 0) = false := beq_eq_false_iff_ne.mpr c8
   have c8b1 : (t146 != 0) = true := bne_iff_ne.mpr c8
   (first | rw [c8b0] | (simp only [i64_w, i32_w]; rw [c8b0]) | skip)
   have H' := Zs.mk H
   clear H
   go_wp2
   go_meet
   case rel => exact ⟨_, (t146), (by first | rfl | (simp; done) | (simp [*]; done)), H', ⟨by first | omega | exact Nat.le_refl _⟩, bks BK144, blt HB⟩
 case rest =>
  clear HC5
  try clear c1
  try clear c2
  try clear p2
  try clear c3
  try clear c8
  try clear c8b0
  try clear c8b1
  try clear c9
  try clear c9b0
  try clear c9b1
  try clear c9b2
  try clear c10
  try clear c10b0
  try clear c10b1
  obtain ⟨kq, x9_4, rfl, HA, HJ4, BK144, HB⟩ := hcut
  cases kq with
  | zero => exact absurd HA.out (by simp [cx_DotOf.j0])
  | succ kj4 =>
   have H := HA.out
   clear HA
   simp only [cx_DotOf.j0] at H
   by_cases c11 : x9_4 = 0
   ·rw [if_pos c11] at H
    have c11b0 : (x9_4 == 0) = true := beq_iff_eq.mpr c11
    have c11b1 : (x9_4 != 0) = false := bne_eq_false_iff_eq.mpr c11
    clear c11
    replace H := Option.bind_eq_some_iff.mp H
    obtain ⟨⟨t147, t148⟩, A12, H⟩ := H
    try dsimp only at H
    replace A12 := Zs.mk A12
    by_cases c13 : t148 = 0
    ·rw [if_pos c13] at H
     have c13b0 : (t148 == 0) = true := beq_iff_eq.mpr c13
     have c13b1 : (t148 != 0) = false := bne_eq_false_iff_eq.mpr c13
     clear c13
     replace H := Option.bind_eq_some_iff.mp H
     obtain ⟨⟨t151, t152⟩, A14, H⟩ := H
     try dsimp only at H
     replace A14 := Zs.mk A14
     by_cases c15 : t152 = 0
     ·rw [if_pos c15] at H
      have c15b0 : (t152 == 0) = true := beq_iff_eq.mpr c15
      have c15b1 : (t152 != 0) = false := bne_eq_false_iff_eq.mpr c15
      clear c15
      have H' := Zs.mk H
      clear H
      go_wp2_with (first | ((with_reducible refine gc_ (f := 89) rfl ?_); refine gL 38 Tryz.func89 #[.int .i64 a0, .slice A1 l1.length c1] ?_; (with_reducible refine (cx_list.calls kj4 a0 _ _ l1 t147 t148 _ ?side1 ?side2 A12.out).mono ?_); (case side1 => repeat (first | exact (Kd.C_below HR1.out HB.out) | (with_reducible refine Kd.C_alloc ?_ _) | (with_reducible refine Kd.C_drewN ?_ _) | (with_reducible refine Kd.C_drew ?_))); (case side2 => exact HC1.out); rintro e w16 ⟨v149, rfl, ho0, hb⟩; refine ⟨_, rfl, ?_⟩; have HO150 := Zs.mk (Kd.R_lower ho0 (below_size (blt HB).out)); replace BK144 := bkb BK144 hb; replace HB := bls HB hb; (try clear hb); (try clear hb2); (try clear hk); (try clear hi); (try clear ho0)) | ((with_reducible refine gc_ (f := 89) rfl ?_); refine gL 48 Tryz.func89 #[.int .i64 a0, .slice A2 l2.length c2] ?_; (with_reducible refine (cx_list.calls kj4 a0 _ _ l2 t151 t152 _ ?side1 ?side2 A14.out).mono ?_); (case side1 => repeat (first | exact (Kd.C_below HR2.out HB.out) | (with_reducible refine Kd.C_alloc ?_ _) | (with_reducible refine Kd.C_drewN ?_ _) | (with_reducible refine Kd.C_drew ?_))); (case side2 => exact HC2.out); rintro e w17 ⟨v153, rfl, ho0, hb⟩; refine ⟨_, rfl, ?_⟩; have HO154 := Zs.mk (Kd.R_lower (Kd.R_new' ho0 (Kd.R_lt (by (with_reducible repeat (first | apply Kd.R_alloc | apply Kd.R_drewN | apply Kd.R_drew)); exact HO150.out))) (below_size (blt HB).out)); replace HO150 := Zs.mk (Kd.R_elder' (by (with_reducible repeat (first | apply Kd.R_alloc | apply Kd.R_drewN | apply Kd.R_drew)); exact HO150.out) (Kd.R_base ho0) hb); replace BK144 := bkb BK144 hb; replace HB := bls HB hb; (try clear hb); (try clear hb2); (try clear hk); (try clear hi); (try clear ho0); obtain ⟨Ao18, co18, eo18⟩ := Kd.R_slice HO150.out; subst eo18))
      go_loopg [57] kj4 (fun kq v57 w' => ∃ (x10_2 : List (S74)) (x57_2 : Int), v57 = .int .i64 x57_2 ∧ Zs (cx_DotOf.l0 kq t145 x10_2 t151 (t147.length : Int) x57_2 = some (r1, r2, r3, r4, r5)) ∧ Zs (kq ≤ kj4) ∧ Zs (Kd.R k74 74 w' w.heap.size (fun k_ => some k_ ≠ (v153 : Value).ownBlock) (.slice Ao18 t147.length co18) x10_2) ∧ Zs (Kd.R k74 74 w' w.heap.size (fun k_ => some k_ ≠ ((.slice Ao18 t147.length co18) : Value).ownBlock) v153 t151) ∧ Zs (w'.heap[gb144]? = some (.cells #[.int .i64 0, .int .u64 0, .int .u64 0, .string (⟨#[]⟩ : ByteArray)] 24 (0, 0))) ∧ Zs (Below w.heap.size w w'))
      case atStart => exact ⟨(t147), (0), (by first | rfl | (simp; done) | (simp [*]; done)), H', ⟨Nat.le_refl _⟩, ⟨by (with_reducible repeat (first | apply Kd.R_alloc | apply Kd.R_drewN | apply Kd.R_drew)); exact Kd.R_mono HO150.out (fun _ hk => hk.2)⟩, ⟨by (with_reducible repeat (first | apply Kd.R_alloc | apply Kd.R_drewN | apply Kd.R_drew)); exact Kd.R_mono HO154.out (fun _ hk => hk.2)⟩, bks BK144, blt HB⟩
      case round =>
       clear H'
       try clear c1
       try clear c2
       try clear p2
       try clear c3
       try clear c8
       try clear c8b0
       try clear c8b1
       try clear c9
       try clear c9b0
       try clear c9b1
       try clear c9b2
       try clear c10
       try clear c10b0
       try clear c10b1
       try clear c11
       try clear c11b0
       try clear c11b1
       try clear c13
       try clear c13b0
       try clear c13b1
       try clear c15
       try clear c15b0
       try clear c15b1
       try clear p2
       obtain ⟨x10_2, x57_2, rfl, HA, HK2, HO_10, HO_11, BK144, HB⟩ := hrel
       have hl10_2 := (Kd.R_reads' HO_10.out).1
       rw [hl10_2] at HO_10
       (try simp only [hl10_2])
       (try simp only [hl10_2] at BK144)
       (try simp only [hl10_2] at HO_11)
       cases gk with
       | zero => exact absurd HA.out (by simp [cx_DotOf.l0])
       | succ k2 =>
        have H := HA.out
        clear HA
        simp only [cx_DotOf.l0] at H
        by_cases c19 : x57_2 < (t147.length : Int)
        ·rw [if_pos c19] at H
         have c19b0 : decide (x57_2 < (t147.length : Int)) = true := decide_eq_true c19
         clear c19
         by_cases c20 : 0 ≤ x57_2
         ·rw [if_pos c20] at H
          have c20b0 : decide (0 ≤ x57_2) = true := decide_eq_true c20
          clear c20
          by_cases c21 : x57_2 < (x10_2.length : Int)
          ·rw [if_pos c21] at H
           have c21b0 : decide (x57_2 < (x10_2.length : Int)) = true := decide_eq_true c21
           clear c21
           replace H := Option.bind_eq_some_iff.mp H
           obtain ⟨⟨t156, t157⟩, A22, H⟩ := H
           try dsimp only at H
           replace A22 := Zs.mk A22
           by_cases c23 : x57_2 < (t151.length : Int)
           ·rw [if_pos c23] at H
            have c23b0 : decide (x57_2 < (t151.length : Int)) = true := decide_eq_true c23
            clear c23
            replace H := Option.bind_eq_some_iff.mp H
            obtain ⟨⟨t159, t160⟩, A24, H⟩ := H
            try dsimp only at H
            replace A24 := Zs.mk A24
            obtain ⟨y161, hy161⟩ : ∃ y_ : List (S74), y_ = (x10_2.set (x57_2 : Int).toNat (⟨t159, t160⟩ : S74)) := ⟨_, rfl⟩
            replace H : (cx_DotOf.l0 k2 t145 y161 t151 (t147.length : Int) (wrap64 (x57_2 + 1))) = some (r1, r2, r3, r4, r5) := by first | (rw [hy161]; with_reducible exact H) | (have H2_ := (Option.bind_some _ _).symm.trans H; rw [hy161]; with_reducible exact H2_) | (have H2_ := (Option.bind_some _ _).symm.trans H; with_reducible exact H2_) | with_reducible exact H | (rw [hy161]; exact H) | exact H
            have Ny161 := Zs.mk hy161
            clear hy161
            have H' := Zs.mk H
            clear H
            try go_wp2
            replace HO_10 := Zs.mk (Kd.R_drew HO_10.out)
            replace HO_11 := Zs.mk (Kd.R_drew HO_11.out)
            replace BK144 := Zs.mk (zd BK144.out)
            replace HB := Zs.mk (below_drew1 HB.out)
            have p155 : 0 ≤ (x57_2 : Int) := of_decide_eq_true (by first | (with_reducible assumption) | assumption)
            have q155 : x57_2 < (x10_2.length : Int) := of_decide_eq_true (by first | (with_reducible assumption) | assumption)
            obtain ⟨ad155, e155, hx155_0, hx155_1⟩ := at_T74 (Kd.R_reads' HO_10.out).2.2 x57_2 p155 q155
            cases e155
            replace p155 := eq_true p155
            replace q155 := eq_true q155
            obtain ⟨Ao27, co27, eo27⟩ := Kd.R_slice HO_11.out
            (first | subst eo27 | (injection eo27 with f1_ f2_ f3_; have f4_ := f1_.symm; have f5_ := f3_.symm; clear f1_ f2_ f3_; subst f4_; subst f5_))
            have p158 : 0 ≤ (x57_2 : Int) := of_decide_eq_true (by first | (with_reducible assumption) | assumption)
            have q158 : x57_2 < (t151.length : Int) := of_decide_eq_true (by first | (with_reducible assumption) | assumption)
            obtain ⟨ad158, e158, hx158_0, hx158_1⟩ := at_T74 (Kd.R_reads' HO_11.out).2.2 x57_2 p158 q158
            cases e158
            replace p158 := eq_true p158
            replace q158 := eq_true q158
            refine start_ (n := 16) (S := fun w' => w'.cell? (ad155.add ((x57_2).toNat * 2)) = some (.int .u64 ((rd_T74 x10_2 x57_2).f0)) ∧ w'.cell? ⟨(ad155.add ((x57_2).toNat * 2)).block, (ad155.add ((x57_2).toNat * 2)).off + 1, none⟩ = some (.int .u64 ((rd_T74 x10_2 x57_2).f1)) ∧ w'.cell? (ad158.add ((x57_2).toNat * 2)) = some (.int .u64 ((rd_T74 t151 x57_2).f0)) ∧ w'.cell? ⟨(ad158.add ((x57_2).toNat * 2)).block, (ad158.add ((x57_2).toNat * 2)).off + 1, none⟩ = some (.int .u64 ((rd_T74 t151 x57_2).f1))) (ds := [15]) #[false, false, false, false, false, false, false, false, false, false, false, false, false, false, false, false] (by kernel_rfl) rfl rfl ⟨hx155_0, hx155_1, hx158_0, hx158_1⟩ (fun hHeld => ?_); refine with_tabW cx_DotOf.tab18 cx_DotOf.bits18 (fun HT_ HW_ => ?_)
            generalize wr.drew = w26 at HO_10 HO_11 BK144 HB hx155_0 hx155_1 hx158_0 hx158_1 hHeld ⊢
            refine pu 0 60 HT_ ?_
            refine pu 1 61 HT_ ?_
            refine pu 2 62 HT_ ?_
            refine pu 3 63 HT_ ?_
            refine pu 4 64 HT_ ?_
            refine pu 5 65 HT_ ?_
            refine pu 6 66 HT_ ?_
            refine pu 9 69 HT_ ?_
            refine pu 10 70 HT_ ?_
            refine pu 11 71 HT_ ?_
            refine tk 7 67 HT_ HW_ hHeld ?_
            refine tk 12 72 HT_ HW_ hHeld ?_
            refine on 8 68 HT_ (fun K hK => ?_)
            refine goes_ Tryz.func78 (by kernel_rfl) rfl #[.int .i64 t145, .agg #[.int .u64 ((rd_T74 x10_2 x57_2).f0), .int .u64 ((rd_T74 x10_2 x57_2).f1)]] (by rfl) rfl rfl (by (try simp only [List.map_toArray, List.map_cons, List.map_nil]); first | done | rfl | (simp only [List.length_drop, List.length_take]; rfl)) ?_
            with_reducible refine (fd_conjugate.calls t145 ((rd_T74 x10_2 x57_2).f0) ((rd_T74 x10_2 x57_2).f1) t156 t157 _ A22.out).mono ?_
            rintro e w28 ⟨rfl, hb⟩
            have HS0_ := (hb.cell (World.block_lt_of_cell? _ _ (hHeld.1))).trans (hHeld.1)
            have HS1_ := (hb.cell (World.block_lt_of_cell? _ _ (hHeld.2.1))).trans (hHeld.2.1)
            have HS2_ := (hb.cell (World.block_lt_of_cell? _ _ (hHeld.2.2.1))).trans (hHeld.2.2.1)
            have HS3_ := (hb.cell (World.block_lt_of_cell? _ _ (hHeld.2.2.2))).trans (hHeld.2.2.2)
            refine ⟨_, rfl, ?_⟩
            replace HO_10 := Zs.mk (Kd.R_below (by (with_reducible repeat (first | apply Kd.R_alloc | apply Kd.R_drewN | apply Kd.R_drew)); exact HO_10.out) hb)
            replace HO_11 := Zs.mk (Kd.R_below (by (with_reducible repeat (first | apply Kd.R_alloc | apply Kd.R_drewN | apply Kd.R_drew)); exact HO_11.out) hb)
            replace BK144 := bkb BK144 hb
            replace HB := bls HB hb
            (try clear hb)
            (try clear hb2)
            (try clear hk)
            (try clear hi)
            refine hK.out _ _ ⟨HS0_, HS1_, HS2_, HS3_⟩ (fun hHeld => ?_)
            clear hK K
            refine nm 68 ?_
            refine on 13 73 HT_ (fun K hK => ?_)
            refine goes_ Tryz.func55 (by kernel_rfl) rfl #[.int .i64 t145, .agg #[.int .u64 t156, .int .u64 t157], .agg #[.int .u64 ((rd_T74 t151 x57_2).f0), .int .u64 ((rd_T74 t151 x57_2).f1)]] (by rfl) rfl rfl (by (try simp only [List.map_toArray, List.map_cons, List.map_nil]); first | done | rfl | (simp only [List.length_drop, List.length_take]; rfl)) ?_
            with_reducible refine (fd_times.calls t145 t156 t157 ((rd_T74 t151 x57_2).f0) ((rd_T74 t151 x57_2).f1) t159 t160 _ A24.out).mono ?_
            rintro e w29 ⟨rfl, hb⟩
            have HS0_ := (hb.cell (World.block_lt_of_cell? _ _ (hHeld.1))).trans (hHeld.1)
            have HS1_ := (hb.cell (World.block_lt_of_cell? _ _ (hHeld.2.1))).trans (hHeld.2.1)
            have HS2_ := (hb.cell (World.block_lt_of_cell? _ _ (hHeld.2.2.1))).trans (hHeld.2.2.1)
            have HS3_ := (hb.cell (World.block_lt_of_cell? _ _ (hHeld.2.2.2))).trans (hHeld.2.2.2)
            refine ⟨_, rfl, ?_⟩
            replace HO_10 := Zs.mk (Kd.R_below (by (with_reducible repeat (first | apply Kd.R_alloc | apply Kd.R_drewN | apply Kd.R_drew)); exact HO_10.out) hb)
            replace HO_11 := Zs.mk (Kd.R_below (by (with_reducible repeat (first | apply Kd.R_alloc | apply Kd.R_drewN | apply Kd.R_drew)); exact HO_11.out) hb)
            replace BK144 := bkb BK144 hb
            replace HB := bls HB hb
            (try clear hb)
            (try clear hb2)
            (try clear hk)
            (try clear hi)
            have p25 : 0 ≤ (x57_2 : Int) := of_decide_eq_true (by first | (with_reducible assumption) | assumption)
            have q25 : (x57_2 : Int) < ((x10_2.length : Int) : Int) := of_decide_eq_true (by first | (with_reducible assumption) | assumption)
            obtain ⟨go25, co25, eo25, gb25, gl25, cl25, HG25⟩ := Kd.R_form HO_10.out (by omega)
            (first | cases eo25 | (injection eo25 with ea_ en_ ec_; (first | subst ea_ | (injection ea_ with ea_; subst ea_)); subst ec_; clear en_))
            have GB25 := Zs.mk gb25
            have GG25 := Zs.mk HG25
            clear gb25 gl25 HG25
            (first | simp only [add_plain] at hx155_0 | skip)
            (first | simp only [add_plain] at hx155_1 | skip)
            obtain ⟨ce25, hcl25, hM25, hcc25, hfr25⟩ := Kd.R_elem HO_10.out z74 (x57_2 : Int) p25 q25
            obtain rfl := k74_openM hM25
            have hx25_0 : World.cell? _ ⟨go25, (x57_2 : Int).toNat * 2, none⟩ = some (.int .u64 ((rd_T74 x10_2 x57_2).f0)) := hcc25 0 _ rfl
            have hx25_1 : World.cell? _ ⟨go25, (x57_2 : Int).toNat * 2 + 1, none⟩ = some (.int .u64 ((rd_T74 x10_2 x57_2).f1)) := hcc25 1 _ rfl
            have hf25_0 : World.frozen? _ ⟨go25, (x57_2 : Int).toNat * 2, none⟩ = false := hfr25 0
            have hf25_1 : World.frozen? _ ⟨go25, (x57_2 : Int).toNat * 2 + 1, none⟩ = false := hfr25 1
            clear hcl25 hcc25 hfr25 hM25
            replace p25 := eq_true p25
            replace q25 := eq_true q25
            obtain ⟨ce30, hcl30, hM30, hcc30, hfr30⟩ := Kd.R_elem HO_10.out z74 (x57_2 : Int) (of_decide_eq_true (by first | (with_reducible assumption) | assumption)) (by have h_ : (x57_2 : Int) < ((x10_2.length : Int) : Int) := of_decide_eq_true (by first | (with_reducible assumption) | assumption); first | exact h_ | (have e_ := (Kd.R_reads' HO_10.out).1; omega) | simpa using h_)
            obtain rfl := k74_openM hM30
            have HP30 := (Kd.R_seg HO_10.out (x57_2 : Int) (of_decide_eq_true (by first | (with_reducible assumption) | assumption)) (by have h_ : (x57_2 : Int) < ((x10_2.length : Int) : Int) := of_decide_eq_true (by first | (with_reducible assumption) | assumption); first | exact h_ | (have e_ := (Kd.R_reads' HO_10.out).1; omega) | simpa using h_) (seg := [.int .u64 t159, .int .u64 t160]) (j := 0) hcl30 hcc30 (show 2 ≤ 2 from by decide) (x' := (⟨t159, t160⟩ : S74)) (k74_mkM _ _ _ (⟨t159, t160⟩ : S74) ) (fun _ hk => hk)).1
            rw [← Ny161.out] at HP30
            have HQ30 := Zs.mk HP30
            clear hcl30 hcc30 hfr30 hM30 HP30
            refine hK.out _ _ ⟨HS0_, HS1_, HS2_, HS3_⟩ (fun hHeld => ?_)
            clear hK K
            refine nm 73 ?_
            refine pu 14 74 HT_ ?_
            refine last_ (i := 15) (N := none) #[true, true, true, true, true, true, true, true, true, true, true, true, true, true, true, true] rfl rfl (one_of HT_.out (by kernel_rfl)) (by decide) (fun K hK => ?_)
            refine skip_ (w1 := ?_) (by rfl) rfl ?_ ?_
            rotate_left
            ·go_simp
             rfl
            refine hK.out _ _ ?_
            clear hK K
            refine done_ (done_of HT_.out (by kernel_rfl)) ?_
            try go_wp2
            (try simp only [← hl10_2])
            go_roundg k2
            case measure => have := HJ4.out; have := HK2.out; omega
            case rel => exact ⟨(y161), (wrap64 (x57_2 + 1)), (by first | rfl | (simp; done) | (simp [*]; done)), H', ⟨by have := HJ4.out; have := HK2.out; omega⟩, ⟨by (try simp only [hl10_2]); (with_reducible repeat (first | apply Kd.R_alloc | apply Kd.R_drewN | apply Kd.R_drew)); exact HQ30.out⟩, ⟨by (try simp only [hl10_2]); (with_reducible repeat (first | apply Kd.R_alloc | apply Kd.R_drewN | apply Kd.R_drew)); exact Kd.R_mono (Kd.R_far (p := ⟨go25, (x57_2 : Int).toNat * 2 + 1, none⟩) (Kd.R_far (p := ⟨go25, (x57_2 : Int).toNat * 2, none⟩) (Kd.R_mono HO_11.out (fun k_ hk => (⟨hk, fun e_ => hk (by rw [e_]; rfl)⟩ : _ ∧ k_ ≠ go25))) (fun _ hk => hk.2) (.int .u64 t159)) (fun _ hk => hk.2) (.int .u64 t160)) (fun _ hk => hk.1)⟩, ⟨by (try simp only [hl10_2]); (with_reducible repeat (first | refine zn ?_ _ | refine zd ?_ | refine za ?_ _)); refine blk_far ?_ (by have h_ := Kd.R_ne HO_10.out BK144.out (by decide); intro e_; exact h_ (by rw [e_]; rfl)) _; (with_reducible repeat (first | refine zn ?_ _ | refine zd ?_ | refine za ?_ _)); refine blk_far ?_ (by have h_ := Kd.R_ne HO_10.out BK144.out (by decide); intro e_; exact h_ (by rw [e_]; rfl)) _; (with_reducible repeat (first | refine zn ?_ _ | refine zd ?_ | refine za ?_ _)); exact BK144.out⟩, ⟨by repeat (first | (with_reducible first | exact HB.out | apply below_alloc | apply pw_below_drewN | apply below_drew1 | refine below_set ?_ GB25.out | refine below_set ?_ GB25.out | refine below_set ?_ GE144.out) | exact HB.out)⟩⟩
           ·rw [if_neg c23] at H
            exact absurd H (by simp)
          ·rw [if_neg c21] at H
           exact absurd H (by simp)
         ·rw [if_neg c20] at H
          exact absurd H (by simp)
        ·rw [if_neg c19] at H
         have c19b0 : decide (x57_2 < (t147.length : Int)) = false := decide_eq_false c19
         (try simp only [hl10_2] at c19b0)
         clear c19
         replace H := Option.bind_eq_some_iff.mp H
         obtain ⟨⟨t162, t163⟩, A31, H⟩ := H
         try dsimp only at H
         replace A31 := Zs.mk A31
         replace H := Option.bind_eq_some_iff.mp H
         obtain ⟨⟨t164, t165, t166, t167⟩, A32, H⟩ := H
         try dsimp only at H
         replace A32 := Zs.mk A32
         simp only [Option.some.injEq, Prod.mk.injEq] at H
         obtain ⟨rfl, rfl, rfl, rfl, rfl⟩ := H
         go_wp2_with (first | ((with_reducible refine gc_ (f := 90) rfl ?_); refine gL 79 Tryz.func90 #[.int .i64 t145, .slice Ao18 x10_2.length co18] ?_; (with_reducible refine (fd_sum.calls k2 t145 _ _ x10_2 t162 t163 _ ?side1 ?side2 A31.out).mono ?_); (case side1 => repeat (first | exact (Kd.R_reads' HO_10.out).2.2 | (with_reducible refine Kd.C_alloc ?_ _) | (with_reducible refine Kd.C_drewN ?_ _) | (with_reducible refine Kd.C_drew ?_))); (case side2 => exact (Kd.R_reads' HO_10.out).2.1); rintro e w33 ⟨rfl, hb⟩; refine ⟨_, rfl, ?_⟩; replace HO_10 := Zs.mk (Kd.R_below (by (with_reducible repeat (first | apply Kd.R_alloc | apply Kd.R_drewN | apply Kd.R_drew)); exact HO_10.out) hb); replace HO_11 := Zs.mk (Kd.R_below (by (with_reducible repeat (first | apply Kd.R_alloc | apply Kd.R_drewN | apply Kd.R_drew)); exact HO_11.out) hb); replace BK144 := bkb BK144 hb; replace HB := bls HB hb; clear hb) | ((with_reducible refine gc_ (f := 57) rfl ?_); refine gLc 80 Tryz.func57 (fd_value.calls t145 t162 t163 t164 t165 t166 t167 _ A32.out) (fun w34 hb => ?_); replace HO_10 := Zs.mk (Kd.R_below (by (with_reducible repeat (first | apply Kd.R_alloc | apply Kd.R_drewN | apply Kd.R_drew)); exact HO_10.out) hb); replace HO_11 := Zs.mk (Kd.R_below (by (with_reducible repeat (first | apply Kd.R_alloc | apply Kd.R_drewN | apply Kd.R_drew)); exact HO_11.out) hb); replace BK144 := bkb BK144 hb; replace HB := bls HB hb; clear hb; obtain ⟨hcz35_0, hcz35_1, hcz35_2, hcz35_3, hfz35_0, hfz35_1, hfz35_2, hfz35_3⟩ := cf4 BK144))
         refine bodyPost_ret (results_ct rfl _ _ gb144 24 #[.int .i64 t164, .int .u64 t165, .int .u64 t166, .string t167] (0, 0) _ rfl (by (with_reducible repeat (first | refine zn ?_ _ | refine zd ?_ | refine za ?_ _)); apply bp4; (with_reducible repeat (first | refine zn ?_ _ | refine zd ?_ | refine za ?_ _)); exact BK144.out) Tryz.underlying24 rfl (by kernel_rfl)) rfl ?_
         exact fin_ (blt HB)
     ·rw [if_neg c15] at H
      have c15b0 : (t152 == 0) = false := beq_eq_false_iff_ne.mpr c15
      have c15b1 : (t152 != 0) = true := bne_iff_ne.mpr c15
      simp only [Option.some.injEq, Prod.mk.injEq] at H
      obtain ⟨rfl, rfl, rfl, rfl, rfl⟩ := H
      go_wp2_with (first | ((with_reducible refine gc_ (f := 89) rfl ?_); refine gL 38 Tryz.func89 #[.int .i64 a0, .slice A1 l1.length c1] ?_; (with_reducible refine (cx_list.calls kj4 a0 _ _ l1 t147 t148 _ ?side1 ?side2 A12.out).mono ?_); (case side1 => repeat (first | exact (Kd.C_below HR1.out HB.out) | (with_reducible refine Kd.C_alloc ?_ _) | (with_reducible refine Kd.C_drewN ?_ _) | (with_reducible refine Kd.C_drew ?_))); (case side2 => exact HC1.out); rintro e w36 ⟨v149, rfl, ho0, hb⟩; refine ⟨_, rfl, ?_⟩; have HO150 := Zs.mk (Kd.R_lower ho0 (below_size (blt HB).out)); replace BK144 := bkb BK144 hb; replace HB := bls HB hb; (try clear hb); (try clear hb2); (try clear hk); (try clear hi); (try clear ho0)) | ((with_reducible refine gc_ (f := 89) rfl ?_); refine gL 48 Tryz.func89 #[.int .i64 a0, .slice A2 l2.length c2] ?_; (with_reducible refine (cx_list.calls kj4 a0 _ _ l2 t151 t152 _ ?side1 ?side2 A14.out).mono ?_); (case side1 => repeat (first | exact (Kd.C_below HR2.out HB.out) | (with_reducible refine Kd.C_alloc ?_ _) | (with_reducible refine Kd.C_drewN ?_ _) | (with_reducible refine Kd.C_drew ?_))); (case side2 => exact HC2.out); rintro e w37 ⟨v153, rfl, ho0, hb⟩; refine ⟨_, rfl, ?_⟩; have HO154 := Zs.mk (Kd.R_lower (Kd.R_new' ho0 (Kd.R_lt (by (with_reducible repeat (first | apply Kd.R_alloc | apply Kd.R_drewN | apply Kd.R_drew)); exact HO150.out))) (below_size (blt HB).out)); replace HO150 := Zs.mk (Kd.R_elder' (by (with_reducible repeat (first | apply Kd.R_alloc | apply Kd.R_drewN | apply Kd.R_drew)); exact HO150.out) (Kd.R_base ho0) hb); replace BK144 := bkb BK144 hb; replace HB := bls HB hb; (try clear hb); (try clear hb2); (try clear hk); (try clear hi); (try clear ho0); obtain ⟨hcz38_0, hcz38_1, hcz38_2, hcz38_3, hfz38_0, hfz38_1, hfz38_2, hfz38_3⟩ := cf4 BK144))
      refine bodyPost_ret (results_ct rfl _ _ gb144 24 #[.int .i64 0, .int .u64 0, .int .u64 0, .string (⟨#[]⟩ : ByteArray)] (0, 0) _ rfl (by (with_reducible repeat (first | refine zn ?_ _ | refine zd ?_ | refine za ?_ _)); apply bp4; (with_reducible repeat (first | refine zn ?_ _ | refine zd ?_ | refine za ?_ _)); exact BK144.out) Tryz.underlying24 rfl (by kernel_rfl)) rfl ?_
      exact fin_ (blt HB)
    ·rw [if_neg c13] at H
     have c13b0 : (t148 == 0) = false := beq_eq_false_iff_ne.mpr c13
     have c13b1 : (t148 != 0) = true := bne_iff_ne.mpr c13
     simp only [Option.some.injEq, Prod.mk.injEq] at H
     obtain ⟨rfl, rfl, rfl, rfl, rfl⟩ := H
     go_wp2_with (first | ((with_reducible refine gc_ (f := 89) rfl ?_); refine gL 38 Tryz.func89 #[.int .i64 a0, .slice A1 l1.length c1] ?_; (with_reducible refine (cx_list.calls kj4 a0 _ _ l1 t147 t148 _ ?side1 ?side2 A12.out).mono ?_); (case side1 => repeat (first | exact (Kd.C_below HR1.out HB.out) | (with_reducible refine Kd.C_alloc ?_ _) | (with_reducible refine Kd.C_drewN ?_ _) | (with_reducible refine Kd.C_drew ?_))); (case side2 => exact HC1.out); rintro e w39 ⟨v149, rfl, ho0, hb⟩; refine ⟨_, rfl, ?_⟩; have HO150 := Zs.mk (Kd.R_lower ho0 (below_size (blt HB).out)); replace BK144 := bkb BK144 hb; replace HB := bls HB hb; (try clear hb); (try clear hb2); (try clear hk); (try clear hi); (try clear ho0); obtain ⟨hcz40_0, hcz40_1, hcz40_2, hcz40_3, hfz40_0, hfz40_1, hfz40_2, hfz40_3⟩ := cf4 BK144))
     refine bodyPost_ret (results_ct rfl _ _ gb144 24 #[.int .i64 0, .int .u64 0, .int .u64 0, .string (⟨#[]⟩ : ByteArray)] (0, 0) _ rfl (by (with_reducible repeat (first | refine zn ?_ _ | refine zd ?_ | refine za ?_ _)); apply bp4; (with_reducible repeat (first | refine zn ?_ _ | refine zd ?_ | refine za ?_ _)); exact BK144.out) Tryz.underlying24 rfl (by kernel_rfl)) rfl ?_
     exact fin_ (blt HB)
   ·rw [if_neg c11] at H
    have c11b0 : (x9_4 == 0) = false := beq_eq_false_iff_ne.mpr c11
    have c11b1 : (x9_4 != 0) = true := bne_iff_ne.mpr c11
    simp only [Option.some.injEq, Prod.mk.injEq] at H
    obtain ⟨rfl, rfl, rfl, rfl, rfl⟩ := H
    obtain ⟨hcz41_0, hcz41_1, hcz41_2, hcz41_3, hfz41_0, hfz41_1, hfz41_2, hfz41_3⟩ := cf4 BK144
    go_wp2
    refine bodyPost_ret (results_ct rfl _ _ gb144 24 #[.int .i64 0, .int .u64 0, .int .u64 0, .string (⟨#[]⟩ : ByteArray)] (0, 0) _ rfl (by (with_reducible repeat (first | refine zn ?_ _ | refine zd ?_ | refine za ?_ _)); apply bp4; (with_reducible repeat (first | refine zn ?_ _ | refine zd ?_ | refine za ?_ _)); exact BK144.out) Tryz.underlying24 rfl (by kernel_rfl)) rfl ?_
    exact fin_ (blt HB)
def r10_ListErr.l0 : Nat → Int → List (S24) → Int → Option (Int)
 | 0, _, _, _ => none
 | k + 1, x0, x1, x5 => if x5 < (x1.length : Int) then (if 0 ≤ x5 then ((r10_ValueErr.f ((rd_T24 x1 x5).f0) ((rd_T24 x1 x5).f1) ((rd_T24 x1 x5).f2) ((rd_T24 x1 x5).f3)).bind fun t169 => (if t169 = 0 then (if ((rd_T24 x1 x5).f0) = x0 then (r10_ListErr.l0 k x0 x1 (wrap64 (x5 + 1))) else (some 27)) else (some t169))) else (none)) else (some 0)
def r10_ListErr.f (k : Nat) (a0 : Int) (l1 : List (S24)) : Option (Int) := r10_ListErr.l0 k a0 l1 0
set_option maxHeartbeats 8000000 in
set_option maxRecDepth 100000 in
theorem r10_ListErr.calls (k : Nat) (a0 : Int) (A1 : Option Addr) (c1 : Nat) (l1 : List (S24)) (r : Int) (w : World) (hr1 : Kd.C k24 w A1 l1.length l1) (hc1 : l1.length ≤ c1) (h : r10_ListErr.f k a0 l1 = some r) :
  Calls Tryz.prog 40 #[.int .i64 a0, .slice A1 l1.length c1] w fun e w' => e = .returned (.int .i64 r) ∧ Below w.heap.size w w' := by
 have hu24 := Tryz.underlying24
 have HR1 := Zs.mk hr1
 have HC1 := Zs.mk hc1
 clear hr1 hc1
 have HB := Zs.mk (Below.refl w.heap.size w)
 have H : (r10_ListErr.l0 k a0 l1 0) = some r := h
 clear h
 have H' := Zs.mk H
 clear H
 go_enter Tryz.func40, Tryz.ntmps40
 go_wp2
 go_loopg [5] k (fun kq v5 w' => ∃ (x5_1 : Int), v5 = .int .i64 x5_1 ∧ Zs (r10_ListErr.l0 kq a0 l1 x5_1 = some r) ∧ Zs (kq ≤ k) ∧ Zs (Below w.heap.size w w'))
 case atStart => exact ⟨(0), (by first | rfl | (simp; done) | (simp [*]; done)), H', ⟨Nat.le_refl _⟩, blt HB⟩
 case round =>
  clear H'
  try clear c1
  try clear p2
  obtain ⟨x5_1, rfl, HA, HK1, HB⟩ := hrel
  cases gk with
  | zero => exact absurd HA.out (by simp [r10_ListErr.l0])
  | succ k1 =>
   have H := HA.out
   clear HA
   simp only [r10_ListErr.l0] at H
   by_cases c3 : x5_1 < (l1.length : Int)
   ·rw [if_pos c3] at H
    have c3b0 : decide (x5_1 < (l1.length : Int)) = true := decide_eq_true c3
    clear c3
    by_cases c4 : 0 ≤ x5_1
    ·rw [if_pos c4] at H
     have c4b0 : decide (0 ≤ x5_1) = true := decide_eq_true c4
     clear c4
     replace H := Option.bind_eq_some_iff.mp H
     obtain ⟨t169, A5, H⟩ := H
     try dsimp only at H
     replace A5 := Zs.mk A5
     by_cases c6 : t169 = 0
     ·rw [if_pos c6] at H
      have c6b0 : (t169 == 0) = true := beq_iff_eq.mpr c6
      have c6b1 : (t169 != 0) = false := bne_eq_false_iff_eq.mpr c6
      clear c6
      by_cases c7 : ((rd_T24 l1 x5_1).f0) = a0
      ·rw [if_pos c7] at H
       have c7b0 : (((rd_T24 l1 x5_1).f0) == a0) = true := beq_iff_eq.mpr c7
       have c7b1 : (((rd_T24 l1 x5_1).f0) != a0) = false := bne_eq_false_iff_eq.mpr c7
       clear c7
       have H' := Zs.mk H
       clear H
       have p168 : 0 ≤ (x5_1 : Int) := of_decide_eq_true (by first | (with_reducible assumption) | assumption)
       have q168 : x5_1 < (l1.length : Int) := of_decide_eq_true (by first | (with_reducible assumption) | assumption)
       obtain ⟨ad168, e168, hx168_0, hx168_1, hx168_2, hx168_3⟩ := at_T24 HR1.out x5_1 p168 q168
       cases e168
       replace hx168_0 := (HB.out.cell (World.block_lt_of_cell? w _ hx168_0)).trans hx168_0
       replace hx168_1 := (HB.out.cell (World.block_lt_of_cell? w _ hx168_1)).trans hx168_1
       replace hx168_2 := (HB.out.cell (World.block_lt_of_cell? w _ hx168_2)).trans hx168_2
       replace hx168_3 := (HB.out.cell (World.block_lt_of_cell? w _ hx168_3)).trans hx168_3
       replace p168 := eq_true p168
       replace q168 := eq_true q168
       go_wp2_with (first | ((with_reducible refine gc_ (f := 29) rfl ?_); refine gLc 17 Tryz.func29 (r10_ValueErr.calls ((rd_T24 l1 x5_1).f0) ((rd_T24 l1 x5_1).f1) ((rd_T24 l1 x5_1).f2) ((rd_T24 l1 x5_1).f3) t169 _ A5.out) (fun w8 hb => ?_); replace HB := bls HB hb; clear hb; have p170 : 0 ≤ (x5_1 : Int) := of_decide_eq_true (by first | (with_reducible assumption) | assumption); have q170 : x5_1 < (l1.length : Int) := of_decide_eq_true (by first | (with_reducible assumption) | assumption); obtain ⟨ad170, e170, hx170_0, hx170_1, hx170_2, hx170_3⟩ := at_T24 HR1.out x5_1 p170 q170; obtain rfl : ad168 = ad170 := (by injection e170); replace hx170_0 := (HB.out.cell (World.block_lt_of_cell? w _ hx170_0)).trans hx170_0; replace hx170_1 := (HB.out.cell (World.block_lt_of_cell? w _ hx170_1)).trans hx170_1; replace hx170_2 := (HB.out.cell (World.block_lt_of_cell? w _ hx170_2)).trans hx170_2; replace hx170_3 := (HB.out.cell (World.block_lt_of_cell? w _ hx170_3)).trans hx170_3; replace p170 := eq_true p170; replace q170 := eq_true q170))
       go_roundg k1
       case measure => have := HK1.out; omega
       case rel => exact ⟨(wrap64 (x5_1 + 1)), (by first | rfl | (simp; done) | (simp [*]; done)), H', ⟨by have := HK1.out; omega⟩, blt HB⟩
      ·rw [if_neg c7] at H
       have c7b0 : (((rd_T24 l1 x5_1).f0) == a0) = false := beq_eq_false_iff_ne.mpr c7
       have c7b1 : (((rd_T24 l1 x5_1).f0) != a0) = true := bne_iff_ne.mpr c7
       obtain rfl := Option.some.inj H
       have p168 : 0 ≤ (x5_1 : Int) := of_decide_eq_true (by first | (with_reducible assumption) | assumption)
       have q168 : x5_1 < (l1.length : Int) := of_decide_eq_true (by first | (with_reducible assumption) | assumption)
       obtain ⟨ad168, e168, hx168_0, hx168_1, hx168_2, hx168_3⟩ := at_T24 HR1.out x5_1 p168 q168
       cases e168
       replace hx168_0 := (HB.out.cell (World.block_lt_of_cell? w _ hx168_0)).trans hx168_0
       replace hx168_1 := (HB.out.cell (World.block_lt_of_cell? w _ hx168_1)).trans hx168_1
       replace hx168_2 := (HB.out.cell (World.block_lt_of_cell? w _ hx168_2)).trans hx168_2
       replace hx168_3 := (HB.out.cell (World.block_lt_of_cell? w _ hx168_3)).trans hx168_3
       replace p168 := eq_true p168
       replace q168 := eq_true q168
       go_wp2_with (first | ((with_reducible refine gc_ (f := 29) rfl ?_); refine gLc 17 Tryz.func29 (r10_ValueErr.calls ((rd_T24 l1 x5_1).f0) ((rd_T24 l1 x5_1).f1) ((rd_T24 l1 x5_1).f2) ((rd_T24 l1 x5_1).f3) t169 _ A5.out) (fun w9 hb => ?_); replace HB := bls HB hb; clear hb; have p170 : 0 ≤ (x5_1 : Int) := of_decide_eq_true (by first | (with_reducible assumption) | assumption); have q170 : x5_1 < (l1.length : Int) := of_decide_eq_true (by first | (with_reducible assumption) | assumption); obtain ⟨ad170, e170, hx170_0, hx170_1, hx170_2, hx170_3⟩ := at_T24 HR1.out x5_1 p170 q170; obtain rfl : ad168 = ad170 := (by injection e170); replace hx170_0 := (HB.out.cell (World.block_lt_of_cell? w _ hx170_0)).trans hx170_0; replace hx170_1 := (HB.out.cell (World.block_lt_of_cell? w _ hx170_1)).trans hx170_1; replace hx170_2 := (HB.out.cell (World.block_lt_of_cell? w _ hx170_2)).trans hx170_2; replace hx170_3 := (HB.out.cell (World.block_lt_of_cell? w _ hx170_3)).trans hx170_3; replace p170 := eq_true p170; replace q170 := eq_true q170))
       go_ret
       exact fin_ (blt HB)
     ·rw [if_neg c6] at H
      have c6b0 : (t169 == 0) = false := beq_eq_false_iff_ne.mpr c6
      have c6b1 : (t169 != 0) = true := bne_iff_ne.mpr c6
      obtain rfl := Option.some.inj H
      have p168 : 0 ≤ (x5_1 : Int) := of_decide_eq_true (by first | (with_reducible assumption) | assumption)
      have q168 : x5_1 < (l1.length : Int) := of_decide_eq_true (by first | (with_reducible assumption) | assumption)
      obtain ⟨ad168, e168, hx168_0, hx168_1, hx168_2, hx168_3⟩ := at_T24 HR1.out x5_1 p168 q168
      cases e168
      replace hx168_0 := (HB.out.cell (World.block_lt_of_cell? w _ hx168_0)).trans hx168_0
      replace hx168_1 := (HB.out.cell (World.block_lt_of_cell? w _ hx168_1)).trans hx168_1
      replace hx168_2 := (HB.out.cell (World.block_lt_of_cell? w _ hx168_2)).trans hx168_2
      replace hx168_3 := (HB.out.cell (World.block_lt_of_cell? w _ hx168_3)).trans hx168_3
      replace p168 := eq_true p168
      replace q168 := eq_true q168
      go_wp2_with (first | ((with_reducible refine gc_ (f := 29) rfl ?_); refine gLc 17 Tryz.func29 (r10_ValueErr.calls ((rd_T24 l1 x5_1).f0) ((rd_T24 l1 x5_1).f1) ((rd_T24 l1 x5_1).f2) ((rd_T24 l1 x5_1).f3) t169 _ A5.out) (fun w10 hb => ?_); replace HB := bls HB hb; clear hb))
      go_ret
      exact fin_ (blt HB)
    ·rw [if_neg c4] at H
     exact absurd H (by simp)
   ·rw [if_neg c3] at H
    have c3b0 : decide (x5_1 < (l1.length : Int)) = false := decide_eq_false c3
    clear c3
    obtain rfl := Option.some.inj H
    go_wp2
    go_ret
    exact fin_ (blt HB)
end Go.Proofs.YtmoimcblmmcffaaGreat.PLS

namespace Go.Proofs.YtmoimcblmmcffaaGreat.PLS
open Go.RowKit Go.Proofs.YtmoimcblmmcffaaGreat.PPC Go.Proofs.YtmoimcblmmcffaaGreat.PRA Go.Proofs.YtmoimcblmmcffaaGreat.PN Go.Proofs.YtmoimcblmmcffaaGreatW.PrintWords Go.Proofs.YtmoimcblmmcffaaGreatW.PrintLast Go.Proofs.YtmoimcblmmcffaaGreatW.PrintMore Go.Proofs.YtmoimcblmmcffaaGreatW.PrintZ
attribute [local go_sem] max2_int min2_int max_two min_two max_three min_three max_four min_four   -- for this text's walks alone
attribute [local go_sem high] Go.Proofs.YtmoimcblmmcffaaGreat.NC.fld0
set_option linter.unusedVariables false
set_option linter.unusedSimpArgs false
def r10_Sum.l0 : Nat → List (S24) → Int → Int → Int → Int → ByteArray → Option (Int × Int × Int × ByteArray)
 | 0, _, _, _, _, _, _ => none
 | k + 1, x1, x6, x178000, x178001, x178002, x178003 => if x6 < (x1.length : Int) then (if 0 ≤ x6 then ((r10_Add.f x178000 x178001 x178002 x178003 ((rd_T24 x1 x6).f0) ((rd_T24 x1 x6).f1) ((rd_T24 x1 x6).f2) ((rd_T24 x1 x6).f3)).bind fun bt179 => (r10_Sum.l0 k x1 (wrap64 (x6 + 1)) bt179.1 bt179.2.1 bt179.2.2.1 bt179.2.2.2)) else (none)) else (some (x178000, x178001, x178002, x178003))
def r10_Sum.f (k : Nat) (a0 : Int) (l1 : List (S24)) : Option (Int × Int × Int × ByteArray) := if (l1.length : Int) = 0 then ((r10_Made.f a0 0 0).bind fun bt172 => (some (bt172.1, bt172.2.1, bt172.2.2.1, bt172.2.2.2))) else (if 0 < (l1.length : Int) then (r10_Sum.l0 k l1 1 ((rd_T24 l1 0).f0) ((rd_T24 l1 0).f1) ((rd_T24 l1 0).f2) ((rd_T24 l1 0).f3)) else (none))
set_option maxHeartbeats 8000000 in
set_option maxRecDepth 100000 in
theorem r10_Sum.calls (k : Nat) (a0 : Int) (A1 : Option Addr) (c1 : Nat) (l1 : List (S24)) (r1 : Int) (r2 : Int) (r3 : Int) (r4 : ByteArray) (w : World) (hr1 : Kd.C k24 w A1 l1.length l1) (hc1 : l1.length ≤ c1) (h : r10_Sum.f k a0 l1 = some (r1, r2, r3, r4)) :
  Calls Tryz.prog 41 #[.int .i64 a0, .slice A1 l1.length c1] w fun e w' => e = .returned (.agg #[.int .i64 r1, .int .u64 r2, .int .u64 r3, .string r4]) ∧ Below w.heap.size w w' := by
 have hu24 := Tryz.underlying24
 have HR1 := Zs.mk hr1
 have HC1 := Zs.mk hc1
 clear hr1 hc1
 have HB := Zs.mk (Below.refl w.heap.size w)
 have H : (if (l1.length : Int) = 0 then ((r10_Made.f a0 0 0).bind fun bt172 => (some (bt172.1, bt172.2.1, bt172.2.2.1, bt172.2.2.2))) else (if 0 < (l1.length : Int) then (r10_Sum.l0 k l1 1 ((rd_T24 l1 0).f0) ((rd_T24 l1 0).f1) ((rd_T24 l1 0).f2) ((rd_T24 l1 0).f3)) else (none))) = some (r1, r2, r3, r4) := h
 clear h
 by_cases c3 : (l1.length : Int) = 0
 ·rw [if_pos c3] at H
  have c3b0 : ((l1.length : Int) == 0) = true := beq_iff_eq.mpr c3
  have c3b1 : ((l1.length : Int) != 0) = false := bne_eq_false_iff_eq.mpr c3
  clear c3
  replace H := Option.bind_eq_some_iff.mp H
  obtain ⟨⟨t172, t173, t174, t175⟩, A4, H⟩ := H
  try dsimp only at H
  replace A4 := Zs.mk A4
  simp only [Option.some.injEq, Prod.mk.injEq] at H
  obtain ⟨rfl, rfl, rfl, rfl⟩ := H
  go_enter Tryz.func41, Tryz.ntmps41
  go_wp2_with (first | ((with_reducible refine gd_ (N := 4) rfl ?_); refine bxe 4 (cs := #[.int .i64 0, .int .u64 0, .int .u64 0, .string (⟨#[]⟩ : ByteArray)]) (t := 24) ?_; intro gb171 hg w5 hbox hb; have BK171 := Zs.mk hbox; have GW171 := bsz HB hg; have GE171 := bsz HB hg; replace HB := bls HB hb; clear hb hbox hg) | ((with_reducible refine gc_ (f := 18) rfl ?_); refine gLc 11 Tryz.func18 (r10_Made.calls a0 0 0 t172 t173 t174 t175 _ A4.out) (fun w6 hb => ?_); replace BK171 := bkb BK171 hb; replace HB := bls HB hb; clear hb; obtain ⟨hcz7_0, hcz7_1, hcz7_2, hcz7_3, hfz7_0, hfz7_1, hfz7_2, hfz7_3⟩ := cf4 BK171))
  refine bodyPost_ret (results_cell_row rfl _ _ gb171 24 #[.int .i64 t172, .int .u64 t173, .int .u64 t174, .string t175] (0, 0) _ rfl (by (with_reducible repeat (first | refine zn ?_ _ | refine zd ?_ | refine za ?_ _)); apply bp4; (with_reducible repeat (first | refine zn ?_ _ | refine zd ?_ | refine za ?_ _)); exact BK171.out) Tryz.underlying24 rfl (by kernel_rfl)) rfl ?_
  exact fin_ (blt HB)
 ·rw [if_neg c3] at H
  have c3b0 : ((l1.length : Int) == 0) = false := beq_eq_false_iff_ne.mpr c3
  have c3b1 : ((l1.length : Int) != 0) = true := bne_iff_ne.mpr c3
  have c3b2 : ¬ (l1 = []) := fun h_ => c3 (by rw [h_]; rfl)
  by_cases c8 : 0 < (l1.length : Int)
  ·rw [if_pos c8] at H
   have c8b0 : decide (0 < (l1.length : Int)) = true := decide_eq_true c8
   have c8b1 : decide (0 < l1.length) = true := decide_eq_true (by omega)
   clear c8
   have H' := Zs.mk H
   clear H
   go_enter Tryz.func41, Tryz.ntmps41
   go_wp2_with (first | ((with_reducible refine gd_ (N := 4) rfl ?_); refine bxe 4 (cs := #[.int .i64 0, .int .u64 0, .int .u64 0, .string (⟨#[]⟩ : ByteArray)]) (t := 24) ?_; intro gb171 hg w9 hbox hb; have BK171 := Zs.mk hbox; have GW171 := bsz HB hg; have GE171 := bsz HB hg; replace HB := bls HB hb; clear hb hbox hg; have p176 : 0 ≤ (0 : Int) := (by omega); have q176 : 0 < (l1.length : Int) := of_decide_eq_true (by first | (with_reducible assumption) | assumption); obtain ⟨ad176, e176, hx176_0, hx176_1, hx176_2, hx176_3⟩ := at_T24 HR1.out 0 p176 q176; cases e176; have qi176 : (0 < l1.length) = True := eq_true (by omega); (try rw [show ((0 : Int)).toNat = 0 from rfl] at hx176_0); (try rw [show 0 * 4 = 0 from rfl] at hx176_0); (try rw [Addr.add_zero'] at hx176_0); (try rw [show ((0 : Int)).toNat = 0 from rfl] at hx176_1); (try rw [show 0 * 4 = 0 from rfl] at hx176_1); (try rw [Addr.add_zero'] at hx176_1); (try rw [show ((0 : Int)).toNat = 0 from rfl] at hx176_2); (try rw [show 0 * 4 = 0 from rfl] at hx176_2); (try rw [Addr.add_zero'] at hx176_2); (try rw [show ((0 : Int)).toNat = 0 from rfl] at hx176_3); (try rw [show 0 * 4 = 0 from rfl] at hx176_3); (try rw [Addr.add_zero'] at hx176_3); replace hx176_0 := (HB.out.cell (World.block_lt_of_cell? w _ hx176_0)).trans hx176_0; replace hx176_1 := (HB.out.cell (World.block_lt_of_cell? w _ hx176_1)).trans hx176_1; replace hx176_2 := (HB.out.cell (World.block_lt_of_cell? w _ hx176_2)).trans hx176_2; replace hx176_3 := (HB.out.cell (World.block_lt_of_cell? w _ hx176_3)).trans hx176_3; replace p176 := eq_true p176; replace q176 := eq_true q176) | ((with_reducible refine gd_ (N := 5) rfl ?_); refine bxe 5 (cs := #[.int .i64 0, .int .u64 0, .int .u64 0, .string (⟨#[]⟩ : ByteArray)]) (t := 24) ?_; intro gb177 hg w10 hbox hb; have BK177 := Zs.mk hbox; have GW177 := bsz HB hg; have GE177 := bsz HB hg; have NB171_177 := bnl BK171 hg; have NB177_171 := bng BK171 hg; replace BK171 := bkb BK171 hb; replace HB := bls HB hb; clear hb hbox hg; have hnb11 := NB177_171.out; have hnc11 := NB171_177.out; obtain ⟨hcz12_0, hcz12_1, hcz12_2, hcz12_3, hfz12_0, hfz12_1, hfz12_2, hfz12_3⟩ := cf4 BK177))
   go_loopg [6] k (fun kq v6 w' => ∃ (x6_1 : Int) (x178000_1 : Int) (x178001_1 : Int) (x178002_1 : Int) (x178003_1 : ByteArray), v6 = .int .i64 x6_1 ∧ Zs (r10_Sum.l0 kq l1 x6_1 x178000_1 x178001_1 x178002_1 x178003_1 = some (r1, r2, r3, r4)) ∧ Zs (kq ≤ k) ∧ Zs (w'.heap[gb171]? = some (.cells #[.int .i64 0, .int .u64 0, .int .u64 0, .string (⟨#[]⟩ : ByteArray)] 24 (0, 0))) ∧ Zs (w'.heap[gb177]? = some (.cells #[.int .i64 x178000_1, .int .u64 x178001_1, .int .u64 x178002_1, .string x178003_1] 24 (0, 0))) ∧ Zs (Below w.heap.size w w'))
   case atStart => exact ⟨(1), ((rd_T24 l1 0).f0), ((rd_T24 l1 0).f1), ((rd_T24 l1 0).f2), ((rd_T24 l1 0).f3), (by first | rfl | (simp; done) | (simp [*]; done)), H', ⟨Nat.le_refl _⟩, bkf BK171, ⟨by (with_reducible repeat (first | refine zn ?_ _ | refine zd ?_ | refine za ?_ _)); apply bp4; (with_reducible repeat (first | refine zn ?_ _ | refine zd ?_ | refine za ?_ _)); exact BK177.out⟩, blt HB⟩
   case round =>
    clear H'
    try clear c1
    try clear p1
    try clear q1
    try clear hx1
    try clear qi1
    try clear p2
    try clear c3
    try clear c3b0
    try clear c3b1
    try clear c3b2
    try clear c4
    try clear c8
    try clear c8b0
    try clear c8b1
    try clear c11
    try clear hcz12_0
    try clear hcz12_1
    try clear hcz12_2
    try clear hcz12_3
    try clear hcz7_0
    try clear hcz7_1
    try clear hcz7_2
    try clear hcz7_3
    try clear hfz12_0
    try clear hfz12_1
    try clear hfz12_2
    try clear hfz12_3
    try clear hfz7_0
    try clear hfz7_1
    try clear hfz7_2
    try clear hfz7_3
    try clear hx176_0
    try clear hx176_1
    try clear hx176_2
    try clear hx176_3
    try clear p176
    try clear q176
    obtain ⟨x6_1, x178000_1, x178001_1, x178002_1, x178003_1, rfl, HA, HK1, BK171, BK177, HB⟩ := hrel
    cases gk with
    | zero => exact absurd HA.out (by simp [r10_Sum.l0])
    | succ k1 =>
     have H := HA.out
     clear HA
     simp only [r10_Sum.l0] at H
     by_cases c13 : x6_1 < (l1.length : Int)
     ·rw [if_pos c13] at H
      have c13b0 : decide (x6_1 < (l1.length : Int)) = true := decide_eq_true c13
      clear c13
      by_cases c14 : 0 ≤ x6_1
      ·rw [if_pos c14] at H
       have c14b0 : decide (0 ≤ x6_1) = true := decide_eq_true c14
       clear c14
       replace H := Option.bind_eq_some_iff.mp H
       obtain ⟨⟨t179, t180, t181, t182⟩, A15, H⟩ := H
       try dsimp only at H
       replace A15 := Zs.mk A15
       have H' := Zs.mk H
       clear H
       try go_wp2
       replace BK171 := Zs.mk (zd BK171.out)
       replace BK177 := Zs.mk (zd BK177.out)
       replace HB := Zs.mk (below_drew1 HB.out)
       have p178 : 0 ≤ (x6_1 : Int) := of_decide_eq_true (by first | (with_reducible assumption) | assumption)
       have q178 : x6_1 < (l1.length : Int) := of_decide_eq_true (by first | (with_reducible assumption) | assumption)
       obtain ⟨ad178, e178, hx178_0, hx178_1, hx178_2, hx178_3⟩ := at_T24 HR1.out x6_1 p178 q178
       have hw178_3 := hx178_3
       have hw178_2 := hx178_2
       have hw178_1 := hx178_1
       have hw178_0 := hx178_0
       obtain rfl : ad176 = ad178 := (by injection e178)
       replace hx178_0 := (HB.out.cell (World.block_lt_of_cell? w _ hx178_0)).trans hx178_0
       replace hx178_1 := (HB.out.cell (World.block_lt_of_cell? w _ hx178_1)).trans hx178_1
       replace hx178_2 := (HB.out.cell (World.block_lt_of_cell? w _ hx178_2)).trans hx178_2
       replace hx178_3 := (HB.out.cell (World.block_lt_of_cell? w _ hx178_3)).trans hx178_3
       replace p178 := eq_true p178
       replace q178 := eq_true q178
       refine start_ (n := 7) (S := fun w' => w'.cell? ⟨gb177, 0, none⟩ = some (.int .i64 x178000_1) ∧ w'.cell? ⟨gb177, 1, none⟩ = some (.int .u64 x178001_1) ∧ w'.cell? ⟨gb177, 2, none⟩ = some (.int .u64 x178002_1) ∧ w'.cell? ⟨gb177, 3, none⟩ = some (.string x178003_1) ∧ w'.cell? (ad176.add ((x6_1).toNat * 4)) = some (.int .i64 ((rd_T24 l1 x6_1).f0)) ∧ w'.cell? ⟨(ad176.add ((x6_1).toNat * 4)).block, (ad176.add ((x6_1).toNat * 4)).off + 1, none⟩ = some (.int .u64 ((rd_T24 l1 x6_1).f1)) ∧ w'.cell? ⟨(ad176.add ((x6_1).toNat * 4)).block, (ad176.add ((x6_1).toNat * 4)).off + 2, none⟩ = some (.int .u64 ((rd_T24 l1 x6_1).f2)) ∧ w'.cell? ⟨(ad176.add ((x6_1).toNat * 4)).block, (ad176.add ((x6_1).toNat * 4)).off + 3, none⟩ = some (.string ((rd_T24 l1 x6_1).f3))) (ds := [6]) #[false, false, false, false, false, false, false] (by kernel_rfl) rfl rfl ⟨(zc BK177.out 0).trans rfl, (zc BK177.out 1).trans rfl, (zc BK177.out 2).trans rfl, (zc BK177.out 3).trans rfl, ((HB.out.cell (World.block_lt_of_cell? w _ hw178_0)).trans hw178_0), ((HB.out.cell (World.block_lt_of_cell? w _ hw178_1)).trans hw178_1), ((HB.out.cell (World.block_lt_of_cell? w _ hw178_2)).trans hw178_2), ((HB.out.cell (World.block_lt_of_cell? w _ hw178_3)).trans hw178_3)⟩ (fun hHeld => ?_)
       generalize wr.drew = w16 at BK171 BK177 HB hx178_0 hx178_1 hx178_2 hx178_3 hHeld ⊢
       refine pure_ (i := 1) (N := some 22) (v := ?_) (a' := ?_) #[false, true, false, false, false, false, false] rfl rfl (by kernel_rfl) (fun _ _ _ h => h) (Or.inl ⟨by rfl, ?_⟩) ?_ ?_
       rotate_left
       ·intro w'
        go_simp
        with_reducible rfl
       rotate_left
       ·simp only [Act.put, List.setIfInBounds_toArray, List.set_cons_zero, List.set_cons_succ, i64_w, i32_w]
        rfl
       refine pure_ (i := 2) (N := some 23) (v := ?_) (a' := ?_) #[false, true, true, false, false, false, false] rfl rfl (by kernel_rfl) (fun _ _ _ h => h) (Or.inl ⟨by rfl, ?_⟩) ?_ ?_
       rotate_left
       ·intro w'
        go_simp
        with_reducible rfl
       rotate_left
       ·simp only [Act.put, List.setIfInBounds_toArray, List.set_cons_zero, List.set_cons_succ, i64_w, i32_w]
        rfl
       refine pure_ (i := 3) (N := some 24) (v := ?_) (a' := ?_) #[false, true, true, true, false, false, false] rfl rfl (by kernel_rfl) (fun _ _ _ h => h) (Or.inl ⟨by rfl, ?_⟩) ?_ ?_
       rotate_left
       ·intro w'
        go_simp
        with_reducible rfl
       rotate_left
       ·simp only [Act.put, List.setIfInBounds_toArray, List.set_cons_zero, List.set_cons_succ, i64_w, i32_w]
        rfl
       refine take_ (i := 0) (N := some 21) (v := ?_) (a' := ?_) #[true, true, true, true, false, false, false] rfl rfl (by kernel_rfl) (fun _ _ _ h => h) (Or.inl ⟨by rfl, ?_⟩) hHeld ?_ ?_
       rotate_left
       ·rintro w' ⟨s0, s1, s2, s3, s4, s5, s6, s7⟩
        go_simp
        with_reducible rfl
       rotate_left
       ·simp only [Act.put, List.setIfInBounds_toArray, List.set_cons_zero, List.set_cons_succ, i64_w, i32_w]
        rfl
       refine take_ (i := 4) (N := some 25) (v := ?_) (a' := ?_) #[true, true, true, true, true, false, false] rfl rfl (by kernel_rfl) (fun _ _ _ h => h) (Or.inl ⟨by rfl, ?_⟩) hHeld ?_ ?_
       rotate_left
       ·rintro w' ⟨s0, s1, s2, s3, s4, s5, s6, s7⟩
        go_simp
        with_reducible rfl
       rotate_left
       ·simp only [Act.put, List.setIfInBounds_toArray, List.set_cons_zero, List.set_cons_succ, i64_w, i32_w]
        rfl
       refine one_ (i := 5) (N := some 26) #[true, true, true, true, true, true, false] rfl rfl (by kernel_rfl) (by decide) (fun K hK => ?_)
       refine gsc Tryz.func58 (r10_Add.calls x178000_1 x178001_1 x178002_1 x178003_1 ((rd_T24 l1 x6_1).f0) ((rd_T24 l1 x6_1).f1) ((rd_T24 l1 x6_1).f2) ((rd_T24 l1 x6_1).f3) t179 t180 t181 t182 _ A15.out) (fun w17 hb => ?_)
       replace BK171 := bkb BK171 hb
       replace BK177 := bkb BK177 hb
       replace HB := bls HB hb
       (try clear hb)
       (try clear hb2)
       (try clear hk)
       (try clear hi)
       refine hK.out _ _ ⟨(zc BK177.out 0).trans rfl, (zc BK177.out 1).trans rfl, (zc BK177.out 2).trans rfl, (zc BK177.out 3).trans rfl, ((HB.out.cell (World.block_lt_of_cell? w _ hw178_0)).trans hw178_0), ((HB.out.cell (World.block_lt_of_cell? w _ hw178_1)).trans hw178_1), ((HB.out.cell (World.block_lt_of_cell? w _ hw178_2)).trans hw178_2), ((HB.out.cell (World.block_lt_of_cell? w _ hw178_3)).trans hw178_3)⟩ (fun hHeld => ?_)
       clear hK K
       refine nm 26 ?_
       refine last_ (i := 6) (N := none) #[true, true, true, true, true, true, true] rfl rfl (by kernel_rfl) (by decide) (fun K hK => ?_)
       have hs18 : w17.cell? ⟨gb177, 0, none⟩ = some (.int .i64 x178000_1) := (zc BK177.out 0).trans rfl
       have hfs18 := zf BK177.out 0
       have hns18_0 := NB171_177.out
       have hms18_0 := NB177_171.out
       have hs19 : w17.cell? ⟨gb177, 1, none⟩ = some (.int .u64 x178001_1) := (zc BK177.out 1).trans rfl
       have hfs19 := zf BK177.out 1
       have hns19_0 := NB171_177.out
       have hms19_0 := NB177_171.out
       have hs20 : w17.cell? ⟨gb177, 2, none⟩ = some (.int .u64 x178002_1) := (zc BK177.out 2).trans rfl
       have hfs20 := zf BK177.out 2
       have hns20_0 := NB171_177.out
       have hms20_0 := NB177_171.out
       have hs21 : w17.cell? ⟨gb177, 3, none⟩ = some (.string x178003_1) := (zc BK177.out 3).trans rfl
       have hfs21 := zf BK177.out 3
       have hns21_0 := NB171_177.out
       have hms21_0 := NB177_171.out
       refine skip_ (w1 := ?_) (by rfl) rfl ?_ ?_
       rotate_left
       ·go_simp
        rfl
       refine hK.out _ _ ?_
       clear hK K
       refine done_ (by kernel_rfl) ?_
       try go_wp2
       go_roundg k1
       case measure => have := HK1.out; omega
       case rel => exact ⟨(wrap64 (x6_1 + 1)), (t179), (t180), (t181), (t182), (by first | rfl | (simp; done) | (simp [*]; done)), H', ⟨by have := HK1.out; omega⟩, bkf BK171, ⟨by (with_reducible repeat (first | refine zn ?_ _ | refine zd ?_ | refine za ?_ _)); apply bp4; (with_reducible repeat (first | refine zn ?_ _ | refine zd ?_ | refine za ?_ _)); exact BK177.out⟩, blt HB⟩
      ·rw [if_neg c14] at H
       exact absurd H (by simp)
     ·rw [if_neg c13] at H
      have c13b0 : decide (x6_1 < (l1.length : Int)) = false := decide_eq_false c13
      clear c13
      simp only [Option.some.injEq, Prod.mk.injEq] at H
      obtain ⟨rfl, rfl, rfl, rfl⟩ := H
      have hnb22 := NB177_171.out
      have hnc22 := NB171_177.out
      obtain ⟨hcz23_0, hcz23_1, hcz23_2, hcz23_3, hfz23_0, hfz23_1, hfz23_2, hfz23_3⟩ := cf4 BK177
      obtain ⟨hcz24_0, hcz24_1, hcz24_2, hcz24_3, hfz24_0, hfz24_1, hfz24_2, hfz24_3⟩ := cf4 BK171
      go_wp2
      refine bodyPost_ret (results_cell_row rfl _ _ gb171 24 #[.int .i64 x178000_1, .int .u64 x178001_1, .int .u64 x178002_1, .string x178003_1] (0, 0) _ rfl (by (with_reducible repeat (first | refine zn ?_ _ | refine zd ?_ | refine za ?_ _)); apply bp4; (with_reducible repeat (first | refine zn ?_ _ | refine zd ?_ | refine za ?_ _)); exact BK171.out) Tryz.underlying24 rfl (by kernel_rfl)) rfl ?_
      exact fin_ (blt HB)
  ·rw [if_neg c8] at H
   exact absurd H (by simp)
def r10_Conjugate.f (a0_0 : Int) (a0_1 : Int) (a0_2 : Int) (a0_3 : ByteArray) : Option (Int × Int × Int × ByteArray) := (r10_PartType.f a0_0).bind fun t185 => ((r8_Negated.f t185 a0_2).bind fun t186 => ((r10_Made.f a0_0 a0_1 t186).bind fun bt187 => (some (bt187.1, bt187.2.1, bt187.2.2.1, bt187.2.2.2))))
def r10_Conjugate.T1 : Bool × List (List Nat × List Nat) := (true, [([], []), ([0], [0]), ([], []), ([2], [2]), ([], []), ([4], [4]), ([5], [5]), ([], []), ([7], [7]), ([6, 8, 6], [6, 8]), ([1, 3, 9, 9], [1, 3, 9]), ([10, 10, 0, 1, 2, 3, 4, 5, 6, 7, 8, 9, 10], [10])])
def r10_Conjugate.B1 : List Nat := [0, 1, 0, 4, 0, 16, 48, 0, 128, 496, 1023, 2047]
theorem r10_Conjugate.tab1 : rtab .any (opsOf Tryz.f31 1) = r10_Conjugate.T1 := by kernel_rfl
theorem r10_Conjugate.bits1 : waitsOk r10_Conjugate.T1.2 r10_Conjugate.B1 = true := by kernel_rfl
set_option maxHeartbeats 8000000 in
set_option maxRecDepth 100000 in
theorem r10_Conjugate.calls (a0_0 : Int) (a0_1 : Int) (a0_2 : Int) (a0_3 : ByteArray) (r1 : Int) (r2 : Int) (r3 : Int) (r4 : ByteArray) (w : World) (h : r10_Conjugate.f a0_0 a0_1 a0_2 a0_3 = some (r1, r2, r3, r4)) :
  Calls Tryz.prog 31 #[.agg #[.int .i64 a0_0, .int .u64 a0_1, .int .u64 a0_2, .string a0_3]] w fun e w' => e = .returned (.agg #[.int .i64 r1, .int .u64 r2, .int .u64 r3, .string r4]) ∧ Below w.heap.size w w' := by
 have hu24 := Tryz.underlying24
 have HB := Zs.mk (Below.refl w.heap.size w)
 have H : ((r10_PartType.f a0_0).bind fun t185 => ((r8_Negated.f t185 a0_2).bind fun t186 => ((r10_Made.f a0_0 a0_1 t186).bind fun bt187 => (some (bt187.1, bt187.2.1, bt187.2.2.1, bt187.2.2.2))))) = some (r1, r2, r3, r4) := h
 clear h
 replace H := Option.bind_eq_some_iff.mp H
 obtain ⟨t185, A2, H⟩ := H
 try dsimp only at H
 replace A2 := Zs.mk A2
 replace H := Option.bind_eq_some_iff.mp H
 obtain ⟨t186, A3, H⟩ := H
 try dsimp only at H
 replace A3 := Zs.mk A3
 replace H := Option.bind_eq_some_iff.mp H
 obtain ⟨⟨t187, t188, t189, t190⟩, A4, H⟩ := H
 try dsimp only at H
 replace A4 := Zs.mk A4
 simp only [Option.some.injEq, Prod.mk.injEq] at H
 obtain ⟨rfl, rfl, rfl, rfl⟩ := H
 go_enter Tryz.func31, Tryz.ntmps31
 try go_wp2_with (first | ((with_reducible refine gd_ (N := 1) rfl ?_); refine bxe 1 (cs := #[.int .i64 a0_0, .int .u64 a0_1, .int .u64 a0_2, .string a0_3]) (t := 24) ?_; intro gb183 hg w5 hbox hb; have BK183 := Zs.mk hbox; have GW183 := bsz HB hg; have GE183 := bsz HB hg; replace HB := bls HB hb; clear hb hbox hg) | ((with_reducible refine gd_ (N := 2) rfl ?_); refine bxe 2 (cs := #[.int .i64 0, .int .u64 0, .int .u64 0, .string (⟨#[]⟩ : ByteArray)]) (t := 24) ?_; intro gb184 hg w6 hbox hb; have BK184 := Zs.mk hbox; have GW184 := bsz HB hg; have GE184 := bsz HB hg; have NB183_184 := bnl BK183 hg; have NB184_183 := bng BK183 hg; replace BK183 := bkb BK183 hb; replace HB := bls HB hb; clear hb hbox hg))
 replace BK183 := Zs.mk (zd BK183.out)
 replace BK184 := Zs.mk (zd BK184.out)
 replace HB := Zs.mk (below_drew1 HB.out)
 refine start_ (n := 12) (S := fun w' => w'.cell? ⟨gb183, 0, none⟩ = some (.int .i64 a0_0) ∧ w'.cell? ⟨gb183, 1, none⟩ = some (.int .u64 a0_1) ∧ w'.cell? ⟨gb183, 2, none⟩ = some (.int .u64 a0_2) ∧ w'.cell? ⟨gb183, 3, none⟩ = some (.string a0_3)) (ds := []) #[false, false, false, false, false, false, false, false, false, false, false, false] (by kernel_rfl) rfl rfl (cf4c BK183) (fun hHeld => ?_); refine with_tabW r10_Conjugate.tab1 r10_Conjugate.bits1 (fun HT_ HW_ => ?_)
 generalize w6.drew = w7 at BK183 BK184 HB hHeld ⊢
 refine pu 0 3 HT_ ?_
 refine pu 2 5 HT_ ?_
 refine pu 4 7 HT_ ?_
 refine pu 7 10 HT_ ?_
 refine tk 1 4 HT_ HW_ hHeld ?_
 refine tk 3 6 HT_ HW_ hHeld ?_
 refine tk 5 8 HT_ HW_ hHeld ?_
 refine tk 8 11 HT_ HW_ hHeld ?_
 refine on 6 9 HT_ (fun K hK => ?_)
 refine gsc Tryz.func16 (r10_PartType.calls a0_0 t185 _ A2.out) (fun _ h_ => ?_)
 obtain ⟨nd, rfl⟩ := h_
 refine hK.out _ _ (cf4c BK183) (fun hHeld => ?_)
 clear hK K
 refine nm 9 ?_
 refine on 9 12 HT_ (fun K hK => ?_)
 refine gsc Tryz.func83 (r8_Negated.calls t185 a0_2 t186 _ A3.out) (fun w8 hb => ?_)
 replace BK183 := bkb BK183 hb
 replace BK184 := bkb BK184 hb
 replace HB := bls HB hb
 (try clear hb)
 (try clear hb2)
 (try clear hk)
 (try clear hi)
 refine hK.out _ _ (cf4c BK183) (fun hHeld => ?_)
 clear hK K
 refine nm 12 ?_
 refine on 10 13 HT_ (fun K hK => ?_)
 refine gsc Tryz.func18 (r10_Made.calls a0_0 a0_1 t186 t187 t188 t189 t190 _ A4.out) (fun w9 hb => ?_)
 replace BK183 := bkb BK183 hb
 replace BK184 := bkb BK184 hb
 replace HB := bls HB hb
 (try clear hb)
 (try clear hb2)
 (try clear hk)
 (try clear hi)
 refine hK.out _ _ (cf4c BK183) (fun hHeld => ?_)
 clear hK K
 refine nm 13 ?_
 refine one_ (i := 11) (N := none) #[true, true, true, true, true, true, true, true, true, true, true, true] rfl rfl (one_of HT_.out (by kernel_rfl)) (by decide) (fun K hK => ?_)
 have hs10 : w9.cell? ⟨gb184, 0, none⟩ = some (.int .i64 0) := (zc BK184.out 0).trans rfl
 have hfs10 := zf BK184.out 0
 have hns10_0 := NB183_184.out
 have hms10_0 := NB184_183.out
 have hs11 : w9.cell? ⟨gb184, 1, none⟩ = some (.int .u64 0) := (zc BK184.out 1).trans rfl
 have hfs11 := zf BK184.out 1
 have hns11_0 := NB183_184.out
 have hms11_0 := NB184_183.out
 have hs12 : w9.cell? ⟨gb184, 2, none⟩ = some (.int .u64 0) := (zc BK184.out 2).trans rfl
 have hfs12 := zf BK184.out 2
 have hns12_0 := NB183_184.out
 have hms12_0 := NB184_183.out
 have hs13 : w9.cell? ⟨gb184, 3, none⟩ = some (.string (⟨#[]⟩ : ByteArray)) := (zc BK184.out 3).trans rfl
 have hfs13 := zf BK184.out 3
 have hns13_0 := NB183_184.out
 have hms13_0 := NB184_183.out
 refine skip_ (w1 := ?_) (by rfl) rfl ?_ ?_
 rotate_left
 ·go_simp
  rfl
 refine hK.out _ _ ⟨((cell_far (p := ⟨gb184, _, none⟩) NB183_184.out _).trans (((cell_far (p := ⟨gb184, _, none⟩) NB183_184.out _).trans (((cell_far (p := ⟨gb184, _, none⟩) NB183_184.out _).trans (((cell_far (p := ⟨gb184, _, none⟩) NB183_184.out _).trans (hHeld.1)))))))), ((cell_far (p := ⟨gb184, _, none⟩) NB183_184.out _).trans (((cell_far (p := ⟨gb184, _, none⟩) NB183_184.out _).trans (((cell_far (p := ⟨gb184, _, none⟩) NB183_184.out _).trans (((cell_far (p := ⟨gb184, _, none⟩) NB183_184.out _).trans (hHeld.2.1)))))))), ((cell_far (p := ⟨gb184, _, none⟩) NB183_184.out _).trans (((cell_far (p := ⟨gb184, _, none⟩) NB183_184.out _).trans (((cell_far (p := ⟨gb184, _, none⟩) NB183_184.out _).trans (((cell_far (p := ⟨gb184, _, none⟩) NB183_184.out _).trans (hHeld.2.2.1)))))))), ((cell_far (p := ⟨gb184, _, none⟩) NB183_184.out _).trans (((cell_far (p := ⟨gb184, _, none⟩) NB183_184.out _).trans (((cell_far (p := ⟨gb184, _, none⟩) NB183_184.out _).trans (((cell_far (p := ⟨gb184, _, none⟩) NB183_184.out _).trans (hHeld.2.2.2))))))))⟩ (fun hHeld => ?_)
 clear hK K
 refine done_ (done_of HT_.out (by kernel_rfl)) ?_
 try go_wp2
 refine bodyPost_ret (results_cell_row rfl _ _ gb184 24 #[.int .i64 t187, .int .u64 t188, .int .u64 t189, .string t190] (0, 0) _ rfl (by (with_reducible repeat (first | refine zn ?_ _ | refine zd ?_ | refine za ?_ _)); apply bp4; (with_reducible repeat (first | refine zn ?_ _ | refine zd ?_ | refine za ?_ _)); exact BK184.out) Tryz.underlying24 rfl (by kernel_rfl)) rfl ?_
 exact fin_ (blt HB)
def r10_Dot.l0 : Nat → Int → List (S24) → List (S24) → List (S24) → Int → Option (Int × Int × Int × ByteArray)
 | 0, _, _, _, _, _ => none
 | k + 1, x0, x1, x2, x7, x8 => if x8 < (x1.length : Int) then (if 0 ≤ x8 then ((r10_Conjugate.f ((rd_T24 x1 x8).f0) ((rd_T24 x1 x8).f1) ((rd_T24 x1 x8).f2) ((rd_T24 x1 x8).f3)).bind fun bt193 => (if x8 < (x2.length : Int) then ((r10_Mul.f bt193.1 bt193.2.1 bt193.2.2.1 bt193.2.2.2 ((rd_T24 x2 x8).f0) ((rd_T24 x2 x8).f1) ((rd_T24 x2 x8).f2) ((rd_T24 x2 x8).f3)).bind fun bt198 => (if x7.length < 3518437208883 then (r10_Dot.l0 k x0 x1 x2 (x7 ++ [(⟨bt198.1, bt198.2.1, bt198.2.2.1, bt198.2.2.2⟩ : S24)]) (wrap64 (x8 + 1))) else (none))) else (none))) else (none)) else ((r10_Sum.f k x0 x7).bind fun bt205 => (some (bt205.1, bt205.2.1, bt205.2.2.1, bt205.2.2.2)))
def r10_Dot.f (k : Nat) (a0 : Int) (l1 : List (S24)) (l2 : List (S24)) : Option (Int × Int × Int × ByteArray) := r10_Dot.l0 k a0 l1 l2 ([] : List (S24)) 0
def r10_Dot.T5 : Bool × List (List Nat × List Nat) := (true, [([], []), ([], []), ([], []), ([1, 2], [1, 2]), ([3], [3]), ([4], [4]), ([], []), ([], []), ([6, 7], [6, 7]), ([8], [8]), ([5, 9, 5], [5, 9]), ([10], [10]), ([0, 11, 10], [0, 11]), ([12, 12, 0, 1, 2, 3, 4, 5, 6, 7, 8, 9, 10, 11, 12], [0, 12])])
def r10_Dot.B5 : List Nat := [0, 0, 0, 6, 14, 30, 0, 0, 192, 448, 1022, 2046, 4095, 8191]
theorem r10_Dot.tab5 : rtab .any (opsOf Tryz.f42 5) = r10_Dot.T5 := by kernel_rfl
theorem r10_Dot.bits5 : waitsOk r10_Dot.T5.2 r10_Dot.B5 = true := by kernel_rfl
set_option maxHeartbeats 8000000 in
set_option maxRecDepth 100000 in
theorem r10_Dot.calls (k : Nat) (a0 : Int) (A1 : Option Addr) (c1 : Nat) (l1 : List (S24)) (A2 : Option Addr) (c2 : Nat) (l2 : List (S24)) (r1 : Int) (r2 : Int) (r3 : Int) (r4 : ByteArray) (w : World) (hr1 : Kd.C k24 w A1 l1.length l1) (hc1 : l1.length ≤ c1) (hr2 : Kd.C k24 w A2 l2.length l2) (hc2 : l2.length ≤ c2) (h : r10_Dot.f k a0 l1 l2 = some (r1, r2, r3, r4)) :
  Calls Tryz.prog 42 #[.int .i64 a0, .slice A1 l1.length c1, .slice A2 l2.length c2] w fun e w' => e = .returned (.agg #[.int .i64 r1, .int .u64 r2, .int .u64 r3, .string r4]) ∧ Below w.heap.size w w' := by
 have hu24 := Tryz.underlying24
 have HR1 := Zs.mk hr1
 have HC1 := Zs.mk hc1
 clear hr1 hc1
 have HR2 := Zs.mk hr2
 have HC2 := Zs.mk hc2
 clear hr2 hc2
 have HB := Zs.mk (Below.refl w.heap.size w)
 have H : (r10_Dot.l0 k a0 l1 l2 ([] : List (S24)) 0) = some (r1, r2, r3, r4) := h
 clear h
 have H' := Zs.mk H
 clear H
 go_enter Tryz.func42, Tryz.ntmps42
 go_wp2_with (first | ((with_reducible refine gd_ (N := 6) rfl ?_); refine bxe 6 (cs := #[.int .i64 0, .int .u64 0, .int .u64 0, .string (⟨#[]⟩ : ByteArray)]) (t := 24) ?_; intro gb191 hg w4 hbox hb; have BK191 := Zs.mk hbox; have GW191 := bsz HB hg; have GE191 := bsz HB hg; replace HB := bls HB hb; clear hb hbox hg))
 go_loopg [7, 8] k (fun kq v7 v8 w' => ∃ (x7_1 : List (S24)) (x8_1 : Int), v8 = .int .i64 x8_1 ∧ Zs (r10_Dot.l0 kq a0 l1 l2 x7_1 x8_1 = some (r1, r2, r3, r4)) ∧ Zs (kq ≤ k) ∧ Zs (Kd.R k24 24 w' w.heap.size (fun k_ => k_ ≠ gb191) v7 x7_1) ∧ Zs (w'.heap[gb191]? = some (.cells #[.int .i64 0, .int .u64 0, .int .u64 0, .string (⟨#[]⟩ : ByteArray)] 24 (0, 0))) ∧ Zs (Below w.heap.size w w'))
 case atStart => exact ⟨(([] : List (S24))), (0), (by first | rfl | (simp; done) | (simp [*]; done)), H', ⟨Nat.le_refl _⟩, ⟨by first | exact Kd.R_nil _ _ _ _ _ | exact Kd.N_nil _ _ _ _ _ | exact Kd.V_nil _ _ _ _ _ | exact Kd.Q_nil _ _ _ _ _ | exact Kd.S_nil _ _ _ _ _⟩, bks BK191, blt HB⟩
 case round =>
  clear H'
  try clear c1
  try clear c2
  try clear p2
  try clear c4
  obtain ⟨x7_1, x8_1, rfl, HA, HK1, HO_7, BK191, HB⟩ := hrel
  cases gk with
  | zero => exact absurd HA.out (by simp [r10_Dot.l0])
  | succ k1 =>
   have H := HA.out
   clear HA
   simp only [r10_Dot.l0] at H
   by_cases c5 : x8_1 < (l1.length : Int)
   ·rw [if_pos c5] at H
    have c5b0 : decide (x8_1 < (l1.length : Int)) = true := decide_eq_true c5
    clear c5
    by_cases c6 : 0 ≤ x8_1
    ·rw [if_pos c6] at H
     have c6b0 : decide (0 ≤ x8_1) = true := decide_eq_true c6
     clear c6
     replace H := Option.bind_eq_some_iff.mp H
     obtain ⟨⟨t193, t194, t195, t196⟩, A7, H⟩ := H
     try dsimp only at H
     replace A7 := Zs.mk A7
     by_cases c8 : x8_1 < (l2.length : Int)
     ·rw [if_pos c8] at H
      have c8b0 : decide (x8_1 < (l2.length : Int)) = true := decide_eq_true c8
      clear c8
      replace H := Option.bind_eq_some_iff.mp H
      obtain ⟨⟨t198, t199, t200, t201⟩, A9, H⟩ := H
      try dsimp only at H
      replace A9 := Zs.mk A9
      by_cases c10 : x7_1.length < 3518437208883
      ·rw [if_pos c10] at H
       have LMc10 := Zs.mk c10
       clear c10
       obtain ⟨y202, hy202⟩ : ∃ y_ : List (S24), y_ = (x7_1 ++ [(⟨t198, t199, t200, t201⟩ : S24)]) := ⟨_, rfl⟩
       replace H : (r10_Dot.l0 k1 a0 l1 l2 y202 (wrap64 (x8_1 + 1))) = some (r1, r2, r3, r4) := by first | (rw [hy202]; with_reducible exact H) | (have H2_ := (Option.bind_some _ _).symm.trans H; rw [hy202]; with_reducible exact H2_) | (have H2_ := (Option.bind_some _ _).symm.trans H; with_reducible exact H2_) | with_reducible exact H | (rw [hy202]; exact H) | exact H
       have Ny202 := Zs.mk hy202
       clear hy202
       have H' := Zs.mk H
       clear H
       try go_wp2
       replace HO_7 := Zs.mk (Kd.R_drew HO_7.out)
       replace BK191 := Zs.mk (zd BK191.out)
       replace HB := Zs.mk (below_drew1 HB.out)
       have p192 : 0 ≤ (x8_1 : Int) := of_decide_eq_true (by first | (with_reducible assumption) | assumption)
       have q192 : x8_1 < (l1.length : Int) := of_decide_eq_true (by first | (with_reducible assumption) | assumption)
       obtain ⟨ad192, e192, hx192_0, hx192_1, hx192_2, hx192_3⟩ := at_T24 HR1.out x8_1 p192 q192
       have hw192_3 := hx192_3
       have hw192_2 := hx192_2
       have hw192_1 := hx192_1
       have hw192_0 := hx192_0
       cases e192
       replace hx192_0 := (HB.out.cell (World.block_lt_of_cell? w _ hx192_0)).trans hx192_0
       replace hx192_1 := (HB.out.cell (World.block_lt_of_cell? w _ hx192_1)).trans hx192_1
       replace hx192_2 := (HB.out.cell (World.block_lt_of_cell? w _ hx192_2)).trans hx192_2
       replace hx192_3 := (HB.out.cell (World.block_lt_of_cell? w _ hx192_3)).trans hx192_3
       replace p192 := eq_true p192
       replace q192 := eq_true q192
       have p197 : 0 ≤ (x8_1 : Int) := of_decide_eq_true (by first | (with_reducible assumption) | assumption)
       have q197 : x8_1 < (l2.length : Int) := of_decide_eq_true (by first | (with_reducible assumption) | assumption)
       obtain ⟨ad197, e197, hx197_0, hx197_1, hx197_2, hx197_3⟩ := at_T24 HR2.out x8_1 p197 q197
       have hw197_3 := hx197_3
       have hw197_2 := hx197_2
       have hw197_1 := hx197_1
       have hw197_0 := hx197_0
       cases e197
       replace hx197_0 := (HB.out.cell (World.block_lt_of_cell? w _ hx197_0)).trans hx197_0
       replace hx197_1 := (HB.out.cell (World.block_lt_of_cell? w _ hx197_1)).trans hx197_1
       replace hx197_2 := (HB.out.cell (World.block_lt_of_cell? w _ hx197_2)).trans hx197_2
       replace hx197_3 := (HB.out.cell (World.block_lt_of_cell? w _ hx197_3)).trans hx197_3
       replace p197 := eq_true p197
       replace q197 := eq_true q197
       refine start_ (n := 14) (S := fun w' => w'.cell? (ad192.add ((x8_1).toNat * 4)) = some (.int .i64 ((rd_T24 l1 x8_1).f0)) ∧ w'.cell? ⟨(ad192.add ((x8_1).toNat * 4)).block, (ad192.add ((x8_1).toNat * 4)).off + 1, none⟩ = some (.int .u64 ((rd_T24 l1 x8_1).f1)) ∧ w'.cell? ⟨(ad192.add ((x8_1).toNat * 4)).block, (ad192.add ((x8_1).toNat * 4)).off + 2, none⟩ = some (.int .u64 ((rd_T24 l1 x8_1).f2)) ∧ w'.cell? ⟨(ad192.add ((x8_1).toNat * 4)).block, (ad192.add ((x8_1).toNat * 4)).off + 3, none⟩ = some (.string ((rd_T24 l1 x8_1).f3)) ∧ w'.cell? (ad197.add ((x8_1).toNat * 4)) = some (.int .i64 ((rd_T24 l2 x8_1).f0)) ∧ w'.cell? ⟨(ad197.add ((x8_1).toNat * 4)).block, (ad197.add ((x8_1).toNat * 4)).off + 1, none⟩ = some (.int .u64 ((rd_T24 l2 x8_1).f1)) ∧ w'.cell? ⟨(ad197.add ((x8_1).toNat * 4)).block, (ad197.add ((x8_1).toNat * 4)).off + 2, none⟩ = some (.int .u64 ((rd_T24 l2 x8_1).f2)) ∧ w'.cell? ⟨(ad197.add ((x8_1).toNat * 4)).block, (ad197.add ((x8_1).toNat * 4)).off + 3, none⟩ = some (.string ((rd_T24 l2 x8_1).f3))) (ds := []) #[false, false, false, false, false, false, false, false, false, false, false, false, false, false] (by kernel_rfl) rfl rfl ⟨((HB.out.cell (World.block_lt_of_cell? w _ hw192_0)).trans hw192_0), ((HB.out.cell (World.block_lt_of_cell? w _ hw192_1)).trans hw192_1), ((HB.out.cell (World.block_lt_of_cell? w _ hw192_2)).trans hw192_2), ((HB.out.cell (World.block_lt_of_cell? w _ hw192_3)).trans hw192_3), ((HB.out.cell (World.block_lt_of_cell? w _ hw197_0)).trans hw197_0), ((HB.out.cell (World.block_lt_of_cell? w _ hw197_1)).trans hw197_1), ((HB.out.cell (World.block_lt_of_cell? w _ hw197_2)).trans hw197_2), ((HB.out.cell (World.block_lt_of_cell? w _ hw197_3)).trans hw197_3)⟩ (fun hHeld => ?_); refine with_tabW r10_Dot.tab5 r10_Dot.bits5 (fun HT_ HW_ => ?_)
       generalize wr.drew = w11 at HO_7 BK191 HB hx192_0 hx192_1 hx192_2 hx192_3 hx197_0 hx197_1 hx197_2 hx197_3 hHeld ⊢
       refine pu 0 15 HT_ ?_
       refine pu 1 16 HT_ ?_
       refine pu 2 17 HT_ ?_
       refine pu 3 18 HT_ ?_
       refine pu 6 21 HT_ ?_
       refine pu 7 22 HT_ ?_
       refine pu 8 23 HT_ ?_
       refine tk 4 19 HT_ HW_ hHeld ?_
       refine tk 9 24 HT_ HW_ hHeld ?_
       refine on 5 20 HT_ (fun K hK => ?_)
       refine gsc Tryz.func31 (r10_Conjugate.calls ((rd_T24 l1 x8_1).f0) ((rd_T24 l1 x8_1).f1) ((rd_T24 l1 x8_1).f2) ((rd_T24 l1 x8_1).f3) t193 t194 t195 t196 _ A7.out) (fun w12 hb => ?_)
       replace HO_7 := Zs.mk (Kd.R_below (by (with_reducible repeat (first | apply Kd.R_alloc | apply Kd.R_drewN | apply Kd.R_drew)); exact HO_7.out) hb)
       replace BK191 := bkb BK191 hb
       replace HB := bls HB hb
       (try clear hb)
       (try clear hb2)
       (try clear hk)
       (try clear hi)
       refine hK.out _ _ ⟨((HB.out.cell (World.block_lt_of_cell? w _ hw192_0)).trans hw192_0), ((HB.out.cell (World.block_lt_of_cell? w _ hw192_1)).trans hw192_1), ((HB.out.cell (World.block_lt_of_cell? w _ hw192_2)).trans hw192_2), ((HB.out.cell (World.block_lt_of_cell? w _ hw192_3)).trans hw192_3), ((HB.out.cell (World.block_lt_of_cell? w _ hw197_0)).trans hw197_0), ((HB.out.cell (World.block_lt_of_cell? w _ hw197_1)).trans hw197_1), ((HB.out.cell (World.block_lt_of_cell? w _ hw197_2)).trans hw197_2), ((HB.out.cell (World.block_lt_of_cell? w _ hw197_3)).trans hw197_3)⟩ (fun hHeld => ?_)
       clear hK K
       refine nm 20 ?_
       refine on 10 25 HT_ (fun K hK => ?_)
       refine gsc Tryz.func60 (r10_Mul.calls t193 t194 t195 t196 ((rd_T24 l2 x8_1).f0) ((rd_T24 l2 x8_1).f1) ((rd_T24 l2 x8_1).f2) ((rd_T24 l2 x8_1).f3) t198 t199 t200 t201 _ A9.out) (fun w13 hb => ?_)
       replace HO_7 := Zs.mk (Kd.R_below (by (with_reducible repeat (first | apply Kd.R_alloc | apply Kd.R_drewN | apply Kd.R_drew)); exact HO_7.out) hb)
       replace BK191 := bkb BK191 hb
       replace HB := bls HB hb
       (try clear hb)
       (try clear hb2)
       (try clear hk)
       (try clear hi)
       refine hK.out _ _ ⟨((HB.out.cell (World.block_lt_of_cell? w _ hw192_0)).trans hw192_0), ((HB.out.cell (World.block_lt_of_cell? w _ hw192_1)).trans hw192_1), ((HB.out.cell (World.block_lt_of_cell? w _ hw192_2)).trans hw192_2), ((HB.out.cell (World.block_lt_of_cell? w _ hw192_3)).trans hw192_3), ((HB.out.cell (World.block_lt_of_cell? w _ hw197_0)).trans hw197_0), ((HB.out.cell (World.block_lt_of_cell? w _ hw197_1)).trans hw197_1), ((HB.out.cell (World.block_lt_of_cell? w _ hw197_2)).trans hw197_2), ((HB.out.cell (World.block_lt_of_cell? w _ hw197_3)).trans hw197_3)⟩ (fun hHeld => ?_)
       clear hK K
       refine nm 25 ?_
       refine on 11 26 HT_ (fun K hK => ?_)
       refine value_ (w1 := ?_) (v := ?_) (by rfl) rfl ?_ ?_
       rotate_left 2
       ·go_simp
        constructor
        ·rfl
        ·rfl
       refine hK.out _ _ ⟨(World.cell?_alloc_lt _ _ _ (World.block_lt_of_cell? _ _ (((HB.out.cell (World.block_lt_of_cell? w _ hw192_0)).trans hw192_0)))).trans (((HB.out.cell (World.block_lt_of_cell? w _ hw192_0)).trans hw192_0)), (World.cell?_alloc_lt _ _ _ (World.block_lt_of_cell? _ _ (((HB.out.cell (World.block_lt_of_cell? w _ hw192_1)).trans hw192_1)))).trans (((HB.out.cell (World.block_lt_of_cell? w _ hw192_1)).trans hw192_1)), (World.cell?_alloc_lt _ _ _ (World.block_lt_of_cell? _ _ (((HB.out.cell (World.block_lt_of_cell? w _ hw192_2)).trans hw192_2)))).trans (((HB.out.cell (World.block_lt_of_cell? w _ hw192_2)).trans hw192_2)), (World.cell?_alloc_lt _ _ _ (World.block_lt_of_cell? _ _ (((HB.out.cell (World.block_lt_of_cell? w _ hw192_3)).trans hw192_3)))).trans (((HB.out.cell (World.block_lt_of_cell? w _ hw192_3)).trans hw192_3)), (World.cell?_alloc_lt _ _ _ (World.block_lt_of_cell? _ _ (((HB.out.cell (World.block_lt_of_cell? w _ hw197_0)).trans hw197_0)))).trans (((HB.out.cell (World.block_lt_of_cell? w _ hw197_0)).trans hw197_0)), (World.cell?_alloc_lt _ _ _ (World.block_lt_of_cell? _ _ (((HB.out.cell (World.block_lt_of_cell? w _ hw197_1)).trans hw197_1)))).trans (((HB.out.cell (World.block_lt_of_cell? w _ hw197_1)).trans hw197_1)), (World.cell?_alloc_lt _ _ _ (World.block_lt_of_cell? _ _ (((HB.out.cell (World.block_lt_of_cell? w _ hw197_2)).trans hw197_2)))).trans (((HB.out.cell (World.block_lt_of_cell? w _ hw197_2)).trans hw197_2)), (World.cell?_alloc_lt _ _ _ (World.block_lt_of_cell? _ _ (((HB.out.cell (World.block_lt_of_cell? w _ hw197_3)).trans hw197_3)))).trans (((HB.out.cell (World.block_lt_of_cell? w _ hw197_3)).trans hw197_3))⟩ (fun hHeld => ?_)
       clear hK K
       refine nm 26 ?_
       refine on 12 27 HT_ (fun K hK => ?_)
       refine Kd.R_append_step k24 (w0 := w) w.heap.size (by rfl) (.tmp 15) (.tmp 26) 52 24 (.agg #[(.int .i64 0), (.int .u64 0), (.int .u64 0), (.string ⟨#[]⟩)]) 40 rfl Tryz.underlying52 info24 rfl (by decide) (by omega) u7 x7_1 (⟨t198, t199, t200, t201⟩ : S24) [.int .i64 t198, .int .u64 t199, .int .u64 t200, .string t201] (fun k_ => k_ ≠ gb191) (fun _ => False) rfl rfl ?aP (fun _ hk => hk.elim) ?aF ?aO ?aB ?aS ?aL ?_
       (case aP => exact k24_mkM _ _ _ (⟨t198, t199, t200, t201⟩ : S24))
       (case aB => exact (blt HB).out)
       (case aF => exact (fun k_ hk => Kd.freshB (g := gb191) (o := .cells #[.int .i64 0, .int .u64 0, .int .u64 0, .string (⟨#[]⟩ : ByteArray)] 24 (0, 0)) (bks BK191).out k_ hk))
       (case aO => exact (by (with_reducible repeat (first | apply Kd.R_alloc | apply Kd.R_drewN | apply Kd.R_drew)); exact HO_7.out))
       (case aS => exact (below_size (blt HB).out))
       (case aL => have := LMc10.out; omega)
       intro v203 w14 ho hb hg hat
       rw [← Ny202.out] at ho
       have n0_ := Zs.mk (blk_grown (g := gb191) (o := .cells #[.int .i64 0, .int .u64 0, .int .u64 0, .string (⟨#[]⟩ : ByteArray)] 24 (0, 0)) (bks BK191).out hg (Kd.R_away HO_7.out (fun _ hk => hk)))
       have n1_ := Zs.mk (hb)
       have n2_ := Zs.mk (ho)
       clear BK191
       clear HB
       clear HO_7
       have BK191 := n0_
       have HB := n1_
       have HO204 := n2_
       clear n0_ n1_ n2_
       clear ho hb hg hat
       refine hK.out _ _ ⟨((HB.out.cell (World.block_lt_of_cell? w _ hw192_0)).trans hw192_0), ((HB.out.cell (World.block_lt_of_cell? w _ hw192_1)).trans hw192_1), ((HB.out.cell (World.block_lt_of_cell? w _ hw192_2)).trans hw192_2), ((HB.out.cell (World.block_lt_of_cell? w _ hw192_3)).trans hw192_3), ((HB.out.cell (World.block_lt_of_cell? w _ hw197_0)).trans hw197_0), ((HB.out.cell (World.block_lt_of_cell? w _ hw197_1)).trans hw197_1), ((HB.out.cell (World.block_lt_of_cell? w _ hw197_2)).trans hw197_2), ((HB.out.cell (World.block_lt_of_cell? w _ hw197_3)).trans hw197_3)⟩ (fun hHeld => ?_)
       clear hK K
       refine nm 27 ?_
       refine pu 13 7 HT_ ?_
       refine done_ (done_of HT_.out (by kernel_rfl)) ?_
       try go_wp2
       go_roundg k1
       case measure => have := HK1.out; omega
       case rel => exact ⟨(y202), (wrap64 (x8_1 + 1)), (by first | rfl | (simp; done) | (simp [*]; done)), H', ⟨by have := HK1.out; omega⟩, ⟨by (with_reducible repeat (first | apply Kd.R_alloc | apply Kd.R_drewN | apply Kd.R_drew)); exact HO204.out⟩, bks BK191, blt HB⟩
      ·rw [if_neg c10] at H
       exact absurd H (by simp)
     ·rw [if_neg c8] at H
      exact absurd H (by simp)
    ·rw [if_neg c6] at H
     exact absurd H (by simp)
   ·rw [if_neg c5] at H
    have c5b0 : decide (x8_1 < (l1.length : Int)) = false := decide_eq_false c5
    clear c5
    replace H := Option.bind_eq_some_iff.mp H
    obtain ⟨⟨t205, t206, t207, t208⟩, A15, H⟩ := H
    try dsimp only at H
    replace A15 := Zs.mk A15
    simp only [Option.some.injEq, Prod.mk.injEq] at H
    obtain ⟨rfl, rfl, rfl, rfl⟩ := H
    obtain ⟨Ao16, co16, eo16⟩ := Kd.R_slice HO_7.out
    subst eo16
    go_wp2_with (first | ((with_reducible refine gc_ (f := 41) rfl ?_); refine gL 30 Tryz.func41 #[.int .i64 a0, .slice Ao16 x7_1.length co16] ?_; (with_reducible refine (r10_Sum.calls k1 a0 _ _ x7_1 t205 t206 t207 t208 _ ?side1 ?side2 A15.out).mono ?_); (case side1 => repeat (first | exact (Kd.R_reads' HO_7.out).2.2 | (with_reducible refine Kd.C_alloc ?_ _) | (with_reducible refine Kd.C_drewN ?_ _) | (with_reducible refine Kd.C_drew ?_))); (case side2 => exact (Kd.R_reads' HO_7.out).2.1); rintro e w17 ⟨rfl, hb⟩; refine ⟨_, rfl, ?_⟩; replace HO_7 := Zs.mk (Kd.R_below (by (with_reducible repeat (first | apply Kd.R_alloc | apply Kd.R_drewN | apply Kd.R_drew)); exact HO_7.out) hb); replace BK191 := bkb BK191 hb; replace HB := bls HB hb; clear hb; obtain ⟨hcz18_0, hcz18_1, hcz18_2, hcz18_3, hfz18_0, hfz18_1, hfz18_2, hfz18_3⟩ := cf4 BK191))
    refine bodyPost_ret (results_cell_row rfl _ _ gb191 24 #[.int .i64 t205, .int .u64 t206, .int .u64 t207, .string t208] (0, 0) _ rfl (by (with_reducible repeat (first | refine zn ?_ _ | refine zd ?_ | refine za ?_ _)); apply bp4; (with_reducible repeat (first | refine zn ?_ _ | refine zd ?_ | refine za ?_ _)); exact BK191.out) Tryz.underlying24 rfl (by kernel_rfl)) rfl ?_
    exact fin_ (blt HB)
end Go.Proofs.YtmoimcblmmcffaaGreat.PLS

namespace Go.Proofs.YtmoimcblmmcffaaGreat.PLS
open Go.RowKit B NC N PPC PRA Go.Proofs.YtmoimcblmmcffaaGreatW.PrintWords
set_option linter.unusedSimpArgs false
set_option linter.unusedVariables false
def errS (x : S24) : Int := openErrV x.f0 x.f1 x.f2 x.f3
def listErr (t : Int) : List S24 → Int
 | [] => 0
 | x :: l => if errS x = 0 then (if x.f0 = t then listErr t l else 27) else errS x
def okS (x : S24) : Prop := U64 x.f1 ∧ U64 x.f2
def prS (x : S24) : S74 := ⟨x.f1, x.f2⟩
theorem rd_at {l : List S24} {i : Nat} (h : i < l.length) : rd_T24 l (i : Int) = l[i] := by
 unfold rd_T24
 rw [Int.toNat_natCast, List.getD_eq_getElem?_getD, List.getElem?_eq_getElem h]; rfl
theorem rd_at7 {l : List S74} {i : Nat} (h : i < l.length) : rd_T74 l (i : Int) = l[i] := by
 unfold rd_T74
 rw [Int.toNat_natCast, List.getD_eq_getElem?_getD, List.getElem?_eq_getElem h]; rfl
theorem w64 {i : Nat} (h : i < 1000) : wrap64 ((i : Int) + 1) = ((i + 1 : Nat) : Int) := by unfold wrap64; omega
theorem openS_f {x : S24} (h : okS x) : cx_open.f x.f0 x.f1 x.f2 x.f3 = some (cpart x.f0, x.f1, x.f2, errS x) := by
 have hu : ∀ z : Int, U64 z → u64B z = true := fun z hz => by unfold u64B; rw [decide_eq_true hz.1, decide_eq_true hz.2]; rfl
 unfold cx_open.f
 rw [hu _ h.1, hu _ h.2, if_pos (by decide)]; rfl
theorem list_l0 {t : Int} {l : List S24} (hl : ∀ x ∈ l, okS x) (hn : l.length ≤ 100) : ∀ (n i k : Nat) (acc : List S74), i + n = l.length → 2 * n < k → acc.length ≤ i →
  cx_list.l0 k t acc l (l.length : Int) (i : Int) = some (if listErr t (l.drop i) = 0 then (acc ++ (l.drop i).map prS, 0) else ([], listErr t (l.drop i)))
 | 0, i, 0, _, _, h, _ => absurd h (by omega)
 | 0, i, k + 1, acc, hi, _, _ => by
  have : l.drop i = [] := List.drop_eq_nil_of_le (by omega)
  simp only [cx_list.l0]
  rw [if_neg (show ¬ ((i : Int) < (l.length : Int)) by omega), this]
  simp [listErr]
 | n + 1, i, 0, _, _, h, _ => absurd h (by omega)
 | n + 1, i, 1, _, _, h, _ => absurd h (by omega)
 | n + 1, i, k + 2, acc, hi, hk, ha => by
  have hlt : i < l.length := by omega
  have hx : okS l[i] := hl _ (List.getElem_mem hlt)
  have hrec := list_l0 (t := t) hl hn n (i + 1) k (acc ++ [prS l[i]]) (by omega) (by omega) (by simp; omega)
  have hd : l.drop i = l[i] :: l.drop (i + 1) := List.drop_eq_getElem_cons hlt
  simp only [cx_list.l0]
  rw [if_pos (show (i : Int) < (l.length : Int) by omega), if_pos (show 0 ≤ (i : Int) by omega), if_pos (show (i : Int) < (l.length : Int) by omega), rd_at hlt, openS_f hx, Option.bind_some, hd]
  dsimp only
  unfold listErr
  by_cases he : errS l[i] = 0
  ·rw [if_pos he, if_pos he]
   by_cases ht : l[i].f0 = t
   ·rw [if_pos ht, show (l[i].f0 != t) = false from by simp [ht]]
    simp only [cx_list.j1]
    rw [if_neg (by decide), if_pos he, if_pos (show acc.length < 8796093022208 by omega), w64 (by omega)]
    rw [show (acc ++ [({ f0 := l[i].f1, f1 := l[i].f2 } : S74)]) = acc ++ [prS l[i]] from rfl, hrec]
    by_cases hz : listErr t (l.drop (i + 1)) = 0
    ·rw [if_pos hz, if_pos hz, List.map_cons, List.append_assoc]; rfl
    ·rw [if_neg hz, if_neg hz]
   ·rw [if_neg ht, show (l[i].f0 != t) = true from by simp [ht]]
    simp only [cx_list.j1]
    simp
  ·rw [if_neg he, if_neg he]
   simp only [cx_list.j1]
   rw [if_neg (by decide), if_neg he, if_neg he]
theorem list_f {t : Int} {l : List S24} (hl : ∀ x ∈ l, okS x) (hn : l.length ≤ 100) {k : Nat} (hk : 2 * l.length < k) : cx_list.f k t l = some (if listErr t l = 0 then (l.map prS, 0) else ([], listErr t l)) := by
 have h := list_l0 (t := t) hl hn l.length 0 k [] (by omega) hk (by simp)
 unfold cx_list.f
 simpa using h
theorem lerr_l0 {t : Int} {l : List S24} (hl : ∀ x ∈ l, okS x) (hn : l.length ≤ 100) : ∀ (n i k : Nat), i + n = l.length → n < k → r10_ListErr.l0 k t l (i : Int) = some (listErr t (l.drop i))
 | n, i, 0, _, h => absurd h (by omega)
 | 0, i, k + 1, hi, _ => by
  have : l.drop i = [] := List.drop_eq_nil_of_le (by omega)
  simp only [r10_ListErr.l0]
  rw [if_neg (show ¬ ((i : Int) < (l.length : Int)) by omega), this]; rfl
 | n + 1, i, k + 1, hi, hk => by
  have hlt : i < l.length := by omega
  have hx : okS l[i] := hl _ (List.getElem_mem hlt)
  have hrec := lerr_l0 (t := t) hl hn n (i + 1) k (by omega) (by omega)
  have hd : l.drop i = l[i] :: l.drop (i + 1) := List.drop_eq_getElem_cons hlt
  simp only [r10_ListErr.l0]
  rw [if_pos (show (i : Int) < (l.length : Int) by omega), if_pos (show 0 ≤ (i : Int) by omega), rd_at hlt, valueErr_f _ hx.1 hx.2, Option.bind_some, hd, w64 (by omega), hrec]
  rw [show openErrV l[i].f0 l[i].f1 l[i].f2 l[i].f3 = errS l[i] from rfl, show listErr t (l[i] :: l.drop (i + 1)) = if errS l[i] = 0 then (if l[i].f0 = t then listErr t (l.drop (i + 1)) else 27) else errS l[i] from rfl]
  by_cases he : errS l[i] = 0
  ·rw [if_pos he, if_pos he]
   by_cases ht : l[i].f0 = t
   ·rw [if_pos ht, if_pos ht]
   ·rw [if_neg ht, if_neg ht]
  ·rw [if_neg he, if_neg he]
theorem lerr_f {t : Int} {l : List S24} (hl : ∀ x ∈ l, okS x) (hn : l.length ≤ 100) {k : Nat} (hk : l.length < k) : r10_ListErr.f k t l = some (listErr t l) := by
 have h := lerr_l0 (t := t) hl hn l.length 0 k (by omega) hk
 unfold r10_ListErr.f
 simpa using h
def isP (s : Bool) (x : S24) (p : Nat × Nat) : Prop := x.f0 = ct s ∧ x.f1 = (p.1 : Int) ∧ x.f2 = (p.2 : Int) ∧ x.f3.toList = [] ∧ okP s p
inductive AreP (s : Bool) : List S24 → List (Nat × Nat) → Prop
 | nil : AreP s [] []
 | cons {x p l ps} : isP s x p → AreP s l ps → AreP s (x :: l) (p :: ps)
theorem areP_of {s : Bool} : ∀ (l : List S24), (∀ x ∈ l, okS x) → listErr (ct s) l = 0 → ∃ ps, AreP s l ps
 | [], _, _ => ⟨[], .nil⟩
 | x :: l, hl, h => by
  unfold listErr at h
  by_cases he : errS x = 0
  ·rw [if_pos he] at h
   by_cases ht : x.f0 = ct s
   ·rw [if_pos ht] at h
    obtain ⟨ps, hp⟩ := areP_of l (fun y hy => hl y (List.mem_cons_of_mem _ hy)) h
    have hx := hl x (List.mem_cons_self ..)
    obtain ⟨s', a, b, h1, h2, h3, h4, h5⟩ := open_ok hx.1 hx.2 he
    obtain rfl : s' = s := by rw [ht] at h1; cases s <;> cases s' <;> first | rfl | (exact absurd h1 (by decide))
    unfold errS at he
    rw [h1] at he
    exact ⟨(a, b) :: ps, .cons ⟨h1, h2, h3, open_text he, h4, h5⟩ hp⟩
   ·rw [if_neg ht] at h; exact absurd h (by decide)
  ·rw [if_neg he] at h; exact absurd h he
def em (p : Nat × Nat) : S74 := ⟨(p.1 : Int), (p.2 : Int)⟩
theorem AreP.map {s : Bool} {l : List S24} {ps : List (Nat × Nat)} (h : AreP s l ps) : l.map prS = ps.map em := by
 induction h with
 | nil => rfl
 | cons hx _ ih =>
  rw [List.map_cons, List.map_cons, ih]
  congr 1
  unfold prS em
  rw [hx.2.1, hx.2.2.1]
theorem AreP.ok {s : Bool} {l : List S24} {ps : List (Nat × Nat)} (h : AreP s l ps) : ∀ p ∈ ps, okP s p := by
 induction h with
 | nil => intro p hp; cases hp
 | cons hx _ ih =>
  intro p hp
  rcases List.mem_cons.1 hp with rfl | hp
  ·exact hx.2.2.2.2
  ·exact ih p hp
theorem AreP.len {s : Bool} {l : List S24} {ps : List (Nat × Nat)} (h : AreP s l ps) : l.length = ps.length := by
 induction h with
 | nil => rfl
 | cons _ _ ih => rw [List.length_cons, List.length_cons, ih]
theorem AreP.get {s : Bool} {l : List S24} {ps : List (Nat × Nat)} (h : AreP s l ps) : ∀ (i : Nat) (h1 : i < l.length) (h2 : i < ps.length), isP s l[i] ps[i] := by
 induction h with
 | nil => intro i h1 h2; cases h1
 | cons hx _ ih =>
  intro i h1 h2
  cases i with
  | zero => exact hx
  | succ i => exact ih i (by simpa using h1) (by simpa using h2)
theorem plusP_ok {s : Bool} {p q : Nat × Nat} (hp : okP s p) (hq : okP s q) : okP s (plusP s p q) := ⟨addR_lt hp.1 hq.1, addR_lt hp.2 hq.2⟩
theorem fplus {s : Bool} {p q : Nat × Nat} (hp : okP s p) (hq : okP s q) : fd_plus.f (tv s) (p.1 : Int) (p.2 : Int) (q.1 : Int) (q.2 : Int) = some (((plusP s p q).1 : Int), ((plusP s p q).2 : Int)) := by
 unfold fd_plus.f plusP
 rw [fadd hp.1 hq.1, Option.bind_some, fadd hp.2 hq.2, Option.bind_some]
def sumP (s : Bool) : List (Nat × Nat) → Nat × Nat
 | [] => (0, 0)
 | p :: l => l.foldl (plusP s) p
theorem fsum_l0 {s : Bool} {ps : List (Nat × Nat)} (hl : ∀ p ∈ ps, okP s p) (hn : ps.length ≤ 100) : ∀ (n i k : Nat) (p : Nat × Nat), i + n = ps.length → n < k → okP s p →
  fd_sum.l0 k (tv s) (ps.map em) ((ps.map em).length : Int) (i : Int) (p.1 : Int) (p.2 : Int) = some ((((ps.drop i).foldl (plusP s) p).1 : Int), (((ps.drop i).foldl (plusP s) p).2 : Int))
 | n, i, 0, _, _, h, _ => absurd h (by omega)
 | 0, i, k + 1, p, hi, _, _ => by
  have : ps.drop i = [] := List.drop_eq_nil_of_le (by omega)
  simp only [fd_sum.l0, List.length_map]
  rw [if_neg (show ¬ ((i : Int) < (ps.length : Int)) by omega), this]; rfl
 | n + 1, i, k + 1, p, hi, hk, hp => by
  have hlt : i < ps.length := by omega
  have hq : okP s ps[i] := hl _ (List.getElem_mem hlt)
  have hrec := fsum_l0 hl hn n (i + 1) k (plusP s p ps[i]) (by omega) (by omega) (plusP_ok hp hq)
  have hd : ps.drop i = ps[i] :: ps.drop (i + 1) := List.drop_eq_getElem_cons hlt
  simp only [List.length_map] at hrec
  simp only [fd_sum.l0, List.length_map]
  have hr : rd_T74 (ps.map em) (i : Int) = em ps[i] := by rw [rd_at7 (by simpa using hlt)]; simp
  rw [if_pos (show (i : Int) < (ps.length : Int) by omega), if_pos (show 0 ≤ (i : Int) by omega), if_pos (show (i : Int) < (ps.length : Int) by omega), hr]
  rw [show fd_plus.f (tv s) (p.1 : Int) (p.2 : Int) (em ps[i]).f0 (em ps[i]).f1 = _ from fplus hp hq, Option.bind_some, w64 (by omega), hd]
  exact hrec
theorem fsum_f {s : Bool} {ps : List (Nat × Nat)} (hl : ∀ p ∈ ps, okP s p) (hn : ps.length ≤ 100) {k : Nat} (hk : ps.length < k) : fd_sum.f k (tv s) (ps.map em) = some (((sumP s ps).1 : Int), ((sumP s ps).2 : Int)) := by
 unfold fd_sum.f
 cases ps with
 | nil => rfl
 | cons p l =>
  have hlen : ((((p :: l).map em).length : Nat) : Int) = (l.length : Int) + 1 := by simp
  rw [hlen, if_neg (by omega), if_pos (by omega), if_pos (by omega), Option.bind_some]
  have h0 := fsum_l0 (s := s) (ps := l) (fun q hq => hl q (List.mem_cons_of_mem _ hq)) (by simp at hn; omega) l.length 0 k p (by omega) (by simp at hk; omega) (hl p (List.mem_cons_self ..))
  exact h0
theorem rplus {s : Bool} {p q : Nat × Nat} (S S' : ByteArray) (hp : okP s p) (hq : okP s q) : r10_Add.f (ct s) (p.1 : Int) (p.2 : Int) S (ct s) (q.1 : Int) (q.2 : Int) S' = some (ct s, ((plusP s p q).1 : Int), ((plusP s p q).2 : Int), NB) := by
 unfold r10_Add.f plusP
 rw [rpart, Option.bind_some, radd hp.1 hq.1, Option.bind_some, radd hp.2 hq.2, Option.bind_some]; rfl
theorem rsum_l0 {s : Bool} {l : List S24} {ps : List (Nat × Nat)} (h : AreP s l ps) (hn : l.length ≤ 100) : ∀ (n i k : Nat) (p : Nat × Nat) (R : ByteArray), i + n = ps.length → n < k → okP s p → R.toList = [] →
  ∃ R' : ByteArray, R'.toList = [] ∧ r10_Sum.l0 k l (i : Int) (ct s) (p.1 : Int) (p.2 : Int) R = some (ct s, (((ps.drop i).foldl (plusP s) p).1 : Int), (((ps.drop i).foldl (plusP s) p).2 : Int), R')
 | n, i, 0, _, _, _, h, _, _ => absurd h (by omega)
 | 0, i, k + 1, p, R, hi, _, _, hR => by
  have hd : ps.drop i = [] := List.drop_eq_nil_of_le (by omega)
  have hlen := h.len
  refine ⟨R, hR, ?_⟩
  simp only [r10_Sum.l0]
  rw [if_neg (show ¬ ((i : Int) < (l.length : Int)) by omega), hd]; rfl
 | n + 1, i, k + 1, p, R, hi, hk, hp, hR => by
  have hlen := h.len
  have hlt : i < ps.length := by omega
  have hlt2 : i < l.length := by omega
  have hq := h.get i hlt2 hlt
  obtain ⟨q1, q2, q3, q4, q5⟩ := hq
  obtain ⟨R', hR', hrec⟩ := rsum_l0 h hn n (i + 1) k (plusP s p ps[i]) NB (by omega) (by omega) (plusP_ok hp q5) nb_text
  have hd : ps.drop i = ps[i] :: ps.drop (i + 1) := List.drop_eq_getElem_cons hlt
  refine ⟨R', hR', ?_⟩
  simp only [r10_Sum.l0]
  rw [if_pos (show (i : Int) < (l.length : Int) by omega), if_pos (show 0 ≤ (i : Int) by omega), rd_at hlt2, q1, q2, q3, rplus R l[i].f3 hp q5, Option.bind_some, w64 (by omega), hd]
  exact hrec
theorem rsum_f {s : Bool} {l : List S24} {ps : List (Nat × Nat)} (h : AreP s l ps) (hn : l.length ≤ 100) {k : Nat} (hk : ps.length < k) : ∃ R : ByteArray, R.toList = [] ∧ r10_Sum.f k (ct s) l = some (ct s, ((sumP s ps).1 : Int), ((sumP s ps).2 : Int), R) := by
 unfold r10_Sum.f
 cases h with
 | nil => exact ⟨NB, nb_text, rfl⟩
 | @cons x p l ps hx hl =>
  obtain ⟨q1, q2, q3, q4, q5⟩ := hx
  have hlen : (((x :: l).length : Nat) : Int) = (l.length : Int) + 1 := by simp
  have hx0 : rd_T24 (x :: l) 0 = x := rfl
  rw [hlen, if_neg (by omega), if_pos (by omega), hx0, q1, q2, q3]
  obtain ⟨R, hR, h0⟩ := rsum_l0 (AreP.cons ⟨q1, q2, q3, q4, q5⟩ hl) hn ps.length 1 k p x.f3 (by simp; omega) (by simp at hk; omega) q5 q4
  exact ⟨R, hR, h0⟩
end Go.Proofs.YtmoimcblmmcffaaGreat.PLS

namespace Go.Proofs.YtmoimcblmmcffaaGreat.PLS
open Go.RowKit B NC N PPC PRA Go.Proofs.YtmoimcblmmcffaaGreatW.PrintWords
set_option linter.unusedSimpArgs false
set_option linter.unusedVariables false
def dotL (s : Bool) (ps qs : List (Nat × Nat)) : List (Nat × Nat) := List.zipWith (fun p q => timesP s (conjP s p) q) ps qs
theorem conjP_ok {s : Bool} {p : Nat × Nat} (hp : okP s p) : okP s (conjP s p) := ⟨hp.1, negR_lt _⟩
theorem fconj {s : Bool} {p : Nat × Nat} (hp : okP s p) : fd_conjugate.f (tv s) (p.1 : Int) (p.2 : Int) = some (((conjP s p).1 : Int), ((conjP s p).2 : Int)) := by
 unfold fd_conjugate.f conjP
 rw [fnegated hp.2, Option.bind_some]
theorem dot_l0 {s : Bool} {ps qs : List (Nat × Nat)} (hlen : ps.length = qs.length) (hp : ∀ p ∈ ps, okP s p) (hq : ∀ q ∈ qs, okP s q) (hn : ps.length ≤ 100) : ∀ (n i k : Nat) (cur : List (Nat × Nat)), i + n = ps.length → 102 + n < k → cur.length = ps.length → cur.drop i = ps.drop i → (∀ p ∈ cur.take i, okP s p) →
  cx_DotOf.l0 k (tv s) (cur.map em) (qs.map em) (ps.length : Int) (i : Int) = some (ct s, ((sumP s (cur.take i ++ dotL s (ps.drop i) (qs.drop i))).1 : Int), ((sumP s (cur.take i ++ dotL s (ps.drop i) (qs.drop i))).2 : Int), NB, 0)
 | n, i, 0, _, _, h, _, _, _ => absurd h (by omega)
 | 0, i, k + 1, cur, hi, hk, hc, hd, ht => by
  have e1 : ps.drop i = [] := List.drop_eq_nil_of_le (by omega)
  have e2 : qs.drop i = [] := List.drop_eq_nil_of_le (by omega)
  have e3 : cur.take i = cur := List.take_of_length_le (by omega)
  rw [e3] at ht ⊢
  rw [e1, e2, show dotL s [] [] = [] from rfl, List.append_nil]
  have hs := fsum_f (s := s) (ps := cur) ht (by omega) (k := k) (by omega)
  simp only [cx_DotOf.l0]
  rw [if_neg (show ¬ ((i : Int) < (ps.length : Int)) by omega), hs, Option.bind_some]
  dsimp only
  rw [fvalue, Option.bind_some]
 | n + 1, i, k + 1, cur, hi, hk, hc, hd, ht => by
  have hlt : i < ps.length := by omega
  have hlt2 : i < qs.length := by omega
  have hlt3 : i < cur.length := by omega
  have d1 : ps.drop i = ps[i] :: ps.drop (i + 1) := List.drop_eq_getElem_cons hlt
  have d2 : qs.drop i = qs[i] :: qs.drop (i + 1) := List.drop_eq_getElem_cons hlt2
  have d3 : cur.drop i = cur[i] :: cur.drop (i + 1) := List.drop_eq_getElem_cons hlt3
  rw [d3, d1] at hd
  injection hd with hd1 hd2
  have okp : okP s ps[i] := hp _ (List.getElem_mem hlt)
  have okq : okP s qs[i] := hq _ (List.getElem_mem hlt2)
  have okz : okP s (timesP s (conjP s ps[i]) qs[i]) := timesP_ok (conjP_ok okp) okq
  obtain ⟨z, hz⟩ : ∃ z, z = timesP s (conjP s ps[i]) qs[i] := ⟨_, rfl⟩
  rw [← hz] at okz
  have t1 : (cur.set i z).take (i + 1) = cur.take i ++ [z] := by
   rw [List.take_succ_eq_append_getElem (by simpa using hlt3)]
   simp [List.take_set_of_le]
  have hrec := dot_l0 hlen hp hq hn n (i + 1) k (cur.set i z) (by omega) (by omega) (by simpa using hc) (by rw [List.drop_set_of_lt (by omega)]; exact hd2) (by
   rw [t1]
   intro p hp'
   rcases List.mem_append.1 hp' with h | h
   ·exact ht p h
   ·rw [List.mem_singleton.1 h]; exact okz)
  rw [t1, List.append_assoc] at hrec
  have hr1 : rd_T74 (cur.map em) (i : Int) = em ps[i] := by rw [rd_at7 (by simpa using hlt3)]; simp [hd1]
  have hr2 : rd_T74 (qs.map em) (i : Int) = em qs[i] := by rw [rd_at7 (by simpa using hlt2)]; simp
  have hset : (cur.map em).set ((i : Int)).toNat (⟨((timesP s (conjP s ps[i]) qs[i]).1 : Int), ((timesP s (conjP s ps[i]) qs[i]).2 : Int)⟩ : S74) = (cur.set i z).map em := by
   rw [List.map_set, hz, Int.toNat_natCast]; rfl
  simp only [cx_DotOf.l0]
  rw [if_pos (show (i : Int) < (ps.length : Int) by omega), if_pos (show 0 ≤ (i : Int) by omega), if_pos (show (i : Int) < ((cur.map em).length : Int) by simp; omega), hr1]
  rw [show fd_conjugate.f (tv s) (em ps[i]).f0 (em ps[i]).f1 = _ from fconj okp, Option.bind_some, if_pos (show (i : Int) < ((qs.map em).length : Int) by simp; omega), hr2]
  dsimp only
  rw [show fd_times.f (tv s) ((conjP s ps[i]).1 : Int) ((conjP s ps[i]).2 : Int) (em qs[i]).f0 (em qs[i]).f1 = _ from ftimes (conjP_ok okp) okq, Option.bind_some]
  dsimp only
  rw [hset, w64 (by omega), hrec, d1, d2]
  have : dotL s (ps[i] :: ps.drop (i + 1)) (qs[i] :: qs.drop (i + 1)) = [z] ++ dotL s (ps.drop (i + 1)) (qs.drop (i + 1)) := by rw [hz]; rfl
  rw [this]
theorem AreP.snoc {s : Bool} {l : List S24} {ps : List (Nat × Nat)} {x : S24} {p : Nat × Nat} (h : AreP s l ps) (hx : isP s x p) : AreP s (l ++ [x]) (ps ++ [p]) := by
 induction h with
 | nil => exact .cons hx .nil
 | cons hy _ ih => exact .cons hy ih
theorem rconj {s : Bool} {p : Nat × Nat} (S : ByteArray) (hp : okP s p) : r10_Conjugate.f (ct s) (p.1 : Int) (p.2 : Int) S = some (ct s, ((conjP s p).1 : Int), ((conjP s p).2 : Int), NB) := by
 have hneg : r8_Negated.f (tv s) (p.2 : Int) = some ((negR s p.2 : Nat) : Int) := on1_tv hp.2
 unfold r10_Conjugate.f
 rw [rpart, Option.bind_some, hneg, Option.bind_some]; rfl
theorem rtimes {s : Bool} {p q : Nat × Nat} (S S' : ByteArray) (hp : okP s p) (hq : okP s q) : r10_Mul.f (ct s) (p.1 : Int) (p.2 : Int) S (ct s) (q.1 : Int) (q.2 : Int) S' = some (ct s, ((timesP s p q).1 : Int), ((timesP s p q).2 : Int), NB) := by
 unfold r10_Mul.f timesP
 rw [rpart, Option.bind_some, rmul hp.1 hq.1, Option.bind_some, rmul hp.2 hq.2, Option.bind_some, rsub (mulR_lt hp.1 hq.1) (mulR_lt hp.2 hq.2), Option.bind_some, rmul hp.1 hq.2, Option.bind_some, rmul hp.2 hq.1, Option.bind_some, radd (mulR_lt hp.1 hq.2) (mulR_lt hp.2 hq.1), Option.bind_some]
 rfl
theorem rdot_l0 {s : Bool} {l m : List S24} {ps qs : List (Nat × Nat)} (hl : AreP s l ps) (hm : AreP s m qs) (hlen : ps.length = qs.length) (hn : ps.length ≤ 100) : ∀ (n i k : Nat) (acc : List S24) (zs : List (Nat × Nat)), i + n = ps.length → 102 + n < k → AreP s acc zs → zs.length = i →
  ∃ R : ByteArray, R.toList = [] ∧ r10_Dot.l0 k (ct s) l m acc (i : Int) = some (ct s, ((sumP s (zs ++ dotL s (ps.drop i) (qs.drop i))).1 : Int), ((sumP s (zs ++ dotL s (ps.drop i) (qs.drop i))).2 : Int), R)
 | n, i, 0, _, _, _, h, _, _ => absurd h (by omega)
 | 0, i, k + 1, acc, zs, hi, hk, ha, hz => by
  have e1 : ps.drop i = [] := List.drop_eq_nil_of_le (by omega)
  have e2 : qs.drop i = [] := List.drop_eq_nil_of_le (by omega)
  have h1 := hl.len
  obtain ⟨R, hR, h⟩ := rsum_f ha (by have := ha.len; omega) (k := k) (by omega)
  refine ⟨R, hR, ?_⟩
  simp only [r10_Dot.l0]
  rw [if_neg (show ¬ ((i : Int) < (l.length : Int)) by omega), h, Option.bind_some, e1, e2, show dotL s [] [] = [] from rfl, List.append_nil]
 | n + 1, i, k + 1, acc, zs, hi, hk, ha, hz => by
  have h1 := hl.len
  have h2 := hm.len
  have h3 := ha.len
  have hlt : i < ps.length := by omega
  have hlt2 : i < qs.length := by omega
  obtain ⟨a1, a2, a3, a4, a5⟩ := hl.get i (by omega) hlt
  obtain ⟨b1, b2, b3, b4, b5⟩ := hm.get i (by omega) hlt2
  have d1 : ps.drop i = ps[i] :: ps.drop (i + 1) := List.drop_eq_getElem_cons hlt
  have d2 : qs.drop i = qs[i] :: qs.drop (i + 1) := List.drop_eq_getElem_cons hlt2
  have okz : okP s (timesP s (conjP s ps[i]) qs[i]) := timesP_ok (conjP_ok a5) b5
  obtain ⟨R, hR, hrec⟩ := rdot_l0 hl hm hlen hn n (i + 1) k (acc ++ [(⟨ct s, ((timesP s (conjP s ps[i]) qs[i]).1 : Int), ((timesP s (conjP s ps[i]) qs[i]).2 : Int), NB⟩ : S24)]) (zs ++ [timesP s (conjP s ps[i]) qs[i]]) (by omega) (by omega) (ha.snoc ⟨rfl, rfl, rfl, nb_text, okz⟩) (by simp; omega)
  refine ⟨R, hR, ?_⟩
  simp only [r10_Dot.l0]
  rw [if_pos (show (i : Int) < (l.length : Int) by omega), if_pos (show 0 ≤ (i : Int) by omega), rd_at (show i < l.length by omega), a1, a2, a3, rconj _ a5, Option.bind_some, if_pos (show (i : Int) < (m.length : Int) by omega), rd_at (show i < m.length by omega), b1, b2, b3]
  dsimp only
  rw [rtimes NB _ (conjP_ok a5) b5, Option.bind_some, if_pos (show acc.length < 3518437208883 by omega), w64 (by omega), hrec, d1, d2, List.append_assoc]
  rfl
end Go.Proofs.YtmoimcblmmcffaaGreat.PLS

namespace Go.Proofs.YtmoimcblmmcffaaGreat.PLS
open Go.RowKit Go.Proofs.YtmoimcblmmcffaaGreat.PPC Go.Proofs.YtmoimcblmmcffaaGreat.PRA Go.Proofs.YtmoimcblmmcffaaGreat.PN Go.Proofs.YtmoimcblmmcffaaGreatW.PrintWords Go.Proofs.YtmoimcblmmcffaaGreatW.PrintLast Go.Proofs.YtmoimcblmmcffaaGreatW.PrintMore Go.Proofs.YtmoimcblmmcffaaGreatW.PrintZ
attribute [local go_sem] max2_int min2_int max_two min_two max_three min_three max_four min_four   -- for this text's walks alone
set_option linter.unusedVariables false
set_option linter.unusedSimpArgs false
theorem eqA24 (d : Nat) (w : World) (x0 y0 : Int) (x1 y1 : Int) (x2 y2 : Int) (x3 y3 : ByteArray) :
  (Op.equalIn (d + 2) 24 (.agg #[.int .i64 x0, .int .u64 x1, .int .u64 x2, .string x3]) (.agg #[.int .i64 y0, .int .u64 y1, .int .u64 y2, .string y3])).run Tryz.prog w = .ok (x0 == y0 && (x1 == y1 && (x2 == y2 && (x3.toList == y3.toList)))) w := by
 refine eqA_of Tryz.underlying24 (by kernel_rfl) ?_
 refine eqf_cons (by rfl) (by go_simp; rfl) (by go_simp; rfl) (by go_simp) ?_
 refine eqf_cons (by rfl) (by go_simp; rfl) (by go_simp; rfl) (by go_simp) ?_
 refine eqf_cons (by rfl) (by go_simp; rfl) (by go_simp; rfl) (by go_simp) ?_
 exact eqf_last (by rfl) (by go_simp; rfl) (by go_simp; rfl) (by go_simp)
end Go.Proofs.YtmoimcblmmcffaaGreat.PLS
