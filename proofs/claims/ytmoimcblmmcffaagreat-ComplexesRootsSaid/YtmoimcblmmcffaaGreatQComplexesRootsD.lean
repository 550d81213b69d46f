/- Contracts and plain laws that the law ComplexesRoots leans on (texts joined by program; what it does not come to is left out). -/
import Derived.Test.YtmoimcblmmcffaaGreatQComplexesRootsA
import Derived.Test.YtmoimcblmmcffaaGreatQComplexesRootsC

namespace Go.Proofs.YtmoimcblmmcffaaGreat.PN
open Go.RowKit Go.Proofs.YtmoimcblmmcffaaGreatW.PrintWords Go.Proofs.YtmoimcblmmcffaaGreatW.PrintLast Go.Proofs.YtmoimcblmmcffaaGreatW.PrintMore Go.Proofs.YtmoimcblmmcffaaGreatW.PrintZ
attribute [local go_sem] max2_int min2_int max_two min_two max_three min_three max_four min_four   -- for this text's walks alone
set_option linter.unusedVariables false
set_option linter.unusedSimpArgs false
def r8_Root.l0 : Nat → List Int → List Int → Int → Option (List Int × Bool)
 | 0, _, _, _ => none
 | k + 1, x0, x4, x5 => if x5 ≥ 0 then ((r8_Left.f k (([1] : List Int)) x5).bind fun t163 => ((r8_Plus.f k x4 t163).bind fun t166 => ((r8_Times.f k t166 t166).bind fun t169 => ((r8_Order.f k t169 x0).bind fun t172 => (if t172 ≤ 0 then (r8_Root.l0 k x0 t166 (wrap64 (x5 - 1))) else (r8_Root.l0 k x0 x4 (wrap64 (x5 - 1)))))))) else ((r8_Times.f k x4 x4).bind fun t156 => ((r8_Order.f k t156 x0).bind fun t159 => (some (x4, (t159 != 0)))))
def r8_Root.f (k : Nat) (l0 : List Int) : Option (List Int × Bool) := (r8_Length.f k l0).bind fun t155 => (r8_Root.l0 k l0 ([] : List Int) (wrap64 ((wrap64 (Int.tdiv t155 2)) + 1)))
set_option maxHeartbeats 8000000 in
set_option maxRecDepth 100000 in
theorem r8_Root.calls (k : Nat) (A0 : Option Addr) (c0 : Nat) (l0 : List Int) (r1 : List Int) (r2 : Bool) (w : World) (hr0 : Kd.C (Kd.int .i64) w A0 l0.length l0) (hc0 : l0.length ≤ c0) (h : r8_Root.f k l0 = some (r1, r2)) :
  Calls Tryz.prog 125 #[.slice A0 l0.length c0] w fun e w' => ∃ v0_ : Value, e = .returned (.tuple #[v0_, .bool r2]) ∧ Kd.R (Kd.int .i64) 3 w' w.heap.size (fun _ => True) v0_ r1 ∧ Below w.heap.size w w' := by
 have HR0 := Zs.mk hr0
 have HC0 := Zs.mk hc0
 clear hr0 hc0
 have HB := Zs.mk (Below.refl w.heap.size w)
 have H : ((r8_Length.f k l0).bind fun t155 => (r8_Root.l0 k l0 ([] : List Int) (wrap64 ((wrap64 (Int.tdiv t155 2)) + 1)))) = some (r1, r2) := h
 clear h
 replace H := Option.bind_eq_some_iff.mp H
 obtain ⟨t155, A2, H⟩ := H
 try dsimp only at H
 replace A2 := Zs.mk A2
 have H' := Zs.mk H
 clear H
 go_enter Tryz.func125, Tryz.ntmps125
 go_wp2_with (first | ((with_reducible refine gc_ (f := 113) rfl ?_); refine gL 8 Tryz.func113 #[.slice A0 l0.length c0] ?_; (with_reducible refine (r8_Length.calls k _ _ l0 t155 _ ?side1 ?side2 A2.out).mono ?_); (case side1 => repeat (first | exact HR0.out | (with_reducible refine Kd.C_alloc ?_ _) | (with_reducible refine Kd.C_drewN ?_ _) | (with_reducible refine Kd.C_drew ?_))); (case side2 => exact HC0.out); rintro e w' ⟨rfl, ⟨nd, rfl⟩⟩; refine ⟨_, rfl, ?_⟩))
 go_loopg [4, 5] k (fun kq v4 v5 w' => ∃ (x4_1 : List Int) (x5_1 : Int), v5 = .int .i64 x5_1 ∧ Zs (r8_Root.l0 kq l0 x4_1 x5_1 = some (r1, r2)) ∧ Zs (kq ≤ k) ∧ Zs (Kd.R (Kd.int .i64) 3 w' w.heap.size (fun _ => True) v4 x4_1) ∧ Zs (Below w.heap.size w w'))
 case atStart => exact ⟨(([] : List Int)), (wrap64 ((wrap64 (Int.tdiv t155 2)) + 1)), (by first | rfl | (simp; done) | (simp [*]; done)), H', ⟨Nat.le_refl _⟩, ⟨by first | exact Kd.R_nil _ _ _ _ _ | exact Kd.N_nil _ _ _ _ _ | exact Kd.V_nil _ _ _ _ _ | exact Kd.Q_nil _ _ _ _ _ | exact Kd.S_nil _ _ _ _ _⟩, blt HB⟩
 case round =>
  clear H'
  try clear c1
  try clear p2
  obtain ⟨x4_1, x5_1, rfl, HA, HK1, HO_4, HB⟩ := hrel
  cases gk with
  | zero => exact absurd HA.out (by simp [r8_Root.l0])
  | succ k1 =>
   have H := HA.out
   clear HA
   simp only [r8_Root.l0] at H
   by_cases c3 : x5_1 ≥ 0
   ·rw [if_pos c3] at H
    have c3b0 : decide (0 ≤ x5_1) = true := decide_eq_true c3
    clear c3
    obtain ⟨y160, hy160⟩ : ∃ y_ : List Int, y_ = (([1] : List Int)) := ⟨_, rfl⟩
    replace H : ((r8_Left.f k1 y160 x5_1).bind fun t163 => ((r8_Plus.f k1 x4_1 t163).bind fun t166 => ((r8_Times.f k1 t166 t166).bind fun t169 => ((r8_Order.f k1 t169 l0).bind fun t172 => (if t172 ≤ 0 then (r8_Root.l0 k1 l0 t166 (wrap64 (x5_1 - 1))) else (r8_Root.l0 k1 l0 x4_1 (wrap64 (x5_1 - 1)))))))) = some (r1, r2) := by first | (rw [hy160]; with_reducible exact H) | (have H2_ := (Option.bind_some _ _).symm.trans H; rw [hy160]; with_reducible exact H2_) | (have H2_ := (Option.bind_some _ _).symm.trans H; with_reducible exact H2_) | with_reducible exact H | (rw [hy160]; exact H) | exact H
    have Ny160 := Zs.mk hy160
    clear hy160
    replace H := Option.bind_eq_some_iff.mp H
    obtain ⟨t163, A4, H⟩ := H
    try dsimp only at H
    replace A4 := Zs.mk A4
    replace H := Option.bind_eq_some_iff.mp H
    obtain ⟨t166, A5, H⟩ := H
    try dsimp only at H
    replace A5 := Zs.mk A5
    replace H := Option.bind_eq_some_iff.mp H
    obtain ⟨t169, A6, H⟩ := H
    try dsimp only at H
    replace A6 := Zs.mk A6
    replace H := Option.bind_eq_some_iff.mp H
    obtain ⟨t172, A7, H⟩ := H
    try dsimp only at H
    replace A7 := Zs.mk A7
    by_cases c8 : t172 ≤ 0
    ·rw [if_pos c8] at H
     have c8b0 : decide (t172 ≤ 0) = true := decide_eq_true c8
     clear c8
     have H' := Zs.mk H
     clear H
     go_wp2_with (first | ((with_reducible refine gd_ (N := 16) rfl ?_); refine Kd.R_lit (Kd.int .i64) _ 3 ?hg (N := 16) ?hd (xs := ([1] : List Int)) (inner := [.int .i64 1]) (ok := fun _ => True) (okp := fun _ => True) ?hr ?hp (fun _ hk => hk) trivial (Below.refl _ _) (Nat.le_refl _) (by simp) ?_; (case hd => rfl); (case hg => rfl); (case hr => first | (go_simp; done) | (go_simp; rfl)); (case hp => exact (Reps.one (show Kd.M (Kd.int .i64) _ _ _ 1 [.int .i64 1] from rfl) (Reps.none _ _))); intro v161 w9 ho10 hb hg_ hnew_; clear hg_ hnew_; (first | rw [← Ny160.out] at ho10 | (simp only [Int.reduceToNat] at ho10; rw [← Ny160.out] at ho10)); have HO162 := Zs.mk (Kd.R_lower (Kd.R_new' ho10 (Kd.R_lt (by (with_reducible repeat (first | apply Kd.R_alloc | apply Kd.R_drewN | apply Kd.R_drew)); exact HO_4.out))) (below_size (blt HB).out)); replace HO_4 := Zs.mk (Kd.R_elder' (by (with_reducible repeat (first | apply Kd.R_alloc | apply Kd.R_drewN | apply Kd.R_drew)); exact HO_4.out) (Kd.R_base ho10) hb); replace HB := bls HB hb; clear hb ho10; obtain ⟨Ao11, co11, eo11⟩ := Kd.R_slice HO162.out; subst eo11) | ((with_reducible refine gc_ (f := 110) rfl ?_); refine gL 18 Tryz.func110 #[.slice Ao11 y160.length co11, .int .i64 x5_1] ?_; (with_reducible refine (r8_Left.calls k1 _ _ y160 x5_1 t163 _ ?side1 ?side2 A4.out).mono ?_); (case side1 => repeat (first | exact (Kd.R_reads' HO162.out).2.2 | (with_reducible refine Kd.C_alloc ?_ _) | (with_reducible refine Kd.C_drewN ?_ _) | (with_reducible refine Kd.C_drew ?_))); (case side2 => exact (Kd.R_reads' HO162.out).2.1); rintro e w12 ⟨v164, rfl, ho0, hb⟩; refine ⟨_, rfl, ?_⟩; have HO165 := Zs.mk (Kd.R_lower (Kd.R_new' (Kd.R_new' ho0 (Kd.R_lt (by (with_reducible repeat (first | apply Kd.R_alloc | apply Kd.R_drewN | apply Kd.R_drew)); exact HO_4.out))) (Kd.R_lt (by (with_reducible repeat (first | apply Kd.R_alloc | apply Kd.R_drewN | apply Kd.R_drew)); exact HO162.out))) (below_size (blt HB).out)); replace HO_4 := Zs.mk (Kd.R_elder' (by (with_reducible repeat (first | apply Kd.R_alloc | apply Kd.R_drewN | apply Kd.R_drew)); exact HO_4.out) (Kd.R_base ho0) hb); replace HO162 := Zs.mk (Kd.R_elder' (by (with_reducible repeat (first | apply Kd.R_alloc | apply Kd.R_drewN | apply Kd.R_drew)); exact HO162.out) (Kd.R_base ho0) hb); replace HB := bls HB hb; (try clear hb); (try clear hb2); (try clear hk); (try clear hi); (try clear ho0); obtain ⟨Ao13, co13, eo13⟩ := Kd.R_slice HO_4.out; subst eo13; obtain ⟨Ao14, co14, eo14⟩ := Kd.R_slice HO165.out; subst eo14) | ((with_reducible refine gc_ (f := 112) rfl ?_); refine gL 19 Tryz.func112 #[.slice Ao13 x4_1.length co13, .slice Ao14 t163.length co14] ?_; (with_reducible refine (r8_Plus.calls k1 _ _ x4_1 _ _ t163 t166 _ ?side1 ?side2 ?side3 ?side4 A5.out).mono ?_); (case side1 => repeat (first | exact (Kd.R_reads' HO_4.out).2.2 | (with_reducible refine Kd.C_alloc ?_ _) | (with_reducible refine Kd.C_drewN ?_ _) | (with_reducible refine Kd.C_drew ?_))); (case side2 => exact (Kd.R_reads' HO_4.out).2.1); (case side3 => repeat (first | exact (Kd.R_reads' HO165.out).2.2 | (with_reducible refine Kd.C_alloc ?_ _) | (with_reducible refine Kd.C_drewN ?_ _) | (with_reducible refine Kd.C_drew ?_))); (case side4 => exact (Kd.R_reads' HO165.out).2.1); rintro e w15 ⟨v167, rfl, ho0, hb⟩; refine ⟨_, rfl, ?_⟩; have HO168 := Zs.mk (Kd.R_lower (Kd.R_new' (Kd.R_new' (Kd.R_new' ho0 (Kd.R_lt (by (with_reducible repeat (first | apply Kd.R_alloc | apply Kd.R_drewN | apply Kd.R_drew)); exact HO_4.out))) (Kd.R_lt (by (with_reducible repeat (first | apply Kd.R_alloc | apply Kd.R_drewN | apply Kd.R_drew)); exact HO162.out))) (Kd.R_lt (by (with_reducible repeat (first | apply Kd.R_alloc | apply Kd.R_drewN | apply Kd.R_drew)); exact HO165.out))) (below_size (blt HB).out)); replace HO_4 := Zs.mk (Kd.R_elder' (by (with_reducible repeat (first | apply Kd.R_alloc | apply Kd.R_drewN | apply Kd.R_drew)); exact HO_4.out) (Kd.R_base ho0) hb); replace HO162 := Zs.mk (Kd.R_elder' (by (with_reducible repeat (first | apply Kd.R_alloc | apply Kd.R_drewN | apply Kd.R_drew)); exact HO162.out) (Kd.R_base ho0) hb); replace HO165 := Zs.mk (Kd.R_elder' (by (with_reducible repeat (first | apply Kd.R_alloc | apply Kd.R_drewN | apply Kd.R_drew)); exact HO165.out) (Kd.R_base ho0) hb); replace HB := bls HB hb; (try clear hb); (try clear hb2); (try clear hk); (try clear hi); (try clear ho0); obtain ⟨Ao16, co16, eo16⟩ := Kd.R_slice HO168.out; subst eo16) | ((with_reducible refine gc_ (f := 108) rfl ?_); refine gL 22 Tryz.func108 #[.slice Ao16 t166.length co16, .slice Ao16 t166.length co16] ?_; (with_reducible refine (r8_Times.calls k1 _ _ t166 _ _ t166 t169 _ ?side1 ?side2 ?side3 ?side4 A6.out).mono ?_); (case side1 => repeat (first | exact (Kd.R_reads' HO168.out).2.2 | (with_reducible refine Kd.C_alloc ?_ _) | (with_reducible refine Kd.C_drewN ?_ _) | (with_reducible refine Kd.C_drew ?_))); (case side2 => exact (Kd.R_reads' HO168.out).2.1); (case side3 => repeat (first | exact (Kd.R_reads' HO168.out).2.2 | (with_reducible refine Kd.C_alloc ?_ _) | (with_reducible refine Kd.C_drewN ?_ _) | (with_reducible refine Kd.C_drew ?_))); (case side4 => exact (Kd.R_reads' HO168.out).2.1); rintro e w17 ⟨v170, rfl, ho0, hb⟩; refine ⟨_, rfl, ?_⟩; have HO171 := Zs.mk (Kd.R_lower (Kd.R_new' (Kd.R_new' (Kd.R_new' (Kd.R_new' ho0 (Kd.R_lt (by (with_reducible repeat (first | apply Kd.R_alloc | apply Kd.R_drewN | apply Kd.R_drew)); exact HO_4.out))) (Kd.R_lt (by (with_reducible repeat (first | apply Kd.R_alloc | apply Kd.R_drewN | apply Kd.R_drew)); exact HO162.out))) (Kd.R_lt (by (with_reducible repeat (first | apply Kd.R_alloc | apply Kd.R_drewN | apply Kd.R_drew)); exact HO165.out))) (Kd.R_lt (by (with_reducible repeat (first | apply Kd.R_alloc | apply Kd.R_drewN | apply Kd.R_drew)); exact HO168.out))) (below_size (blt HB).out)); replace HO_4 := Zs.mk (Kd.R_elder' (by (with_reducible repeat (first | apply Kd.R_alloc | apply Kd.R_drewN | apply Kd.R_drew)); exact HO_4.out) (Kd.R_base ho0) hb); replace HO162 := Zs.mk (Kd.R_elder' (by (with_reducible repeat (first | apply Kd.R_alloc | apply Kd.R_drewN | apply Kd.R_drew)); exact HO162.out) (Kd.R_base ho0) hb); replace HO165 := Zs.mk (Kd.R_elder' (by (with_reducible repeat (first | apply Kd.R_alloc | apply Kd.R_drewN | apply Kd.R_drew)); exact HO165.out) (Kd.R_base ho0) hb); replace HO168 := Zs.mk (Kd.R_elder' (by (with_reducible repeat (first | apply Kd.R_alloc | apply Kd.R_drewN | apply Kd.R_drew)); exact HO168.out) (Kd.R_base ho0) hb); replace HB := bls HB hb; (try clear hb); (try clear hb2); (try clear hk); (try clear hi); (try clear ho0); obtain ⟨Ao18, co18, eo18⟩ := Kd.R_slice HO171.out; subst eo18) | ((with_reducible refine gc_ (f := 116) rfl ?_); refine gL 24 Tryz.func116 #[.slice Ao18 t169.length co18, .slice A0 l0.length c0] ?_; (with_reducible refine (r8_Order.calls k1 _ _ t169 _ _ l0 t172 _ ?side1 ?side2 ?side3 ?side4 A7.out).mono ?_); (case side1 => repeat (first | exact (Kd.R_reads' HO171.out).2.2 | (with_reducible refine Kd.C_alloc ?_ _) | (with_reducible refine Kd.C_drewN ?_ _) | (with_reducible refine Kd.C_drew ?_))); (case side2 => exact (Kd.R_reads' HO171.out).2.1); (case side3 => repeat (first | exact (Kd.C_below HR0.out HB.out) | (with_reducible refine Kd.C_alloc ?_ _) | (with_reducible refine Kd.C_drewN ?_ _) | (with_reducible refine Kd.C_drew ?_))); (case side4 => exact HC0.out); rintro e w' ⟨rfl, ⟨nd, rfl⟩⟩; refine ⟨_, rfl, ?_⟩))
     go_roundg k1
     case measure => have := HK1.out; omega
     case rel => exact ⟨(t166), (wrap64 (x5_1 - 1)), (by first | rfl | (simp; done) | (simp [*]; done)), H', ⟨by have := HK1.out; omega⟩, ⟨by (with_reducible repeat (first | apply Kd.R_alloc | apply Kd.R_drewN | apply Kd.R_drew)); exact Kd.R_mono HO168.out (fun _ hk => trivial)⟩, blt HB⟩
    ·rw [if_neg c8] at H
     have c8b0 : decide (t172 ≤ 0) = false := decide_eq_false c8
     clear c8
     have H' := Zs.mk H
     clear H
     go_wp2_with (first | ((with_reducible refine gd_ (N := 16) rfl ?_); refine Kd.R_lit (Kd.int .i64) _ 3 ?hg (N := 16) ?hd (xs := ([1] : List Int)) (inner := [.int .i64 1]) (ok := fun _ => True) (okp := fun _ => True) ?hr ?hp (fun _ hk => hk) trivial (Below.refl _ _) (Nat.le_refl _) (by simp) ?_; (case hd => rfl); (case hg => rfl); (case hr => first | (go_simp; done) | (go_simp; rfl)); (case hp => exact (Reps.one (show Kd.M (Kd.int .i64) _ _ _ 1 [.int .i64 1] from rfl) (Reps.none _ _))); intro v161 w19 ho20 hb hg_ hnew_; clear hg_ hnew_; (first | rw [← Ny160.out] at ho20 | (simp only [Int.reduceToNat] at ho20; rw [← Ny160.out] at ho20)); have HO162 := Zs.mk (Kd.R_lower (Kd.R_new' ho20 (Kd.R_lt (by (with_reducible repeat (first | apply Kd.R_alloc | apply Kd.R_drewN | apply Kd.R_drew)); exact HO_4.out))) (below_size (blt HB).out)); replace HO_4 := Zs.mk (Kd.R_elder' (by (with_reducible repeat (first | apply Kd.R_alloc | apply Kd.R_drewN | apply Kd.R_drew)); exact HO_4.out) (Kd.R_base ho20) hb); replace HB := bls HB hb; clear hb ho20; obtain ⟨Ao21, co21, eo21⟩ := Kd.R_slice HO162.out; subst eo21) | ((with_reducible refine gc_ (f := 110) rfl ?_); refine gL 18 Tryz.func110 #[.slice Ao21 y160.length co21, .int .i64 x5_1] ?_; (with_reducible refine (r8_Left.calls k1 _ _ y160 x5_1 t163 _ ?side1 ?side2 A4.out).mono ?_); (case side1 => repeat (first | exact (Kd.R_reads' HO162.out).2.2 | (with_reducible refine Kd.C_alloc ?_ _) | (with_reducible refine Kd.C_drewN ?_ _) | (with_reducible refine Kd.C_drew ?_))); (case side2 => exact (Kd.R_reads' HO162.out).2.1); rintro e w22 ⟨v164, rfl, ho0, hb⟩; refine ⟨_, rfl, ?_⟩; have HO165 := Zs.mk (Kd.R_lower (Kd.R_new' (Kd.R_new' ho0 (Kd.R_lt (by (with_reducible repeat (first | apply Kd.R_alloc | apply Kd.R_drewN | apply Kd.R_drew)); exact HO_4.out))) (Kd.R_lt (by (with_reducible repeat (first | apply Kd.R_alloc | apply Kd.R_drewN | apply Kd.R_drew)); exact HO162.out))) (below_size (blt HB).out)); replace HO_4 := Zs.mk (Kd.R_elder' (by (with_reducible repeat (first | apply Kd.R_alloc | apply Kd.R_drewN | apply Kd.R_drew)); exact HO_4.out) (Kd.R_base ho0) hb); replace HO162 := Zs.mk (Kd.R_elder' (by (with_reducible repeat (first | apply Kd.R_alloc | apply Kd.R_drewN | apply Kd.R_drew)); exact HO162.out) (Kd.R_base ho0) hb); replace HB := bls HB hb; (try clear hb); (try clear hb2); (try clear hk); (try clear hi); (try clear ho0); obtain ⟨Ao23, co23, eo23⟩ := Kd.R_slice HO_4.out; subst eo23; obtain ⟨Ao24, co24, eo24⟩ := Kd.R_slice HO165.out; subst eo24) | ((with_reducible refine gc_ (f := 112) rfl ?_); refine gL 19 Tryz.func112 #[.slice Ao23 x4_1.length co23, .slice Ao24 t163.length co24] ?_; (with_reducible refine (r8_Plus.calls k1 _ _ x4_1 _ _ t163 t166 _ ?side1 ?side2 ?side3 ?side4 A5.out).mono ?_); (case side1 => repeat (first | exact (Kd.R_reads' HO_4.out).2.2 | (with_reducible refine Kd.C_alloc ?_ _) | (with_reducible refine Kd.C_drewN ?_ _) | (with_reducible refine Kd.C_drew ?_))); (case side2 => exact (Kd.R_reads' HO_4.out).2.1); (case side3 => repeat (first | exact (Kd.R_reads' HO165.out).2.2 | (with_reducible refine Kd.C_alloc ?_ _) | (with_reducible refine Kd.C_drewN ?_ _) | (with_reducible refine Kd.C_drew ?_))); (case side4 => exact (Kd.R_reads' HO165.out).2.1); rintro e w25 ⟨v167, rfl, ho0, hb⟩; refine ⟨_, rfl, ?_⟩; have HO168 := Zs.mk (Kd.R_lower (Kd.R_new' (Kd.R_new' (Kd.R_new' ho0 (Kd.R_lt (by (with_reducible repeat (first | apply Kd.R_alloc | apply Kd.R_drewN | apply Kd.R_drew)); exact HO_4.out))) (Kd.R_lt (by (with_reducible repeat (first | apply Kd.R_alloc | apply Kd.R_drewN | apply Kd.R_drew)); exact HO162.out))) (Kd.R_lt (by (with_reducible repeat (first | apply Kd.R_alloc | apply Kd.R_drewN | apply Kd.R_drew)); exact HO165.out))) (below_size (blt HB).out)); replace HO_4 := Zs.mk (Kd.R_elder' (by (with_reducible repeat (first | apply Kd.R_alloc | apply Kd.R_drewN | apply Kd.R_drew)); exact HO_4.out) (Kd.R_base ho0) hb); replace HO162 := Zs.mk (Kd.R_elder' (by (with_reducible repeat (first | apply Kd.R_alloc | apply Kd.R_drewN | apply Kd.R_drew)); exact HO162.out) (Kd.R_base ho0) hb); replace HO165 := Zs.mk (Kd.R_elder' (by (with_reducible repeat (first | apply Kd.R_alloc | apply Kd.R_drewN | apply Kd.R_drew)); exact HO165.out) (Kd.R_base ho0) hb); replace HB := bls HB hb; (try clear hb); (try clear hb2); (try clear hk); (try clear hi); (try clear ho0); obtain ⟨Ao26, co26, eo26⟩ := Kd.R_slice HO168.out; subst eo26) | ((with_reducible refine gc_ (f := 108) rfl ?_); refine gL 22 Tryz.func108 #[.slice Ao26 t166.length co26, .slice Ao26 t166.length co26] ?_; (with_reducible refine (r8_Times.calls k1 _ _ t166 _ _ t166 t169 _ ?side1 ?side2 ?side3 ?side4 A6.out).mono ?_); (case side1 => repeat (first | exact (Kd.R_reads' HO168.out).2.2 | (with_reducible refine Kd.C_alloc ?_ _) | (with_reducible refine Kd.C_drewN ?_ _) | (with_reducible refine Kd.C_drew ?_))); (case side2 => exact (Kd.R_reads' HO168.out).2.1); (case side3 => repeat (first | exact (Kd.R_reads' HO168.out).2.2 | (with_reducible refine Kd.C_alloc ?_ _) | (with_reducible refine Kd.C_drewN ?_ _) | (with_reducible refine Kd.C_drew ?_))); (case side4 => exact (Kd.R_reads' HO168.out).2.1); rintro e w27 ⟨v170, rfl, ho0, hb⟩; refine ⟨_, rfl, ?_⟩; have HO171 := Zs.mk (Kd.R_lower (Kd.R_new' (Kd.R_new' (Kd.R_new' (Kd.R_new' ho0 (Kd.R_lt (by (with_reducible repeat (first | apply Kd.R_alloc | apply Kd.R_drewN | apply Kd.R_drew)); exact HO_4.out))) (Kd.R_lt (by (with_reducible repeat (first | apply Kd.R_alloc | apply Kd.R_drewN | apply Kd.R_drew)); exact HO162.out))) (Kd.R_lt (by (with_reducible repeat (first | apply Kd.R_alloc | apply Kd.R_drewN | apply Kd.R_drew)); exact HO165.out))) (Kd.R_lt (by (with_reducible repeat (first | apply Kd.R_alloc | apply Kd.R_drewN | apply Kd.R_drew)); exact HO168.out))) (below_size (blt HB).out)); replace HO_4 := Zs.mk (Kd.R_elder' (by (with_reducible repeat (first | apply Kd.R_alloc | apply Kd.R_drewN | apply Kd.R_drew)); exact HO_4.out) (Kd.R_base ho0) hb); replace HO162 := Zs.mk (Kd.R_elder' (by (with_reducible repeat (first | apply Kd.R_alloc | apply Kd.R_drewN | apply Kd.R_drew)); exact HO162.out) (Kd.R_base ho0) hb); replace HO165 := Zs.mk (Kd.R_elder' (by (with_reducible repeat (first | apply Kd.R_alloc | apply Kd.R_drewN | apply Kd.R_drew)); exact HO165.out) (Kd.R_base ho0) hb); replace HO168 := Zs.mk (Kd.R_elder' (by (with_reducible repeat (first | apply Kd.R_alloc | apply Kd.R_drewN | apply Kd.R_drew)); exact HO168.out) (Kd.R_base ho0) hb); replace HB := bls HB hb; (try clear hb); (try clear hb2); (try clear hk); (try clear hi); (try clear ho0); obtain ⟨Ao28, co28, eo28⟩ := Kd.R_slice HO171.out; subst eo28) | ((with_reducible refine gc_ (f := 116) rfl ?_); refine gL 24 Tryz.func116 #[.slice Ao28 t169.length co28, .slice A0 l0.length c0] ?_; (with_reducible refine (r8_Order.calls k1 _ _ t169 _ _ l0 t172 _ ?side1 ?side2 ?side3 ?side4 A7.out).mono ?_); (case side1 => repeat (first | exact (Kd.R_reads' HO171.out).2.2 | (with_reducible refine Kd.C_alloc ?_ _) | (with_reducible refine Kd.C_drewN ?_ _) | (with_reducible refine Kd.C_drew ?_))); (case side2 => exact (Kd.R_reads' HO171.out).2.1); (case side3 => repeat (first | exact (Kd.C_below HR0.out HB.out) | (with_reducible refine Kd.C_alloc ?_ _) | (with_reducible refine Kd.C_drewN ?_ _) | (with_reducible refine Kd.C_drew ?_))); (case side4 => exact HC0.out); rintro e w' ⟨rfl, ⟨nd, rfl⟩⟩; refine ⟨_, rfl, ?_⟩))
     go_roundg k1
     case measure => have := HK1.out; omega
     case rel => exact ⟨(x4_1), (wrap64 (x5_1 - 1)), (by first | rfl | (simp; done) | (simp [*]; done)), H', ⟨by have := HK1.out; omega⟩, ⟨by (with_reducible repeat (first | apply Kd.R_alloc | apply Kd.R_drewN | apply Kd.R_drew)); exact Kd.R_mono HO_4.out (fun _ hk => trivial)⟩, blt HB⟩
   ·rw [if_neg c3] at H
    have c3b0 : decide (0 ≤ x5_1) = false := decide_eq_false c3
    clear c3
    replace H := Option.bind_eq_some_iff.mp H
    obtain ⟨t156, A29, H⟩ := H
    try dsimp only at H
    replace A29 := Zs.mk A29
    replace H := Option.bind_eq_some_iff.mp H
    obtain ⟨t159, A30, H⟩ := H
    try dsimp only at H
    replace A30 := Zs.mk A30
    simp only [Option.some.injEq, Prod.mk.injEq] at H
    obtain ⟨rfl, rfl⟩ := H
    obtain ⟨Ao31, co31, eo31⟩ := Kd.R_slice HO_4.out
    subst eo31
    go_wp2_with (first | ((with_reducible refine gc_ (f := 108) rfl ?_); refine gL 30 Tryz.func108 #[.slice Ao31 x4_1.length co31, .slice Ao31 x4_1.length co31] ?_; (with_reducible refine (r8_Times.calls k1 _ _ x4_1 _ _ x4_1 t156 _ ?side1 ?side2 ?side3 ?side4 A29.out).mono ?_); (case side1 => repeat (first | exact (Kd.R_reads' HO_4.out).2.2 | (with_reducible refine Kd.C_alloc ?_ _) | (with_reducible refine Kd.C_drewN ?_ _) | (with_reducible refine Kd.C_drew ?_))); (case side2 => exact (Kd.R_reads' HO_4.out).2.1); (case side3 => repeat (first | exact (Kd.R_reads' HO_4.out).2.2 | (with_reducible refine Kd.C_alloc ?_ _) | (with_reducible refine Kd.C_drewN ?_ _) | (with_reducible refine Kd.C_drew ?_))); (case side4 => exact (Kd.R_reads' HO_4.out).2.1); rintro e w32 ⟨v157, rfl, ho0, hb⟩; refine ⟨_, rfl, ?_⟩; have HO158 := Zs.mk (Kd.R_lower (Kd.R_new' ho0 (Kd.R_lt (by (with_reducible repeat (first | apply Kd.R_alloc | apply Kd.R_drewN | apply Kd.R_drew)); exact HO_4.out))) (below_size (blt HB).out)); replace HO_4 := Zs.mk (Kd.R_elder' (by (with_reducible repeat (first | apply Kd.R_alloc | apply Kd.R_drewN | apply Kd.R_drew)); exact HO_4.out) (Kd.R_base ho0) hb); replace HB := bls HB hb; (try clear hb); (try clear hb2); (try clear hk); (try clear hi); (try clear ho0); obtain ⟨Ao33, co33, eo33⟩ := Kd.R_slice HO158.out; subst eo33) | ((with_reducible refine gc_ (f := 116) rfl ?_); refine gL 32 Tryz.func116 #[.slice Ao33 t156.length co33, .slice A0 l0.length c0] ?_; (with_reducible refine (r8_Order.calls k1 _ _ t156 _ _ l0 t159 _ ?side1 ?side2 ?side3 ?side4 A30.out).mono ?_); (case side1 => repeat (first | exact (Kd.R_reads' HO158.out).2.2 | (with_reducible refine Kd.C_alloc ?_ _) | (with_reducible refine Kd.C_drewN ?_ _) | (with_reducible refine Kd.C_drew ?_))); (case side2 => exact (Kd.R_reads' HO158.out).2.1); (case side3 => repeat (first | exact (Kd.C_below HR0.out HB.out) | (with_reducible refine Kd.C_alloc ?_ _) | (with_reducible refine Kd.C_drewN ?_ _) | (with_reducible refine Kd.C_drew ?_))); (case side4 => exact HC0.out); rintro e w' ⟨rfl, ⟨nd, rfl⟩⟩; refine ⟨_, rfl, ?_⟩))
    go_ret2
    exact ⟨_, by first | rfl | (simp [errW_none, errW_some] <;> rfl) | (simp [*, errW_none, errW_some] <;> rfl), by (with_reducible repeat (first | apply Kd.R_alloc | apply Kd.R_drewN | apply Kd.R_drew)); exact Kd.R_mono HO_4.out (fun _ hk => trivial), (blt HB).out⟩
def r8_Minus.l0 : Nat → List Int → List Int → List Int → Int → Int → Option (List Int)
 | 0, _, _, _, _, _ => none
 | k + 1, x0, x1, x5, x6, x7 => if x7 < (x0.length : Int) then (if 0 ≤ x7 then ((r8_digit.f x1 x7).bind fun t174 => ((bs_Bit.f (decide ((wrap64 ((wrap64 ((rd x0 x7) - t174)) - x6)) < 0))).bind fun t175 => (if x5.length < 17592186044416 then (r8_Minus.l0 k x0 x1 (x5 ++ [wrap64 ((wrap64 ((wrap64 ((rd x0 x7) - t174)) - x6)) + (wrap64 (65536 * t175)))]) t175 (wrap64 (x7 + 1))) else (none)))) else (none)) else ((r8_trim.f k x5).bind fun t179 => (some t179))
def r8_Minus.f (k : Nat) (l0 : List Int) (l1 : List Int) : Option (List Int) := r8_Minus.l0 k l0 l1 ([] : List Int) 0 0
set_option maxHeartbeats 8000000 in
set_option maxRecDepth 100000 in
theorem r8_Minus.calls (k : Nat) (A0 : Option Addr) (c0 : Nat) (l0 : List Int) (A1 : Option Addr) (c1 : Nat) (l1 : List Int) (r : List Int) (w : World) (hr0 : Kd.C (Kd.int .i64) w A0 l0.length l0) (hc0 : l0.length ≤ c0) (hr1 : Kd.C (Kd.int .i64) w A1 l1.length l1) (hc1 : l1.length ≤ c1) (h : r8_Minus.f k l0 l1 = some r) :
  Calls Tryz.prog 115 #[.slice A0 l0.length c0, .slice A1 l1.length c1] w fun e w' => ∃ v0_ : Value, e = .returned (v0_) ∧ Kd.R (Kd.int .i64) 3 w' w.heap.size (fun _ => True) v0_ r ∧ Below w.heap.size w w' := by
 have HR0 := Zs.mk hr0
 have HC0 := Zs.mk hc0
 clear hr0 hc0
 have HR1 := Zs.mk hr1
 have HC1 := Zs.mk hc1
 clear hr1 hc1
 have HB := Zs.mk (Below.refl w.heap.size w)
 have H : (r8_Minus.l0 k l0 l1 ([] : List Int) 0 0) = some r := h
 clear h
 have H' := Zs.mk H
 clear H
 go_enter Tryz.func115, Tryz.ntmps115
 go_wp2
 repeat (go_quiet (fail); try go_wp2)
 go_loopg [5, 6, 7] k (fun kq v5 v6 v7 w' => ∃ (x5_1 : List Int) (x6_1 : Int) (x7_1 : Int), v6 = .int .i64 x6_1 ∧ v7 = .int .i64 x7_1 ∧ Zs (r8_Minus.l0 kq l0 l1 x5_1 x6_1 x7_1 = some r) ∧ Zs (kq ≤ k) ∧ Zs (Kd.R (Kd.int .i64) 3 w' w.heap.size (fun _ => True) v5 x5_1) ∧ Zs (Below w.heap.size w w'))
 case atStart => exact ⟨(([] : List Int)), (0), (0), (by first | rfl | (simp; done) | (simp [*]; done)), (by first | rfl | (simp; done) | (simp [*]; done)), H', ⟨Nat.le_refl _⟩, ⟨by first | exact Kd.R_nil _ _ _ _ _ | exact Kd.N_nil _ _ _ _ _ | exact Kd.V_nil _ _ _ _ _ | exact Kd.Q_nil _ _ _ _ _ | exact Kd.S_nil _ _ _ _ _⟩, blt HB⟩
 case round =>
  clear H'
  try clear c1
  try clear p2
  obtain ⟨x5_1, x6_1, x7_1, rfl, rfl, HA, HK1, HO_5, HB⟩ := hrel
  cases gk with
  | zero => exact absurd HA.out (by simp [r8_Minus.l0])
  | succ k1 =>
   have H := HA.out
   clear HA
   simp only [r8_Minus.l0] at H
   by_cases c3 : x7_1 < (l0.length : Int)
   ·rw [if_pos c3] at H
    have c3b0 : decide (x7_1 < (l0.length : Int)) = true := decide_eq_true c3
    clear c3
    by_cases c4 : 0 ≤ x7_1
    ·rw [if_pos c4] at H
     have c4b0 : decide (0 ≤ x7_1) = true := decide_eq_true c4
     clear c4
     replace H := Option.bind_eq_some_iff.mp H
     obtain ⟨t174, A5, H⟩ := H
     try dsimp only at H
     replace A5 := Zs.mk A5
     replace H := Option.bind_eq_some_iff.mp H
     obtain ⟨t175, A6, H⟩ := H
     try dsimp only at H
     replace A6 := Zs.mk A6
     by_cases c7 : x5_1.length < 17592186044416
     ·rw [if_pos c7] at H
      have LMc7 := Zs.mk c7
      clear c7
      obtain ⟨y176, hy176⟩ : ∃ y_ : List Int, y_ = (x5_1 ++ [wrap64 ((wrap64 ((wrap64 ((rd l0 x7_1) - t174)) - x6_1)) + (wrap64 (65536 * t175)))]) := ⟨_, rfl⟩
      replace H : (r8_Minus.l0 k1 l0 l1 y176 t175 (wrap64 (x7_1 + 1))) = some r := by first | (rw [hy176]; with_reducible exact H) | (have H2_ := (Option.bind_some _ _).symm.trans H; rw [hy176]; with_reducible exact H2_) | (have H2_ := (Option.bind_some _ _).symm.trans H; with_reducible exact H2_) | with_reducible exact H | (rw [hy176]; exact H) | exact H
      have Ny176 := Zs.mk hy176
      clear hy176
      have H' := Zs.mk H
      clear H
      have p173 : 0 ≤ (x7_1 : Int) := of_decide_eq_true (by first | (with_reducible assumption) | assumption)
      have q173 : x7_1 < (l0.length : Int) := of_decide_eq_true (by first | (with_reducible assumption) | assumption)
      obtain ⟨ad173, e173, hx173_0⟩ := Kd.at_int HR0.out x7_1 p173 q173
      cases e173
      replace hx173_0 := (HB.out.cell (World.block_lt_of_cell? w _ hx173_0)).trans hx173_0
      replace p173 := eq_true p173
      replace q173 := eq_true q173
      go_wp2_with (first | (go_at_call 117; (with_reducible refine (r8_digit.calls _ _ l1 x7_1 t174 _ ?side1 ?side2 A5.out).mono ?_); (case side1 => repeat (first | exact (Kd.C_below HR1.out HB.out) | (with_reducible refine Kd.C_alloc ?_ _) | (with_reducible refine Kd.C_drewN ?_ _) | (with_reducible refine Kd.C_drew ?_))); (case side2 => exact HC1.out); rintro e w' ⟨rfl, ⟨nd, rfl⟩⟩; (try first | exact ⟨rfl, _, World.drewN_drewN _ _ _⟩ | exact ⟨rfl, _, Eq.trans (World.drewN_drewN _ _ _) (congrArg (World.drewN _) (Nat.add_assoc _ _ _))⟩)) | (go_at_call 103; (with_reducible refine (bs_Bit.calls (decide ((wrap64 ((wrap64 ((rd l0 x7_1) - t174)) - x6_1)) < 0)) t175 _ A6.out).mono ?_); rintro e w' ⟨rfl, ⟨nd, rfl⟩⟩; (try first | exact ⟨rfl, _, World.drewN_drewN _ _ _⟩ | exact ⟨rfl, _, Eq.trans (World.drewN_drewN _ _ _) (congrArg (World.drewN _) (Nat.add_assoc _ _ _))⟩)) | ((with_reducible refine gate_builtin (b := .append) (xs := #[.tmp 28, .tmp 33]) rfl ?_); at_builtin; refine Kd.R_append (Kd.int .i64) (w0 := w) w.heap.size rfl (.tmp 28) (.tmp 33) 36 3 (.int .i64 0) 8 rfl Tryz.underlying36 info3 rfl (by decide) (by omega) u5 x5_1 (wrap64 ((wrap64 ((wrap64 ((rd l0 x7_1) - t174)) - x6_1)) + (wrap64 (65536 * t175)))) [.int .i64 (wrap64 ((wrap64 ((wrap64 ((rd l0 x7_1) - t174)) - x6_1)) + (wrap64 (65536 * t175))))] (fun _ => True) (fun _ => False) rfl rfl ?aP (fun _ hk => hk.elim) ?aF ?aO ?aB ?aS ?aL ?_; (case aP => exact rfl); (case aB => exact (blt HB).out); (case aF => exact (fun _ _ => trivial)); (case aO => exact (by (with_reducible repeat (first | apply Kd.R_alloc | apply Kd.R_drewN | apply Kd.R_drew)); exact HO_5.out)); (case aS => exact (below_size (blt HB).out)); (case aL => have := LMc7.out; omega); intro v177 w8 ho hb hg hat; rw [← Ny176.out] at ho; have n0_ := Zs.mk (hb); have n1_ := Zs.mk (ho); clear HB; clear HO_5; have HB := n0_; have HO178 := n1_; clear n0_ n1_; clear ho hb hg hat))
      repeat (go_quiet (first | (go_at_call 117; (with_reducible refine (r8_digit.calls _ _ l1 x7_1 t174 _ ?side1 ?side2 A5.out).mono ?_); (case side1 => repeat (first | exact (Kd.C_below HR1.out HB.out) | (with_reducible refine Kd.C_alloc ?_ _) | (with_reducible refine Kd.C_drewN ?_ _) | (with_reducible refine Kd.C_drew ?_))); (case side2 => exact HC1.out); rintro e w' ⟨rfl, ⟨nd, rfl⟩⟩; (try first | exact ⟨rfl, _, World.drewN_drewN _ _ _⟩ | exact ⟨rfl, _, Eq.trans (World.drewN_drewN _ _ _) (congrArg (World.drewN _) (Nat.add_assoc _ _ _))⟩)) | (go_at_call 103; (with_reducible refine (bs_Bit.calls (decide ((wrap64 ((wrap64 ((rd l0 x7_1) - t174)) - x6_1)) < 0)) t175 _ A6.out).mono ?_); rintro e w' ⟨rfl, ⟨nd, rfl⟩⟩; (try first | exact ⟨rfl, _, World.drewN_drewN _ _ _⟩ | exact ⟨rfl, _, Eq.trans (World.drewN_drewN _ _ _) (congrArg (World.drewN _) (Nat.add_assoc _ _ _))⟩)) | ((with_reducible refine gate_builtin (b := .append) (xs := #[.tmp 28, .tmp 33]) rfl ?_); at_builtin; refine Kd.R_append (Kd.int .i64) (w0 := w) w.heap.size rfl (.tmp 28) (.tmp 33) 36 3 (.int .i64 0) 8 rfl Tryz.underlying36 info3 rfl (by decide) (by omega) u5 x5_1 (wrap64 ((wrap64 ((wrap64 ((rd l0 x7_1) - t174)) - x6_1)) + (wrap64 (65536 * t175)))) [.int .i64 (wrap64 ((wrap64 ((wrap64 ((rd l0 x7_1) - t174)) - x6_1)) + (wrap64 (65536 * t175))))] (fun _ => True) (fun _ => False) rfl rfl ?aP (fun _ hk => hk.elim) ?aF ?aO ?aB ?aS ?aL ?_; (case aP => exact rfl); (case aB => exact (blt HB).out); (case aF => exact (fun _ _ => trivial)); (case aO => exact (by (with_reducible repeat (first | apply Kd.R_alloc | apply Kd.R_drewN | apply Kd.R_drew)); exact HO_5.out)); (case aS => exact (below_size (blt HB).out)); (case aL => have := LMc7.out; omega); intro v177 w8 ho hb hg hat; rw [← Ny176.out] at ho; have n0_ := Zs.mk (hb); have n1_ := Zs.mk (ho); clear HB; clear HO_5; have HB := n0_; have HO178 := n1_; clear n0_ n1_; clear ho hb hg hat)); try go_wp2_with (first | (go_at_call 117; (with_reducible refine (r8_digit.calls _ _ l1 x7_1 t174 _ ?side1 ?side2 A5.out).mono ?_); (case side1 => repeat (first | exact (Kd.C_below HR1.out HB.out) | (with_reducible refine Kd.C_alloc ?_ _) | (with_reducible refine Kd.C_drewN ?_ _) | (with_reducible refine Kd.C_drew ?_))); (case side2 => exact HC1.out); rintro e w' ⟨rfl, ⟨nd, rfl⟩⟩; (try first | exact ⟨rfl, _, World.drewN_drewN _ _ _⟩ | exact ⟨rfl, _, Eq.trans (World.drewN_drewN _ _ _) (congrArg (World.drewN _) (Nat.add_assoc _ _ _))⟩)) | (go_at_call 103; (with_reducible refine (bs_Bit.calls (decide ((wrap64 ((wrap64 ((rd l0 x7_1) - t174)) - x6_1)) < 0)) t175 _ A6.out).mono ?_); rintro e w' ⟨rfl, ⟨nd, rfl⟩⟩; (try first | exact ⟨rfl, _, World.drewN_drewN _ _ _⟩ | exact ⟨rfl, _, Eq.trans (World.drewN_drewN _ _ _) (congrArg (World.drewN _) (Nat.add_assoc _ _ _))⟩)) | ((with_reducible refine gate_builtin (b := .append) (xs := #[.tmp 28, .tmp 33]) rfl ?_); at_builtin; refine Kd.R_append (Kd.int .i64) (w0 := w) w.heap.size rfl (.tmp 28) (.tmp 33) 36 3 (.int .i64 0) 8 rfl Tryz.underlying36 info3 rfl (by decide) (by omega) u5 x5_1 (wrap64 ((wrap64 ((wrap64 ((rd l0 x7_1) - t174)) - x6_1)) + (wrap64 (65536 * t175)))) [.int .i64 (wrap64 ((wrap64 ((wrap64 ((rd l0 x7_1) - t174)) - x6_1)) + (wrap64 (65536 * t175))))] (fun _ => True) (fun _ => False) rfl rfl ?aP (fun _ hk => hk.elim) ?aF ?aO ?aB ?aS ?aL ?_; (case aP => exact rfl); (case aB => exact (blt HB).out); (case aF => exact (fun _ _ => trivial)); (case aO => exact (by (with_reducible repeat (first | apply Kd.R_alloc | apply Kd.R_drewN | apply Kd.R_drew)); exact HO_5.out)); (case aS => exact (below_size (blt HB).out)); (case aL => have := LMc7.out; omega); intro v177 w8 ho hb hg hat; rw [← Ny176.out] at ho; have n0_ := Zs.mk (hb); have n1_ := Zs.mk (ho); clear HB; clear HO_5; have HB := n0_; have HO178 := n1_; clear n0_ n1_; clear ho hb hg hat)))
      go_roundg k1
      case measure => have := HK1.out; omega
      case rel => exact ⟨(y176), (t175), (wrap64 (x7_1 + 1)), (by first | rfl | (simp; done) | (simp [*]; done)), (by first | rfl | (simp; done) | (simp [*]; done)), H', ⟨by have := HK1.out; omega⟩, ⟨by (with_reducible repeat (first | apply Kd.R_alloc | apply Kd.R_drewN | apply Kd.R_drew)); exact HO178.out⟩, blt HB⟩
     ·rw [if_neg c7] at H
      exact absurd H (by simp)
    ·rw [if_neg c4] at H
     exact absurd H (by simp)
   ·rw [if_neg c3] at H
    have c3b0 : decide (x7_1 < (l0.length : Int)) = false := decide_eq_false c3
    clear c3
    replace H := Option.bind_eq_some_iff.mp H
    obtain ⟨t179, A9, H⟩ := H
    try dsimp only at H
    replace A9 := Zs.mk A9
    obtain rfl := Option.some.inj H
    obtain ⟨Ao10, co10, eo10⟩ := Kd.R_slice HO_5.out
    subst eo10
    go_wp2_with (first | (go_at_call 137; (with_reducible refine (r8_trim.calls k1 (fun k_ => some k_ = (.slice Ao10 x5_1.length co10 : Value).ownBlock) (.slice Ao10 x5_1.length co10) x5_1 t179 w _ ?side1 ?side2 A9.out).mono ?_); (case side1 => repeat (first | (with_reducible first | exact HB.out | apply below_alloc | apply pw_below_drewN | apply below_drew1) | exact HB.out)); (case side2 => exact Kd.R_tight rfl HO_5.out); rintro e w11 ⟨v180, rfl, ho0, hb, hkp⟩; have n0_ := Zs.mk (Kd.R_mono (ok' := fun k_ => True) ho0 (fun k_ hk_ => trivial)); have n1_ := Zs.mk (hb); clear HB; clear HO_5; have HO181 := n0_; have HB := n1_; clear n0_ n1_; (try clear hb); (try clear hkp); (try clear ho0)))
    repeat (go_quiet (first | (go_at_call 137; (with_reducible refine (r8_trim.calls k1 (fun k_ => some k_ = (.slice Ao10 x5_1.length co10 : Value).ownBlock) (.slice Ao10 x5_1.length co10) x5_1 t179 w _ ?side1 ?side2 A9.out).mono ?_); (case side1 => repeat (first | (with_reducible first | exact HB.out | apply below_alloc | apply pw_below_drewN | apply below_drew1) | exact HB.out)); (case side2 => exact Kd.R_tight rfl HO_5.out); rintro e w11 ⟨v180, rfl, ho0, hb, hkp⟩; have n0_ := Zs.mk (Kd.R_mono (ok' := fun k_ => True) ho0 (fun k_ hk_ => trivial)); have n1_ := Zs.mk (hb); clear HB; clear HO_5; have HO181 := n0_; have HB := n1_; clear n0_ n1_; (try clear hb); (try clear hkp); (try clear ho0))); try go_wp2_with (first | (go_at_call 137; (with_reducible refine (r8_trim.calls k1 (fun k_ => some k_ = (.slice Ao10 x5_1.length co10 : Value).ownBlock) (.slice Ao10 x5_1.length co10) x5_1 t179 w _ ?side1 ?side2 A9.out).mono ?_); (case side1 => repeat (first | (with_reducible first | exact HB.out | apply below_alloc | apply pw_below_drewN | apply below_drew1) | exact HB.out)); (case side2 => exact Kd.R_tight rfl HO_5.out); rintro e w11 ⟨v180, rfl, ho0, hb, hkp⟩; have n0_ := Zs.mk (Kd.R_mono (ok' := fun k_ => True) ho0 (fun k_ hk_ => trivial)); have n1_ := Zs.mk (hb); clear HB; clear HO_5; have HO181 := n0_; have HB := n1_; clear n0_ n1_; (try clear hb); (try clear hkp); (try clear ho0))))
    go_ret
    exact ⟨_, by first | rfl | (simp [errW_none, errW_some] <;> rfl) | (simp [*, errW_none, errW_some] <;> rfl), by (with_reducible repeat (first | apply Kd.R_alloc | apply Kd.R_drewN | apply Kd.R_drew)); exact HO181.out, (blt HB).out⟩
end Go.Proofs.YtmoimcblmmcffaaGreat.PN

namespace Go.Proofs.YtmoimcblmmcffaaGreat.PN
open Go.RowKit Go.Proofs.YtmoimcblmmcffaaGreatW.PrintWords Go.Proofs.YtmoimcblmmcffaaGreatW.PrintLast Go.Proofs.YtmoimcblmmcffaaGreatW.PrintMore Go.Proofs.YtmoimcblmmcffaaGreatW.PrintZ
attribute [local go_sem] max2_int min2_int max_two min_two max_three min_three max_four min_four   -- for this text's walks alone
set_option linter.unusedVariables false
set_option linter.unusedSimpArgs false


mutual
def r8_Divide.l0 : Nat → List Int → List Int → List Int → List Int → Int → Option (List Int × List Int)
 | 0, _, _, _, _, _ => none
 | k + 1, x0, x1, x6, x7, x8 => if x8 ≥ 0 then ((r8_Left.f k x7 1).bind fun t189 => (if 0 ≤ (wrap64 (Int.tdiv x8 16)) then (if (wrap64 (Int.tdiv x8 16)) < (x0.length : Int) then ((bs_Power.f k (Int.tmod x8 16)).bind fun t193 => (if t193 = 0 then (none) else (if (Int.tmod (wrap64 (Int.tdiv (rd x0 (wrap64 (Int.tdiv x8 16))) t193)) 2) = 1 then ((r8_Plus.f k t189 (([1] : List Int))).bind fun t197 => (r8_Divide.j1 k x0 x1 x6 t197 x8)) else (r8_Divide.j1 k x0 x1 x6 t189 x8)))) else (none)) else (none))) else ((r8_trim.f k x6).bind fun t186 => (some (t186, x7)))
def r8_Divide.j1 : Nat → List Int → List Int → List Int → List Int → Int → Option (List Int × List Int)
 | 0, _, _, _, _, _ => none
 | k + 1, x0, x1, x6, x7, x8 => (r8_Order.f k x7 x1).bind fun t200 => (if t200 ≥ 0 then ((r8_Minus.f k x7 x1).bind fun t201 => (if 0 ≤ (wrap64 (Int.tdiv x8 16)) then (if (wrap64 (Int.tdiv x8 16)) < (x6.length : Int) then ((bs_Power.f k (Int.tmod x8 16)).bind fun t205 => (r8_Divide.l0 k x0 x1 (x6.set ((wrap64 (Int.tdiv x8 16)) : Int).toNat (wrap64 ((rd x6 (wrap64 (Int.tdiv x8 16))) + t205))) t201 (wrap64 (x8 - 1)))) else (none)) else (none))) else (r8_Divide.l0 k x0 x1 x6 x7 (wrap64 (x8 - 1))))
end
def r8_Divide.f (k : Nat) (l0 : List Int) (l1 : List Int) : Option (List Int × List Int) := if 0 ≤ (l0.length : Int) then (if ((l0.length : Int) : Int).toNat ≤ 35184372088832 then ((r8_Length.f k l0).bind fun t185 => (r8_Divide.l0 k l0 l1 (List.replicate ((l0.length : Int) : Int).toNat 0) ([] : List Int) (wrap64 (t185 - 1)))) else (none)) else (none)
def r8_Divide.T7 : Bool × List (List Nat × List Nat) := (true, [([], []), ([], []), ([1], [1]), ([0, 2], [0, 2]), ([3], [3]), ([], []), ([5], [5]), ([6], [6]), ([4, 7], [4, 7]), ([8], [8]), ([9], [9])])
def r8_Divide.B7 : List Nat := [0, 0, 2, 7, 15, 0, 32, 96, 255, 511, 1023]
theorem r8_Divide.tab7 : rtab .any (opsOf Tryz.f109 7) = r8_Divide.T7 := by kernel_rfl
theorem r8_Divide.bits7 : waitsOk r8_Divide.T7.2 r8_Divide.B7 = true := by kernel_rfl
def r8_Divide.T11 : Bool × List (List Nat × List Nat) := (true, [([], []), ([], []), ([1], [1]), ([], []), ([], []), ([4], [4]), ([3, 5], [3, 5]), ([6], [6]), ([], []), ([8], [8]), ([9], [9]), ([7, 10], [7, 10]), ([0, 2, 0, 1, 2, 3, 4, 5, 6, 7, 8, 9, 10, 11], [0, 2]), ([12, 11, 10, 0, 1, 2, 3, 4, 5, 6, 7, 8, 9, 10, 11], [11, 12])])
def r8_Divide.B11 : List Nat := [0, 0, 2, 0, 0, 16, 56, 120, 0, 256, 768, 2040, 4095, 8191]
theorem r8_Divide.tab11 : rtab .any (opsOf Tryz.f109 11) = r8_Divide.T11 := by kernel_rfl
theorem r8_Divide.bits11 : waitsOk r8_Divide.T11.2 r8_Divide.B11 = true := by kernel_rfl
set_option maxHeartbeats 8000000 in
set_option maxRecDepth 100000 in
theorem r8_Divide.calls (k : Nat) (A0 : Option Addr) (c0 : Nat) (l0 : List Int) (A1 : Option Addr) (c1 : Nat) (l1 : List Int) (r1 : List Int) (r2 : List Int) (w : World) (hr0 : Kd.C (Kd.int .i64) w A0 l0.length l0) (hc0 : l0.length ≤ c0) (hr1 : Kd.C (Kd.int .i64) w A1 l1.length l1) (hc1 : l1.length ≤ c1) (h : r8_Divide.f k l0 l1 = some (r1, r2)) :
  Calls Tryz.prog 109 #[.slice A0 l0.length c0, .slice A1 l1.length c1] w fun e w' => ∃ v0_ v1_ : Value, e = .returned (.tuple #[v0_, v1_]) ∧ Kd.R (Kd.int .i64) 3 w' w.heap.size (fun k_ => some k_ ≠ (v1_ : Value).ownBlock) v0_ r1 ∧ Kd.R (Kd.int .i64) 3 w' w.heap.size (fun k_ => some k_ ≠ (v0_ : Value).ownBlock) v1_ r2 ∧ Below w.heap.size w w' := by
 have HR0 := Zs.mk hr0
 have HC0 := Zs.mk hc0
 clear hr0 hc0
 have HR1 := Zs.mk hr1
 have HC1 := Zs.mk hc1
 clear hr1 hc1
 have HB := Zs.mk (Below.refl w.heap.size w)
 have H : (if 0 ≤ (l0.length : Int) then (if ((l0.length : Int) : Int).toNat ≤ 35184372088832 then ((r8_Length.f k l0).bind fun t185 => (r8_Divide.l0 k l0 l1 (List.replicate ((l0.length : Int) : Int).toNat 0) ([] : List Int) (wrap64 (t185 - 1)))) else (none)) else (none)) = some (r1, r2) := h
 clear h
 by_cases c3 : 0 ≤ (l0.length : Int)
 ·rw [if_pos c3] at H
  have c3b0 := eq_true c3
  have c3b1 : decide (0 ≤ (l0.length : Int)) = true := decide_eq_true c3
  clear c3
  by_cases c4 : ((l0.length : Int) : Int).toNat ≤ 35184372088832
  ·rw [if_pos c4] at H
   have c4b0 := eq_true c4
   have c4b1 : decide (((l0.length : Int) : Int).toNat ≤ 35184372088832) = true := decide_eq_true c4
   clear c4
   obtain ⟨y182, hy182⟩ : ∃ y_ : List Int, y_ = (List.replicate ((l0.length : Int) : Int).toNat 0) := ⟨_, rfl⟩
   replace H : ((r8_Length.f k l0).bind fun t185 => (r8_Divide.l0 k l0 l1 y182 ([] : List Int) (wrap64 (t185 - 1)))) = some (r1, r2) := by first | (rw [hy182]; with_reducible exact H) | (have H2_ := (Option.bind_some _ _).symm.trans H; rw [hy182]; with_reducible exact H2_) | (have H2_ := (Option.bind_some _ _).symm.trans H; with_reducible exact H2_) | with_reducible exact H | (rw [hy182]; exact H) | exact H
   have Ny182 := Zs.mk hy182
   clear hy182
   replace H := Option.bind_eq_some_iff.mp H
   obtain ⟨t185, A5, H⟩ := H
   try dsimp only at H
   replace A5 := Zs.mk A5
   have H' := Zs.mk H
   clear H
   go_enter Tryz.func109, Tryz.ntmps109
   go_wp2_with (first | ((with_reducible refine gd_ (N := 11) rfl ?_); refine Kd.R_make (Kd.int .i64) _ 3 rfl (N := 11) rfl 36 _ _ rfl (l0.length : Int) rfl rfl Tryz.underlying36 (.int .i64 0) 8 info3 rfl (by decide) (by omega) 0 (ok := fun _ => True) (okp := fun _ => True) rfl (fun _ hk => hk) trivial (of_decide_eq_true (by first | (with_reducible assumption) | assumption)) (Nat.le_trans (Nat.mul_le_mul_right _ (of_decide_eq_true (by first | (with_reducible assumption) | assumption) : (l0.length : Int).toNat ≤ 35184372088832)) (by omega)) (Below.refl _ _) (Nat.le_refl _) ?_; intro v183 w6 ho7 hb hg_ hnew_; clear hg_ hnew_; (first | rw [← Ny182.out] at ho7 | (simp only [Int.reduceToNat] at ho7; rw [← Ny182.out] at ho7)); have HO184 := Zs.mk (Kd.R_lower ho7 (below_size (blt HB).out)); replace HB := bls HB hb; clear hb ho7) | ((with_reducible refine gc_ (f := 113) rfl ?_); refine gL 13 Tryz.func113 #[.slice A0 l0.length c0] ?_; (with_reducible refine (r8_Length.calls k _ _ l0 t185 _ ?side1 ?side2 A5.out).mono ?_); (case side1 => repeat (first | exact (Kd.C_below HR0.out HB.out) | (with_reducible refine Kd.C_alloc ?_ _) | (with_reducible refine Kd.C_drewN ?_ _) | (with_reducible refine Kd.C_drew ?_))); (case side2 => exact HC0.out); rintro e w' ⟨rfl, ⟨nd, rfl⟩⟩; refine ⟨_, rfl, ?_⟩))
   go_loopg [7, 8] k (fun kq v7 v8 w' => ∃ (x6_1 : List Int) (x7_1 : List Int) (x8_1 : Int), v8 = .int .i64 x8_1 ∧ Zs (r8_Divide.l0 kq l0 l1 x6_1 x7_1 x8_1 = some (r1, r2)) ∧ Zs (kq ≤ k) ∧ Zs (Kd.R (Kd.int .i64) 3 w' w.heap.size (fun k_ => some k_ ≠ (v7 : Value).ownBlock) v183 x6_1) ∧ Zs (Kd.R (Kd.int .i64) 3 w' w.heap.size (fun k_ => some k_ ≠ (v183 : Value).ownBlock) v7 x7_1) ∧ Zs (Below w.heap.size w w'))
   case atStart => exact ⟨(y182), (([] : List Int)), (wrap64 (t185 - 1)), (by first | rfl | (simp; done) | (simp [*]; done)), H', ⟨Nat.le_refl _⟩, ⟨by (with_reducible repeat (first | apply Kd.R_alloc | apply Kd.R_drewN | apply Kd.R_drew)); exact Kd.R_mono HO184.out (fun _ hk => (by simp [Value.ownBlock]))⟩, ⟨by first | exact Kd.R_nil _ _ _ _ _ | exact Kd.N_nil _ _ _ _ _ | exact Kd.V_nil _ _ _ _ _ | exact Kd.Q_nil _ _ _ _ _ | exact Kd.S_nil _ _ _ _ _⟩, blt HB⟩
   case round =>
    clear H'
    try clear c1
    try clear p2
    try clear c3
    try clear c3b0
    try clear c3b1
    try clear c4
    try clear c4b0
    try clear c4b1
    try clear p6
    obtain ⟨x6_1, x7_1, x8_1, rfl, HA, HK1, HO_6, HO_7, HB⟩ := hrel
    cases gk with
    | zero => exact absurd HA.out (by simp [r8_Divide.l0])
    | succ k1 =>
     have H := HA.out
     clear HA
     simp only [r8_Divide.l0] at H
     by_cases c8 : x8_1 ≥ 0
     ·rw [if_pos c8] at H
      have c8b0 : decide (0 ≤ x8_1) = true := decide_eq_true c8
      clear c8
      replace H := Option.bind_eq_some_iff.mp H
      obtain ⟨t189, A9, H⟩ := H
      try dsimp only at H
      replace A9 := Zs.mk A9
      obtain ⟨ji10, hji10⟩ : ∃ j_ : Int, (wrap64 (Int.tdiv x8_1 16)) = j_ := ⟨_, rfl⟩
      replace H : (if 0 ≤ (ji10) then (if (ji10) < (l0.length : Int) then ((bs_Power.f k1 (Int.tmod x8_1 16)).bind fun t193 => (if t193 = 0 then (none) else (if (Int.tmod (wrap64 (Int.tdiv (rd l0 (ji10)) t193)) 2) = 1 then ((r8_Plus.f k1 t189 (([1] : List Int))).bind fun t197 => (r8_Divide.j1 k1 l0 l1 x6_1 t197 x8_1)) else (r8_Divide.j1 k1 l0 l1 x6_1 t189 x8_1)))) else (none)) else (none)) = some (r1, r2) := by first | (rw [hji10] at H; exact H) | (simp only [hji10] at H ⊢; exact H)
      (try rw [hji10] at A9)
      have hji10w : (IntKind.i64.wrap (Int.tdiv x8_1 16)) = ji10 := (i64_w _).trans hji10
      by_cases c11 : 0 ≤ (ji10)
      ·rw [if_pos c11] at H
       have c11b0 : decide (0 ≤ (ji10)) = true := decide_eq_true c11
       clear c11
       by_cases c12 : (ji10) < (l0.length : Int)
       ·rw [if_pos c12] at H
        have c12b0 : decide ((ji10) < (l0.length : Int)) = true := decide_eq_true c12
        clear c12
        replace H := Option.bind_eq_some_iff.mp H
        obtain ⟨t193, A13, H⟩ := H
        try dsimp only at H
        replace A13 := Zs.mk A13
        by_cases c14 : t193 = 0
        ·rw [if_pos c14] at H
         exact absurd H (by simp)
        ·rw [if_neg c14] at H
         have c14b0 : (t193 == 0) = false := beq_eq_false_iff_ne.mpr c14
         have c14b1 : (t193 != 0) = true := bne_iff_ne.mpr c14
         have HC15 := Zs.mk H
         clear H
         obtain ⟨Ao16, co16, eo16⟩ := Kd.R_slice HO_7.out
         subst eo16
         try go_wp2_with (first | ((with_reducible refine gc_ (f := 110) rfl ?_); refine gL 20 Tryz.func110 #[.slice Ao16 x7_1.length co16, .int .i64 1] ?_; (with_reducible refine (r8_Left.calls k1 _ _ x7_1 1 t189 _ ?side1 ?side2 A9.out).mono ?_); (case side1 => repeat (first | exact (Kd.R_reads' HO_7.out).2.2 | (with_reducible refine Kd.C_alloc ?_ _) | (with_reducible refine Kd.C_drewN ?_ _) | (with_reducible refine Kd.C_drew ?_))); (case side2 => exact (Kd.R_reads' HO_7.out).2.1); rintro e w17 ⟨v190, rfl, ho0, hb⟩; refine ⟨_, rfl, ?_⟩; have HO191 := Zs.mk (Kd.R_lower (Kd.R_new' (Kd.R_new' ho0 (Kd.R_lt (by (with_reducible repeat (first | apply Kd.R_alloc | apply Kd.R_drewN | apply Kd.R_drew)); exact HO_6.out))) (Kd.R_lt (by (with_reducible repeat (first | apply Kd.R_alloc | apply Kd.R_drewN | apply Kd.R_drew)); exact HO_7.out))) (below_size (blt HB).out)); replace HO_6 := Zs.mk (Kd.R_elder' (by (with_reducible repeat (first | apply Kd.R_alloc | apply Kd.R_drewN | apply Kd.R_drew)); exact HO_6.out) (Kd.R_base ho0) hb); replace HO_7 := Zs.mk (Kd.R_elder' (by (with_reducible repeat (first | apply Kd.R_alloc | apply Kd.R_drewN | apply Kd.R_drew)); exact HO_7.out) (Kd.R_base ho0) hb); replace HB := bls HB hb; (try clear hb); (try clear hb2); (try clear hk); (try clear hi); (try clear ho0)))
         replace HO_6 := Zs.mk (Kd.R_drew HO_6.out)
         replace HO_7 := Zs.mk (Kd.R_drew HO_7.out)
         replace HO191 := Zs.mk (Kd.R_drew HO191.out)
         replace HB := Zs.mk (below_drew1 HB.out)
         have p192 : 0 ≤ ((ji10) : Int) := of_decide_eq_true (by first | (with_reducible assumption) | assumption)
         have q192 : (ji10) < (l0.length : Int) := of_decide_eq_true (by first | (with_reducible assumption) | assumption)
         obtain ⟨ad192, e192, hx192_0⟩ := Kd.at_int HR0.out (ji10) p192 q192
         have hw192_0 := hx192_0
         cases e192
         replace hx192_0 := (HB.out.cell (World.block_lt_of_cell? w _ hx192_0)).trans hx192_0
         replace p192 := eq_true p192
         replace q192 := eq_true q192
         refine start_ (n := 11) (S := fun w' => w'.cell? (ad192.add ((ji10)).toNat) = some (.int .i64 (rd l0 (ji10)))) (ds := []) #[false, false, false, false, false, false, false, false, false, false, false] (by kernel_rfl) rfl rfl (((HB.out.cell (World.block_lt_of_cell? w _ hw192_0)).trans hw192_0)) (fun hHeld => ?_); refine with_tabW r8_Divide.tab7 r8_Divide.bits7 (fun HT_ HW_ => ?_)
         generalize w17.drew = w18 at HO_6 HO_7 HO191 HB hx192_0 hHeld ⊢
         refine pu 0 21 HT_ ?_
         refine pu 1 22 HT_ ?_
         refine pu 2 23 HT_ ?_
         refine pu 3 24 HT_ ?_
         refine pu 5 26 HT_ ?_
         refine pu 6 27 HT_ ?_
         refine take_ (i := 4) (N := some 25) (v := ?_) (a' := ?_) #[true, true, true, true, true, true, true, false, false, false, false] rfl rfl (take_ofW HT_.out HW_.out (by kernel_rfl)) (fun _ _ _ h => h) (Or.inl ⟨by rfl, ?_⟩) hHeld ?_ ?_
         rotate_left
         ·intro w' s0
          go_simp
          with_reducible rfl
         rotate_left
         ·simp only [Act.put, List.setIfInBounds_toArray, List.set_cons_zero, List.set_cons_succ, i64_w, i32_w]
          rfl
         refine on 7 28 HT_ (fun K hK => ?_)
         refine gsc Tryz.func71 (bs_Power.calls k1 (Int.tmod x8_1 16) t193 _ A13.out) (fun _ h_ => ?_)
         obtain ⟨nd, rfl⟩ := h_
         refine hK.out _ _ (((HB.out.cell (World.block_lt_of_cell? w _ hw192_0)).trans hw192_0)) (fun hHeld => ?_)
         clear hK K
         refine nm 28 ?_
         refine pu 8 29 HT_ ?_
         refine pu 9 30 HT_ ?_
         refine pu 10 31 HT_ ?_
         refine done_ (done_of HT_.out (by kernel_rfl)) ?_
         go_upto_if 31 with (fail)
         go_cut [7] (fun v7 wc => ∃ (kq : Nat) (x7_14 : List Int), Zs (r8_Divide.j1 kq l0 l1 x6_1 x7_14 x8_1 = some (r1, r2)) ∧ Zs (kq ≤ k1) ∧ Zs (Kd.R (Kd.int .i64) 3 wc w.heap.size (fun k_ => some k_ ≠ (v7 : Value).ownBlock) v183 x6_1) ∧ Zs (Kd.R (Kd.int .i64) 3 wc w.heap.size (fun k_ => some k_ ≠ (v183 : Value).ownBlock) v7 x7_14) ∧ Zs (Below w.heap.size w wc))
         case first =>
          have H := HC15.out
          clear HC15
          by_cases c19 : (Int.tmod (wrap64 (Int.tdiv (rd l0 (ji10)) t193)) 2) = 1
          ·rw [if_pos c19] at H
           have c19b0 : ((Int.tmod (wrap64 (Int.tdiv (rd l0 (ji10)) t193)) 2) == 1) = true := beq_iff_eq.mpr c19
           have c19b1 : ((Int.tmod (wrap64 (Int.tdiv (rd l0 (ji10)) t193)) 2) != 1) = false := bne_eq_false_iff_eq.mpr c19
           clear c19
           (first | rw [c19b0] | (simp only [i64_w, i32_w]; rw [c19b0]) | skip)
           obtain ⟨y194, hy194⟩ : ∃ y_ : List Int, y_ = (([1] : List Int)) := ⟨_, rfl⟩
           replace H : ((r8_Plus.f k1 t189 y194).bind fun t197 => (r8_Divide.j1 k1 l0 l1 x6_1 t197 x8_1)) = some (r1, r2) := by first | (rw [hy194]; with_reducible exact H) | (have H2_ := (Option.bind_some _ _).symm.trans H; rw [hy194]; with_reducible exact H2_) | (have H2_ := (Option.bind_some _ _).symm.trans H; with_reducible exact H2_) | with_reducible exact H | (rw [hy194]; exact H) | exact H
           have Ny194 := Zs.mk hy194
           clear hy194
           replace H := Option.bind_eq_some_iff.mp H
           obtain ⟨t197, A20, H⟩ := H
           try dsimp only at H
           replace A20 := Zs.mk A20
           have H' := Zs.mk H
           clear H
           go_wp2_with (first | ((with_reducible refine gd_ (N := 33) rfl ?_); refine Kd.R_lit (Kd.int .i64) _ 3 ?hg (N := 33) ?hd (xs := ([1] : List Int)) (inner := [.int .i64 1]) (ok := fun _ => True) (okp := fun _ => True) ?hr ?hp (fun _ hk => hk) trivial (Below.refl _ _) (Nat.le_refl _) (by simp) ?_; (case hd => rfl); (case hg => rfl); (case hr => first | (go_simp; done) | (go_simp; rfl)); (case hp => exact (Reps.one (show Kd.M (Kd.int .i64) _ _ _ 1 [.int .i64 1] from rfl) (Reps.none _ _))); intro v195 w21 ho22 hb hg_ hnew_; clear hg_ hnew_; (first | rw [← Ny194.out] at ho22 | (simp only [Int.reduceToNat] at ho22; rw [← Ny194.out] at ho22)); have HO196 := Zs.mk (Kd.R_lower (Kd.R_new' (Kd.R_new' (Kd.R_new' ho22 (Kd.R_lt (by (with_reducible repeat (first | apply Kd.R_alloc | apply Kd.R_drewN | apply Kd.R_drew)); exact HO_6.out))) (Kd.R_lt (by (with_reducible repeat (first | apply Kd.R_alloc | apply Kd.R_drewN | apply Kd.R_drew)); exact HO_7.out))) (Kd.R_lt (by (with_reducible repeat (first | apply Kd.R_alloc | apply Kd.R_drewN | apply Kd.R_drew)); exact HO191.out))) (below_size (blt HB).out)); replace HO_6 := Zs.mk (Kd.R_elder' (by (with_reducible repeat (first | apply Kd.R_alloc | apply Kd.R_drewN | apply Kd.R_drew)); exact HO_6.out) (Kd.R_base ho22) hb); replace HO_7 := Zs.mk (Kd.R_elder' (by (with_reducible repeat (first | apply Kd.R_alloc | apply Kd.R_drewN | apply Kd.R_drew)); exact HO_7.out) (Kd.R_base ho22) hb); replace HO191 := Zs.mk (Kd.R_elder' (by (with_reducible repeat (first | apply Kd.R_alloc | apply Kd.R_drewN | apply Kd.R_drew)); exact HO191.out) (Kd.R_base ho22) hb); replace HB := bls HB hb; clear hb ho22; obtain ⟨Ao23, co23, eo23⟩ := Kd.R_slice HO191.out; subst eo23; obtain ⟨Ao24, co24, eo24⟩ := Kd.R_slice HO196.out; subst eo24) | ((with_reducible refine gc_ (f := 112) rfl ?_); refine gL 34 Tryz.func112 #[.slice Ao23 t189.length co23, .slice Ao24 y194.length co24] ?_; (with_reducible refine (r8_Plus.calls k1 _ _ t189 _ _ y194 t197 _ ?side1 ?side2 ?side3 ?side4 A20.out).mono ?_); (case side1 => repeat (first | exact (Kd.R_reads' HO191.out).2.2 | (with_reducible refine Kd.C_alloc ?_ _) | (with_reducible refine Kd.C_drewN ?_ _) | (with_reducible refine Kd.C_drew ?_))); (case side2 => exact (Kd.R_reads' HO191.out).2.1); (case side3 => repeat (first | exact (Kd.R_reads' HO196.out).2.2 | (with_reducible refine Kd.C_alloc ?_ _) | (with_reducible refine Kd.C_drewN ?_ _) | (with_reducible refine Kd.C_drew ?_))); (case side4 => exact (Kd.R_reads' HO196.out).2.1); rintro e w25 ⟨v198, rfl, ho0, hb⟩; refine ⟨_, rfl, ?_⟩; have HO199 := Zs.mk (Kd.R_lower (Kd.R_new' (Kd.R_new' (Kd.R_new' (Kd.R_new' ho0 (Kd.R_lt (by (with_reducible repeat (first | apply Kd.R_alloc | apply Kd.R_drewN | apply Kd.R_drew)); exact HO_6.out))) (Kd.R_lt (by (with_reducible repeat (first | apply Kd.R_alloc | apply Kd.R_drewN | apply Kd.R_drew)); exact HO_7.out))) (Kd.R_lt (by (with_reducible repeat (first | apply Kd.R_alloc | apply Kd.R_drewN | apply Kd.R_drew)); exact HO191.out))) (Kd.R_lt (by (with_reducible repeat (first | apply Kd.R_alloc | apply Kd.R_drewN | apply Kd.R_drew)); exact HO196.out))) (below_size (blt HB).out)); replace HO_6 := Zs.mk (Kd.R_elder' (by (with_reducible repeat (first | apply Kd.R_alloc | apply Kd.R_drewN | apply Kd.R_drew)); exact HO_6.out) (Kd.R_base ho0) hb); replace HO_7 := Zs.mk (Kd.R_elder' (by (with_reducible repeat (first | apply Kd.R_alloc | apply Kd.R_drewN | apply Kd.R_drew)); exact HO_7.out) (Kd.R_base ho0) hb); replace HO191 := Zs.mk (Kd.R_elder' (by (with_reducible repeat (first | apply Kd.R_alloc | apply Kd.R_drewN | apply Kd.R_drew)); exact HO191.out) (Kd.R_base ho0) hb); replace HO196 := Zs.mk (Kd.R_elder' (by (with_reducible repeat (first | apply Kd.R_alloc | apply Kd.R_drewN | apply Kd.R_drew)); exact HO196.out) (Kd.R_base ho0) hb); replace HB := bls HB hb; (try clear hb); (try clear hb2); (try clear hk); (try clear hi); (try clear ho0)))
           go_meet
           case rel => exact ⟨_, (t197), H', ⟨by have := HK1.out; first | omega | exact Nat.le_refl _⟩, ⟨by (with_reducible repeat (first | apply Kd.R_alloc | apply Kd.R_drewN | apply Kd.R_drew)); exact Kd.R_mono HO_6.out (fun _ hk => hk.2)⟩, ⟨by (with_reducible repeat (first | apply Kd.R_alloc | apply Kd.R_drewN | apply Kd.R_drew)); exact Kd.R_mono HO199.out (fun _ hk => hk.1.1.1.2)⟩, blt HB⟩
          ·rw [if_neg c19] at H
           have c19b0 : ((Int.tmod (wrap64 (Int.tdiv (rd l0 (ji10)) t193)) 2) == 1) = false := beq_eq_false_iff_ne.mpr c19
           have c19b1 : ((Int.tmod (wrap64 (Int.tdiv (rd l0 (ji10)) t193)) 2) != 1) = true := bne_iff_ne.mpr c19
           (first | rw [c19b0] | (simp only [i64_w, i32_w]; rw [c19b0]) | skip)
           have H' := Zs.mk H
           clear H
           go_wp2
           go_meet
           case rel => exact ⟨_, (t189), H', ⟨by have := HK1.out; first | omega | exact Nat.le_refl _⟩, ⟨by (with_reducible repeat (first | apply Kd.R_alloc | apply Kd.R_drewN | apply Kd.R_drew)); exact Kd.R_mono HO_6.out (fun _ hk => hk.2)⟩, ⟨by (with_reducible repeat (first | apply Kd.R_alloc | apply Kd.R_drewN | apply Kd.R_drew)); exact Kd.R_mono HO191.out (fun _ hk => hk.1.2)⟩, blt HB⟩
         case rest =>
          clear HC15
          try clear c1
          try clear p1
          try clear q1
          try clear hx1
          try clear p2
          try clear c3
          try clear c3b0
          try clear c3b1
          try clear c4
          try clear c4b0
          try clear c4b1
          try clear p6
          try clear c7
          try clear c8
          try clear c8b0
          try clear c10
          try clear c11
          try clear c11b0
          try clear c12
          try clear c12b0
          try clear c14
          try clear c14b0
          try clear c14b1
          try clear c19
          try clear c19b0
          try clear c19b1
          try clear p19
          try clear q19
          try clear hx19
          try clear hx192_0
          try clear p192
          try clear p2
          try clear p6
          try clear q192
          obtain ⟨kq, x7_14, HA, HJ14, HO_6, HO_7, HB⟩ := hcut
          cases kq with
          | zero => exact absurd HA.out (by simp [r8_Divide.j1])
          | succ kj14 =>
           have H := HA.out
           clear HA
           simp only [r8_Divide.j1] at H
           replace H := Option.bind_eq_some_iff.mp H
           obtain ⟨t200, A26, H⟩ := H
           try dsimp only at H
           replace A26 := Zs.mk A26
           by_cases c27 : t200 ≥ 0
           ·rw [if_pos c27] at H
            have c27b0 : decide (0 ≤ t200) = true := decide_eq_true c27
            clear c27
            replace H := Option.bind_eq_some_iff.mp H
            obtain ⟨t201, A28, H⟩ := H
            try dsimp only at H
            replace A28 := Zs.mk A28
            obtain ⟨ji29, hji29⟩ : ∃ j_ : Int, (wrap64 (Int.tdiv x8_1 16)) = j_ := ⟨_, rfl⟩
            replace H : (if 0 ≤ (ji29) then (if (ji29) < (x6_1.length : Int) then ((bs_Power.f kj14 (Int.tmod x8_1 16)).bind fun t205 => (r8_Divide.l0 kj14 l0 l1 (x6_1.set ((ji29) : Int).toNat (wrap64 ((rd x6_1 (ji29)) + t205))) t201 (wrap64 (x8_1 - 1)))) else (none)) else (none)) = some (r1, r2) := by first | (rw [hji29] at H; exact H) | (simp only [hji29] at H ⊢; exact H)
            (try rw [hji29] at A26)
            (try rw [hji29] at A28)
            have hji29w : (IntKind.i64.wrap (Int.tdiv x8_1 16)) = ji29 := (i64_w _).trans hji29
            obtain rfl : ji29 = ji10 := hji29.symm.trans hji10
            by_cases c30 : 0 ≤ (ji29)
            ·rw [if_pos c30] at H
             have c30b0 : decide (0 ≤ (ji29)) = true := decide_eq_true c30
             clear c30
             by_cases c31 : (ji29) < (x6_1.length : Int)
             ·rw [if_pos c31] at H
              have c31b0 : decide ((ji29) < (x6_1.length : Int)) = true := decide_eq_true c31
              clear c31
              replace H := Option.bind_eq_some_iff.mp H
              obtain ⟨t205, A32, H⟩ := H
              try dsimp only at H
              replace A32 := Zs.mk A32
              obtain ⟨y206, hy206⟩ : ∃ y_ : List Int, y_ = (x6_1.set ((ji29) : Int).toNat (wrap64 ((rd x6_1 (ji29)) + t205))) := ⟨_, rfl⟩
              replace H : (r8_Divide.l0 kj14 l0 l1 y206 t201 (wrap64 (x8_1 - 1))) = some (r1, r2) := by first | (rw [hy206]; with_reducible exact H) | (have H2_ := (Option.bind_some _ _).symm.trans H; rw [hy206]; with_reducible exact H2_) | (have H2_ := (Option.bind_some _ _).symm.trans H; with_reducible exact H2_) | with_reducible exact H | (rw [hy206]; exact H) | exact H
              have Ny206 := Zs.mk hy206
              clear hy206
              have H' := Zs.mk H
              clear H
              obtain ⟨Ao34, co34, eo34⟩ := Kd.R_slice HO_7.out
              subst eo34
              try go_wp2_with (first | ((with_reducible refine gc_ (f := 116) rfl ?_); refine gL 37 Tryz.func116 #[.slice Ao34 x7_14.length co34, .slice A1 l1.length c1] ?_; (with_reducible refine (r8_Order.calls kj14 _ _ x7_14 _ _ l1 t200 _ ?side1 ?side2 ?side3 ?side4 A26.out).mono ?_); (case side1 => repeat (first | exact (Kd.R_reads' HO_7.out).2.2 | (with_reducible refine Kd.C_alloc ?_ _) | (with_reducible refine Kd.C_drewN ?_ _) | (with_reducible refine Kd.C_drew ?_))); (case side2 => exact (Kd.R_reads' HO_7.out).2.1); (case side3 => repeat (first | exact (Kd.C_below HR1.out HB.out) | (with_reducible refine Kd.C_alloc ?_ _) | (with_reducible refine Kd.C_drewN ?_ _) | (with_reducible refine Kd.C_drew ?_))); (case side4 => exact HC1.out); rintro e w' ⟨rfl, ⟨nd, rfl⟩⟩; refine ⟨_, rfl, ?_⟩; (try (rw [drewN_self wc]; generalize hq_ : World.drewN wc _ = wc; have n0_ : Zs (Kd.R (Kd.int .i64) 3 wc w.heap.size (fun k_ => some k_ ≠ (.slice Ao34 x7_14.length co34 : Value).ownBlock) v183 x6_1) := ⟨by rw [← hq_]; exact (by (with_reducible repeat (first | apply Kd.R_alloc | apply Kd.R_drewN | apply Kd.R_drew)); exact HO_6.out)⟩; have n1_ : Zs (Kd.R (Kd.int .i64) 3 wc w.heap.size (fun k_ => some k_ ≠ (v183 : Value).ownBlock) (.slice Ao34 x7_14.length co34) x7_14) := ⟨by rw [← hq_]; exact (by (with_reducible repeat (first | apply Kd.R_alloc | apply Kd.R_drewN | apply Kd.R_drew)); exact HO_7.out)⟩; have n2_ : Zs (Below w.heap.size w wc) := ⟨by rw [← hq_]; exact (blt HB).out⟩; clear HO_6 HO_7 HB hq_; have HO_6 := n0_; have HO_7 := n1_; have HB := n2_; clear n0_ n1_ n2_))) | ((with_reducible refine gc_ (f := 115) rfl ?_); refine gL 41 Tryz.func115 #[.slice Ao34 x7_14.length co34, .slice A1 l1.length c1] ?_; (with_reducible refine (r8_Minus.calls kj14 _ _ x7_14 _ _ l1 t201 _ ?side1 ?side2 ?side3 ?side4 A28.out).mono ?_); (case side1 => repeat (first | exact (Kd.R_reads' HO_7.out).2.2 | (with_reducible refine Kd.C_alloc ?_ _) | (with_reducible refine Kd.C_drewN ?_ _) | (with_reducible refine Kd.C_drew ?_))); (case side2 => exact (Kd.R_reads' HO_7.out).2.1); (case side3 => repeat (first | exact (Kd.C_below HR1.out HB.out) | (with_reducible refine Kd.C_alloc ?_ _) | (with_reducible refine Kd.C_drewN ?_ _) | (with_reducible refine Kd.C_drew ?_))); (case side4 => exact HC1.out); rintro e w35 ⟨v202, rfl, ho0, hb⟩; refine ⟨_, rfl, ?_⟩; have HO203 := Zs.mk (Kd.R_lower (Kd.R_new' (Kd.R_new' ho0 (Kd.R_lt (by (with_reducible repeat (first | apply Kd.R_alloc | apply Kd.R_drewN | apply Kd.R_drew)); exact HO_6.out))) (Kd.R_lt (by (with_reducible repeat (first | apply Kd.R_alloc | apply Kd.R_drewN | apply Kd.R_drew)); exact HO_7.out))) (below_size (blt HB).out)); replace HO_6 := Zs.mk (Kd.R_elder' (by (with_reducible repeat (first | apply Kd.R_alloc | apply Kd.R_drewN | apply Kd.R_drew)); exact HO_6.out) (Kd.R_base ho0) hb); replace HO_7 := Zs.mk (Kd.R_elder' (by (with_reducible repeat (first | apply Kd.R_alloc | apply Kd.R_drewN | apply Kd.R_drew)); exact HO_7.out) (Kd.R_base ho0) hb); replace HB := bls HB hb; (try clear hb); (try clear hb2); (try clear hk); (try clear hi); (try clear ho0)))
              replace HO_6 := Zs.mk (Kd.R_drew HO_6.out)
              replace HO_7 := Zs.mk (Kd.R_drew HO_7.out)
              replace HO203 := Zs.mk (Kd.R_drew HO203.out)
              replace HB := Zs.mk (below_drew1 HB.out)
              obtain ⟨Ao37, co37, eo37⟩ := Kd.R_slice HO_6.out
              (first | subst eo37 | (injection eo37 with f1_ f2_ f3_; have f4_ := f1_.symm; have f5_ := f3_.symm; clear f1_ f2_ f3_; subst f4_; subst f5_))
              have p204 : 0 ≤ ((ji29) : Int) := of_decide_eq_true (by first | (with_reducible assumption) | assumption)
              have q204 : (ji29) < (x6_1.length : Int) := of_decide_eq_true (by first | (with_reducible assumption) | assumption)
              obtain ⟨ad204, e204, hx204_0⟩ := Kd.at_int (Kd.R_reads' HO_6.out).2.2 (ji29) p204 q204
              cases e204
              replace p204 := eq_true p204
              replace q204 := eq_true q204
              refine start_ (n := 14) (S := fun w' => w'.cell? (ad204.add ((ji29)).toNat) = some (.int .i64 (rd x6_1 (ji29)))) (ds := [13]) #[false, false, false, false, false, false, false, false, false, false, false, false, false, false] (by kernel_rfl) rfl rfl (hx204_0) (fun hHeld => ?_); refine with_tabW r8_Divide.tab11 r8_Divide.bits11 (fun HT_ HW_ => ?_)
              generalize w35.drew = w36 at HO_6 HO_7 HO203 HB hx204_0 hHeld ⊢
              refine pu 0 42 HT_ ?_
              refine pu 1 43 HT_ ?_
              refine pu 2 44 HT_ ?_
              refine pu 3 45 HT_ ?_
              refine pu 4 46 HT_ ?_
              refine pu 5 47 HT_ ?_
              refine pu 6 48 HT_ ?_
              refine pu 8 50 HT_ ?_
              refine pu 9 51 HT_ ?_
              refine take_ (i := 7) (N := some 49) (v := ?_) (a' := ?_) #[true, true, true, true, true, true, true, true, true, true, false, false, false, false] rfl rfl (take_ofW HT_.out HW_.out (by kernel_rfl)) (fun _ _ _ h => h) (Or.inl ⟨by rfl, ?_⟩) hHeld ?_ ?_
              rotate_left
              ·intro w' s0
               go_simp
               with_reducible rfl
              rotate_left
              ·simp only [Act.put, List.setIfInBounds_toArray, List.set_cons_zero, List.set_cons_succ, i64_w, i32_w]
               rfl
              refine on 10 52 HT_ (fun K hK => ?_)
              refine gsc Tryz.func71 (bs_Power.calls kj14 (Int.tmod x8_1 16) t205 _ A32.out) (fun _ h_ => ?_)
              obtain ⟨nd, rfl⟩ := h_
              have p33 : 0 ≤ ((ji29) : Int) := of_decide_eq_true (by first | (with_reducible assumption) | assumption)
              have q33 : ((ji29) : Int) < ((x6_1.length : Int) : Int) := of_decide_eq_true (by first | (with_reducible assumption) | assumption)
              obtain ⟨go33, co33, eo33, gb33, gl33, cl33, HG33⟩ := Kd.R_form HO_6.out (by omega)
              (first | cases eo33 | (injection eo33 with ea_ en_ ec_; (first | subst ea_ | (injection ea_ with ea_; subst ea_)); subst ec_; clear en_))
              have GB33 := Zs.mk gb33
              have GG33 := Zs.mk HG33
              clear gb33 gl33 HG33
              (first | simp only [add_plain] at hx204_0 | skip)
              obtain ⟨hx33_0, hf33_0⟩ := Kd.R_celln 0 HO_6.out ((ji29) : Int) p33 q33
              replace p33 := eq_true p33
              replace q33 := eq_true q33
              have HP38 := Kd.R_putn HO_6.out ((ji29) : Int) (wrap64 ((rd x6_1 (ji29)) + t205))
              rw [← Ny206.out] at HP38
              have HQ38 := Zs.mk HP38
              clear HP38
              refine hK.out _ _ (hHeld) (fun hHeld => ?_)
              clear hK K
              refine nm 52 ?_
              refine pu 11 53 HT_ ?_
              refine pu 12 54 HT_ ?_
              refine last_ (i := 13) (N := none) #[true, true, true, true, true, true, true, true, true, true, true, true, true, true] rfl rfl (one_of HT_.out (by kernel_rfl)) (by decide) (fun K hK => ?_)
              refine skip_ (w1 := ?_) (by rfl) rfl ?_ ?_
              rotate_left
              ·go_simp
               rfl
              refine hK.out _ _ ?_
              clear hK K
              refine done_ (done_of HT_.out (by kernel_rfl)) ?_
              try go_wp2
              go_roundg kj14
              case measure => have := HK1.out; have := HJ14.out; omega
              case rel => exact ⟨(y206), (t201), (wrap64 (x8_1 - 1)), (by first | rfl | (simp; done) | (simp [*]; done)), H', ⟨by have := HK1.out; have := HJ14.out; omega⟩, ⟨by (with_reducible repeat (first | apply Kd.R_alloc | apply Kd.R_drewN | apply Kd.R_drew)); exact Kd.R_mono HQ38.out (fun _ hk => hk.2)⟩, ⟨by (with_reducible repeat (first | apply Kd.R_alloc | apply Kd.R_drewN | apply Kd.R_drew)); exact Kd.R_mono (Kd.R_far (p := ⟨go33, ((ji29) : Int).toNat, none⟩) (Kd.R_mono HO203.out (fun k_ hk => (⟨hk, fun e_ => hk.1.2 (by rw [e_]; rfl)⟩ : _ ∧ k_ ≠ go33))) (fun _ hk => hk.2) (.int .i64 (wrap64 ((rd x6_1 (ji29)) + t205)))) (fun _ hk => hk.1.1.2)⟩, ⟨by repeat (first | (with_reducible first | exact HB.out | apply below_alloc | apply pw_below_drewN | apply below_drew1 | refine below_set ?_ GB33.out) | exact HB.out)⟩⟩
             ·rw [if_neg c31] at H
              exact absurd H (by simp)
            ·rw [if_neg c30] at H
             exact absurd H (by simp)
           ·rw [if_neg c27] at H
            have c27b0 : decide (0 ≤ t200) = false := decide_eq_false c27
            clear c27
            have H' := Zs.mk H
            clear H
            obtain ⟨Ao39, co39, eo39⟩ := Kd.R_slice HO_7.out
            subst eo39
            go_wp2_with (first | ((with_reducible refine gc_ (f := 116) rfl ?_); refine gL 37 Tryz.func116 #[.slice Ao39 x7_14.length co39, .slice A1 l1.length c1] ?_; (with_reducible refine (r8_Order.calls kj14 _ _ x7_14 _ _ l1 t200 _ ?side1 ?side2 ?side3 ?side4 A26.out).mono ?_); (case side1 => repeat (first | exact (Kd.R_reads' HO_7.out).2.2 | (with_reducible refine Kd.C_alloc ?_ _) | (with_reducible refine Kd.C_drewN ?_ _) | (with_reducible refine Kd.C_drew ?_))); (case side2 => exact (Kd.R_reads' HO_7.out).2.1); (case side3 => repeat (first | exact (Kd.C_below HR1.out HB.out) | (with_reducible refine Kd.C_alloc ?_ _) | (with_reducible refine Kd.C_drewN ?_ _) | (with_reducible refine Kd.C_drew ?_))); (case side4 => exact HC1.out); rintro e w' ⟨rfl, ⟨nd, rfl⟩⟩; refine ⟨_, rfl, ?_⟩))
            go_roundg kj14
            case measure => have := HK1.out; have := HJ14.out; omega
            case rel => exact ⟨(x6_1), (x7_14), (wrap64 (x8_1 - 1)), (by first | rfl | (simp; done) | (simp [*]; done)), H', ⟨by have := HK1.out; have := HJ14.out; omega⟩, ⟨by (with_reducible repeat (first | apply Kd.R_alloc | apply Kd.R_drewN | apply Kd.R_drew)); exact HO_6.out⟩, ⟨by (with_reducible repeat (first | apply Kd.R_alloc | apply Kd.R_drewN | apply Kd.R_drew)); exact HO_7.out⟩, blt HB⟩
       ·rw [if_neg c12] at H
        exact absurd H (by simp)
      ·rw [if_neg c11] at H
       exact absurd H (by simp)
     ·rw [if_neg c8] at H
      have c8b0 : decide (0 ≤ x8_1) = false := decide_eq_false c8
      clear c8
      replace H := Option.bind_eq_some_iff.mp H
      obtain ⟨t186, A40, H⟩ := H
      try dsimp only at H
      replace A40 := Zs.mk A40
      simp only [Option.some.injEq, Prod.mk.injEq] at H
      obtain ⟨rfl, rfl⟩ := H
      obtain ⟨Ao41, co41, eo41⟩ := Kd.R_slice HO_6.out
      subst eo41
      go_wp2_with (first | ((with_reducible refine gc_ (f := 137) rfl ?_); refine gL 56 Tryz.func137 #[.slice Ao41 x6_1.length co41] ?_; (with_reducible refine (r8_trim.calls k1 (fun k_ => some k_ = (.slice Ao41 x6_1.length co41 : Value).ownBlock) (.slice Ao41 x6_1.length co41) x6_1 t186 w _ ?side1 ?side2 A40.out).mono ?_); (case side1 => repeat (first | (with_reducible first | exact HB.out | apply below_alloc | apply pw_below_drewN | apply below_drew1) | exact HB.out)); (case side2 => exact Kd.R_tight rfl HO_6.out); rintro e w42 ⟨v187, rfl, ho0, hb, hkp⟩; refine ⟨_, rfl, ?_⟩; have n0_ := Zs.mk (Kd.R_mono (ok' := fun k_ => some k_ ≠ (v187 : Value).ownBlock) (Kd.R_keptB (HO_7.out) hkp (fun k_ hk_ hs_ => (hk_) hs_)) (fun k_ hk_ => fun e_ => Or.elim (ho0.1 k_ e_.symm) (fun hs_ => hk_.2.1 hs_) (fun hn_ => Nat.not_le.2 hk_.2.2 hn_))); have n1_ := Zs.mk (Kd.R_mono (ok' := fun k_ => some k_ ≠ (u7 : Value).ownBlock) ho0 (fun k_ hk_ => Or.elim hk_ (fun hs_ => fun e_ => (((HO_7.out).1 k_ e_.symm)) hs_) (fun hn_ => (Kd.fresh' (Kd.R_lt (by (with_reducible repeat (first | apply Kd.R_alloc | apply Kd.R_drewN | apply Kd.R_drew)); exact HO_7.out)) k_ hn_)))); have n2_ := Zs.mk (hb); clear HO_7; clear HB; clear HO_6; have HO_7 := n0_; have HO188 := n1_; have HB := n2_; clear n0_ n1_ n2_; (try clear hb); (try clear hkp); (try clear ho0)))
      go_ret2
      exact ⟨_, _, by first | rfl | (simp [errW_none, errW_some] <;> rfl) | (simp [*, errW_none, errW_some] <;> rfl), by (with_reducible repeat (first | apply Kd.R_alloc | apply Kd.R_drewN | apply Kd.R_drew)); exact HO188.out, by (with_reducible repeat (first | apply Kd.R_alloc | apply Kd.R_drewN | apply Kd.R_drew)); exact HO_7.out, (blt HB).out⟩
  ·rw [if_neg c4] at H
   exact absurd H (by simp)
 ·rw [if_neg c3] at H
  exact absurd H (by simp)
end Go.Proofs.YtmoimcblmmcffaaGreat.PN

namespace Go.Proofs.YtmoimcblmmcffaaGreat.PN
open Go.RowKit Go.Proofs.YtmoimcblmmcffaaGreatW.PrintWords Go.Proofs.YtmoimcblmmcffaaGreatW.PrintLast Go.Proofs.YtmoimcblmmcffaaGreatW.PrintMore Go.Proofs.YtmoimcblmmcffaaGreatW.PrintZ
attribute [local go_sem] max2_int min2_int max_two min_two max_three min_three max_four min_four   -- for this text's walks alone
set_option linter.unusedVariables false
set_option linter.unusedSimpArgs false


mutual
def r8_Right.l0 : Nat → List Int → Int → Int → Bool → Int → Option (List Int × Bool)
 | 0, _, _, _, _, _ => none
 | k + 1, x0, x1, x6, x7, x8 => if x8 < x6 then (if x7 = true then (r8_Right.l0 k x0 x1 x6 true (wrap64 (x8 + 1))) else (if 0 ≤ x8 then (if x8 < (x0.length : Int) then (r8_Right.l0 k x0 x1 x6 ((rd x0 x8) != 0) (wrap64 (x8 + 1))) else (none)) else (none))) else (if 0 ≤ (wrap64 ((x0.length : Int) - x6)) then (if (wrap64 ((x0.length : Int) - x6) : Int).toNat ≤ 35184372088832 then ((bs_Power.f k (Int.tmod x1 16)).bind fun t211 => (r8_Right.l1 k x0 x6 x7 (List.replicate (wrap64 ((x0.length : Int) - x6) : Int).toNat 0) 0 t211 (wrap64 ((x0.length : Int) - 1)))) else (none)) else (none))
def r8_Right.l1 : Nat → List Int → Int → Bool → List Int → Int → Int → Int → Option (List Int × Bool)
 | 0, _, _, _, _, _, _, _ => none
 | k + 1, x0, x6, x7, x9, x10, x11, x12 => if x12 ≥ x6 then (if 0 ≤ x12 then (if x12 < (x0.length : Int) then (if x11 = 0 then (none) else (if 0 ≤ (wrap64 (x12 - x6)) then (if (wrap64 (x12 - x6)) < (x9.length : Int) then (r8_Right.l1 k x0 x6 x7 (x9.set ((wrap64 (x12 - x6)) : Int).toNat (wrap64 (Int.tdiv (wrap64 ((wrap64 (x10 * 65536)) + (rd x0 x12))) x11))) (Int.tmod (wrap64 ((wrap64 (x10 * 65536)) + (rd x0 x12))) x11) x11 (wrap64 (x12 - 1))) else (none)) else (none))) else (none)) else (none)) else ((r8_trim.f k x9).bind fun t214 => (if x7 = true then (some (t214, true)) else (some (t214, (x10 != 0)))))
end
def r8_Right.f (k : Nat) (l0 : List Int) (a1 : Int) : Option (List Int × Bool) := r8_Right.l0 k l0 a1 (mn (wrap64 (Int.tdiv a1 16)) (l0.length : Int)) false 0
set_option maxHeartbeats 8000000 in
set_option maxRecDepth 100000 in
theorem r8_Right.calls (k : Nat) (A0 : Option Addr) (c0 : Nat) (l0 : List Int) (a1 : Int) (r1 : List Int) (r2 : Bool) (w : World) (hr0 : Kd.C (Kd.int .i64) w A0 l0.length l0) (hc0 : l0.length ≤ c0) (h : r8_Right.f k l0 a1 = some (r1, r2)) :
  Calls Tryz.prog 114 #[.slice A0 l0.length c0, .int .i64 a1] w fun e w' => ∃ v0_ : Value, e = .returned (.tuple #[v0_, .bool r2]) ∧ Kd.R (Kd.int .i64) 3 w' w.heap.size (fun _ => True) v0_ r1 ∧ Below w.heap.size w w' := by
 have HR0 := Zs.mk hr0
 have HC0 := Zs.mk hc0
 clear hr0 hc0
 have HB := Zs.mk (Below.refl w.heap.size w)
 have H : (r8_Right.l0 k l0 a1 (mn (wrap64 (Int.tdiv a1 16)) (l0.length : Int)) false 0) = some (r1, r2) := h
 clear h
 obtain ⟨ji3, hji3⟩ : ∃ j_ : Int, (mn (wrap64 (Int.tdiv a1 16)) (l0.length : Int)) = j_ := ⟨_, rfl⟩
 replace H : (r8_Right.l0 k l0 a1 ji3 false 0) = some (r1, r2) := by first | (rw [hji3] at H; exact H) | (simp only [hji3] at H ⊢; exact H)
 have hji3_ : (if (l0.length : Int) < (wrap64 (Int.tdiv a1 16)) then (l0.length : Int) else (wrap64 (Int.tdiv a1 16))) = ji3 := hji3
 have H' := Zs.mk H
 clear H
 go_enter Tryz.func114, Tryz.ntmps114
 go_wp2
 go_loopg [7, 8] k (fun kq v7 v8 w' => ∃ (x7_1 : Bool) (x8_1 : Int), v7 = .bool x7_1 ∧ v8 = .int .i64 x8_1 ∧ Zs (r8_Right.l0 kq l0 a1 ji3 x7_1 x8_1 = some (r1, r2)) ∧ Zs (kq ≤ k) ∧ Zs (Below w.heap.size w w'))
 case atStart => exact ⟨(false), (0), (by first | rfl | (simp; done) | (simp [*]; done)), (by first | rfl | (simp; done) | (simp [*]; done)), H', ⟨Nat.le_refl _⟩, blt HB⟩
 case round =>
  clear H'
  try clear c1
  try clear p2
  obtain ⟨x7_1, x8_1, rfl, rfl, HA, HK1, HB⟩ := hrel
  cases gk with
  | zero => exact absurd HA.out (by simp [r8_Right.l0])
  | succ k1 =>
   have H := HA.out
   clear HA
   simp only [r8_Right.l0] at H
   by_cases c4 : x8_1 < ji3
   ·rw [if_pos c4] at H
    have c4b0 : decide (x8_1 < ji3) = true := decide_eq_true c4
    clear c4
    by_cases c5 : x7_1 = true
    ·subst c5
     have H1 : (r8_Right.l0 k1 l0 a1 ji3 true (wrap64 (x8_1 + 1))) = some (r1, r2) := by rw [if_pos rfl] at H; exact H
     clear H
     have H := H1
     clear H1
     have H' := Zs.mk H
     clear H
     go_wp2
     go_roundg k1
     case measure => have := HK1.out; omega
     case rel => exact ⟨(true), (wrap64 (x8_1 + 1)), (by first | rfl | (simp; done) | (simp [*]; done)), (by first | rfl | (simp; done) | (simp [*]; done)), H', ⟨by have := HK1.out; omega⟩, blt HB⟩
    ·replace c5 := Bool.eq_false_iff.mpr c5
     subst c5
     have H1 : (if 0 ≤ x8_1 then (if x8_1 < (l0.length : Int) then (r8_Right.l0 k1 l0 a1 ji3 ((rd l0 x8_1) != 0) (wrap64 (x8_1 + 1))) else (none)) else (none)) = some (r1, r2) := by rw [if_neg (show ¬ (false = true) by decide)] at H; exact H
     clear H
     have H := H1
     clear H1
     by_cases c6 : 0 ≤ x8_1
     ·rw [if_pos c6] at H
      have c6b0 : decide (0 ≤ x8_1) = true := decide_eq_true c6
      clear c6
      by_cases c7 : x8_1 < (l0.length : Int)
      ·rw [if_pos c7] at H
       have c7b0 : decide (x8_1 < (l0.length : Int)) = true := decide_eq_true c7
       clear c7
       have H' := Zs.mk H
       clear H
       have p207 : 0 ≤ (x8_1 : Int) := of_decide_eq_true (by first | (with_reducible assumption) | assumption)
       have q207 : x8_1 < (l0.length : Int) := of_decide_eq_true (by first | (with_reducible assumption) | assumption)
       obtain ⟨ad207, e207, hx207_0⟩ := Kd.at_int HR0.out x8_1 p207 q207
       cases e207
       replace hx207_0 := (HB.out.cell (World.block_lt_of_cell? w _ hx207_0)).trans hx207_0
       replace p207 := eq_true p207
       replace q207 := eq_true q207
       go_wp2
       go_roundg k1
       case measure => have := HK1.out; omega
       case rel => exact ⟨(((rd l0 x8_1) != 0)), (wrap64 (x8_1 + 1)), (by first | rfl | (simp; done) | (simp [*]; done)), (by first | rfl | (simp; done) | (simp [*]; done)), H', ⟨by have := HK1.out; omega⟩, blt HB⟩
      ·rw [if_neg c7] at H
       exact absurd H (by simp)
     ·rw [if_neg c6] at H
      exact absurd H (by simp)
   ·rw [if_neg c4] at H
    have c4b0 : decide (x8_1 < ji3) = false := decide_eq_false c4
    clear c4
    obtain ⟨ji8, hji8⟩ : ∃ j_ : Int, (wrap64 ((l0.length : Int) - ji3)) = j_ := ⟨_, rfl⟩
    replace H : (if 0 ≤ (ji8) then (if (ji8 : Int).toNat ≤ 35184372088832 then ((bs_Power.f k1 (Int.tmod a1 16)).bind fun t211 => (r8_Right.l1 k1 l0 ji3 x7_1 (List.replicate (ji8 : Int).toNat 0) 0 t211 (wrap64 ((l0.length : Int) - 1)))) else (none)) else (none)) = some (r1, r2) := by first | (rw [hji8] at H; exact H) | (simp only [hji8] at H ⊢; exact H)
    have hji8w : (IntKind.i64.wrap ((l0.length : Int) - ji3)) = ji8 := (i64_w _).trans hji8
    by_cases c9 : 0 ≤ (ji8)
    ·rw [if_pos c9] at H
     have c9b0 := eq_true c9
     have c9b1 : decide (0 ≤ (ji8)) = true := decide_eq_true c9
     clear c9
     by_cases c10 : (ji8 : Int).toNat ≤ 35184372088832
     ·rw [if_pos c10] at H
      have c10b0 := eq_true c10
      have c10b1 : decide ((ji8 : Int).toNat ≤ 35184372088832) = true := decide_eq_true c10
      clear c10
      obtain ⟨y208, hy208⟩ : ∃ y_ : List Int, y_ = (List.replicate (ji8 : Int).toNat 0) := ⟨_, rfl⟩
      replace H : ((bs_Power.f k1 (Int.tmod a1 16)).bind fun t211 => (r8_Right.l1 k1 l0 ji3 x7_1 y208 0 t211 (wrap64 ((l0.length : Int) - 1)))) = some (r1, r2) := by first | (rw [hy208]; with_reducible exact H) | (have H2_ := (Option.bind_some _ _).symm.trans H; rw [hy208]; with_reducible exact H2_) | (have H2_ := (Option.bind_some _ _).symm.trans H; with_reducible exact H2_) | with_reducible exact H | (rw [hy208]; exact H) | exact H
      have Ny208 := Zs.mk hy208
      clear hy208
      replace H := Option.bind_eq_some_iff.mp H
      obtain ⟨t211, A11, H⟩ := H
      try dsimp only at H
      replace A11 := Zs.mk A11
      have H' := Zs.mk H
      clear H
      go_wp2_with (first | ((with_reducible refine gd_ (N := 36) rfl ?_); refine Kd.R_make (Kd.int .i64) _ 3 rfl (N := 36) rfl 36 _ _ rfl ji8 rfl rfl Tryz.underlying36 (.int .i64 0) 8 info3 rfl (by decide) (by omega) 0 (ok := fun _ => True) (okp := fun _ => True) rfl (fun _ hk => hk) trivial (of_decide_eq_true (by first | (with_reducible assumption) | assumption)) (Nat.le_trans (Nat.mul_le_mul_right _ (of_decide_eq_true (by first | (with_reducible assumption) | assumption) : ji8.toNat ≤ 35184372088832)) (by omega)) (Below.refl _ _) (Nat.le_refl _) ?_; intro v209 w12 ho13 hb hg_ hnew_; clear hg_ hnew_; (first | rw [← Ny208.out] at ho13 | (simp only [Int.reduceToNat] at ho13; rw [← Ny208.out] at ho13)); have HO210 := Zs.mk (Kd.R_lower ho13 (below_size (blt HB).out)); replace HB := bls HB hb; clear hb ho13) | ((with_reducible refine gc_ (f := 71) rfl ?_); refine gLc 39 Tryz.func71 (bs_Power.calls k1 (Int.tmod a1 16) t211 _ A11.out) (fun _ h_ => ?_); obtain ⟨nd, rfl⟩ := h_))
      go_loopg [10, 12] k1 (fun kq v10 v12 w' => ∃ (x9_2 : List Int) (x10_2 : Int) (x12_2 : Int), v10 = .int .i64 x10_2 ∧ v12 = .int .i64 x12_2 ∧ Zs (r8_Right.l1 kq l0 ji3 x7_1 x9_2 x10_2 t211 x12_2 = some (r1, r2)) ∧ Zs (kq ≤ k1) ∧ Zs (Kd.R (Kd.int .i64) 3 w' w.heap.size (fun _ => True) v209 x9_2) ∧ Zs (Below w.heap.size w w'))
      case atStart => exact ⟨(y208), (0), (wrap64 ((l0.length : Int) - 1)), (by first | rfl | (simp; done) | (simp [*]; done)), (by first | rfl | (simp; done) | (simp [*]; done)), H', ⟨Nat.le_refl _⟩, ⟨by (with_reducible repeat (first | apply Kd.R_alloc | apply Kd.R_drewN | apply Kd.R_drew)); exact HO210.out⟩, blt HB⟩
      case round =>
       clear H'
       try clear c1
       try clear p2
       try clear q2
       try clear hx2
       try clear c4
       try clear c4b0
       try clear c5
       try clear c6
       try clear c6b0
       try clear p6
       try clear c7
       try clear c7b0
       try clear c9
       try clear c9b0
       try clear c9b1
       try clear c10
       try clear c10b0
       try clear c10b1
       try clear c11
       try clear hx207_0
       try clear p2
       try clear p207
       try clear q207
       obtain ⟨x9_2, x10_2, x12_2, rfl, rfl, HA, HK2, HO_9, HB⟩ := hrel
       cases gk with
       | zero => exact absurd HA.out (by simp [r8_Right.l1])
       | succ k2 =>
        have H := HA.out
        clear HA
        simp only [r8_Right.l1] at H
        by_cases c14 : x12_2 ≥ ji3
        ·rw [if_pos c14] at H
         have c14b0 : decide (ji3 ≤ x12_2) = true := decide_eq_true c14
         clear c14
         by_cases c15 : 0 ≤ x12_2
         ·rw [if_pos c15] at H
          have c15b0 : decide (0 ≤ x12_2) = true := decide_eq_true c15
          clear c15
          by_cases c16 : x12_2 < (l0.length : Int)
          ·rw [if_pos c16] at H
           have c16b0 : decide (x12_2 < (l0.length : Int)) = true := decide_eq_true c16
           clear c16
           by_cases c17 : t211 = 0
           ·rw [if_pos c17] at H
            exact absurd H (by simp)
           ·rw [if_neg c17] at H
            have c17b0 : (t211 == 0) = false := beq_eq_false_iff_ne.mpr c17
            have c17b1 : (t211 != 0) = true := bne_iff_ne.mpr c17
            obtain ⟨ji18, hji18⟩ : ∃ j_ : Int, (wrap64 (x12_2 - ji3)) = j_ := ⟨_, rfl⟩
            replace H : (if 0 ≤ (ji18) then (if (ji18) < (x9_2.length : Int) then (r8_Right.l1 k2 l0 ji3 x7_1 (x9_2.set ((ji18) : Int).toNat (wrap64 (Int.tdiv (wrap64 ((wrap64 (x10_2 * 65536)) + (rd l0 x12_2))) t211))) (Int.tmod (wrap64 ((wrap64 (x10_2 * 65536)) + (rd l0 x12_2))) t211) t211 (wrap64 (x12_2 - 1))) else (none)) else (none)) = some (r1, r2) := by first | (rw [hji18] at H; exact H) | (simp only [hji18] at H ⊢; exact H)
            have hji18w : (IntKind.i64.wrap (x12_2 - ji3)) = ji18 := (i64_w _).trans hji18
            by_cases c19 : 0 ≤ (ji18)
            ·rw [if_pos c19] at H
             have c19b0 : decide (0 ≤ (ji18)) = true := decide_eq_true c19
             clear c19
             by_cases c20 : (ji18) < (x9_2.length : Int)
             ·rw [if_pos c20] at H
              have c20b0 : decide ((ji18) < (x9_2.length : Int)) = true := decide_eq_true c20
              clear c20
              obtain ⟨y213, hy213⟩ : ∃ y_ : List Int, y_ = (x9_2.set ((ji18) : Int).toNat (wrap64 (Int.tdiv (wrap64 ((wrap64 (x10_2 * 65536)) + (rd l0 x12_2))) t211))) := ⟨_, rfl⟩
              replace H : (r8_Right.l1 k2 l0 ji3 x7_1 y213 (Int.tmod (wrap64 ((wrap64 (x10_2 * 65536)) + (rd l0 x12_2))) t211) t211 (wrap64 (x12_2 - 1))) = some (r1, r2) := by first | (rw [hy213]; with_reducible exact H) | (have H2_ := (Option.bind_some _ _).symm.trans H; rw [hy213]; with_reducible exact H2_) | (have H2_ := (Option.bind_some _ _).symm.trans H; with_reducible exact H2_) | with_reducible exact H | (rw [hy213]; exact H) | exact H
              have Ny213 := Zs.mk hy213
              clear hy213
              have H' := Zs.mk H
              clear H
              have p212 : 0 ≤ (x12_2 : Int) := of_decide_eq_true (by first | (with_reducible assumption) | assumption)
              have q212 : x12_2 < (l0.length : Int) := of_decide_eq_true (by first | (with_reducible assumption) | assumption)
              obtain ⟨ad212, e212, hx212_0⟩ := Kd.at_int HR0.out x12_2 p212 q212
              cases e212
              replace hx212_0 := (HB.out.cell (World.block_lt_of_cell? w _ hx212_0)).trans hx212_0
              replace p212 := eq_true p212
              replace q212 := eq_true q212
              have p21 : 0 ≤ ((ji18) : Int) := of_decide_eq_true (by first | (with_reducible assumption) | assumption)
              have q21 : ((ji18) : Int) < ((x9_2.length : Int) : Int) := of_decide_eq_true (by first | (with_reducible assumption) | assumption)
              obtain ⟨go21, co21, eo21, gb21, gl21, cl21, HG21⟩ := Kd.R_form HO_9.out (by omega)
              (first | cases eo21 | (injection eo21 with ea_ en_ ec_; (first | subst ea_ | (injection ea_ with ea_; subst ea_)); subst ec_; clear en_))
              have GB21 := Zs.mk gb21
              have GG21 := Zs.mk HG21
              clear gb21 gl21 HG21
              obtain ⟨hx21_0, hf21_0⟩ := Kd.R_celln 0 HO_9.out ((ji18) : Int) p21 q21
              replace p21 := eq_true p21
              replace q21 := eq_true q21
              have HP22 := Kd.R_putg HO_9.out ((ji18) : Int) (wrap64 (Int.tdiv (wrap64 ((wrap64 (x10_2 * 65536)) + (rd l0 x12_2))) t211))
              go_wp2_with (first | ((with_reducible refine gate_store (t := 3) (p := 62) rfl ?_); refine store_event (t := 3) (p := 62) (v := ?vo_w23) (w1 := (wr.setCell ⟨go21, ((ji18) : Int).toNat, none⟩ (.int .i64 (wrap64 (Int.tdiv (wrap64 ((wrap64 (x10_2 * 65536)) + (rd l0 x12_2))) t211))))) ?hg ?ho ?hn ?hr ?_; (case ho => rfl); (case hg => rfl); (case hn => rfl); (case hr => first | (go_simp; done) | (go_simp; rfl)); intro w23 hw; have hg : wr.grownBy w23 (some go21) := (by rw [hw]; exact HP22.2); have hp_ : Kd.R (Kd.int .i64) 3 w23 w.heap.size (fun _ => True) (.slice (some ⟨go21, 0, none⟩) x9_2.length co21) y213 := (by rw [hw, Ny213.out]; exact HP22.1); clear HP22; replace HO_9 := Zs.mk (hp_); replace HB := Zs.mk ((by rw [hw]; exact below_set (HB.out) GB21.out : Below w.heap.size w w23)); clear hg hw hp_))
              go_roundg k2
              case measure => have := HK1.out; have := HK2.out; omega
              case rel => exact ⟨(y213), (Int.tmod (wrap64 ((wrap64 (x10_2 * 65536)) + (rd l0 x12_2))) t211), (wrap64 (x12_2 - 1)), (by first | rfl | (simp; done) | (simp [*]; done)), (by first | rfl | (simp; done) | (simp [*]; done)), H', ⟨by have := HK1.out; have := HK2.out; omega⟩, ⟨by (with_reducible repeat (first | apply Kd.R_alloc | apply Kd.R_drewN | apply Kd.R_drew)); exact HO_9.out⟩, blt HB⟩
             ·rw [if_neg c20] at H
              exact absurd H (by simp)
            ·rw [if_neg c19] at H
             exact absurd H (by simp)
          ·rw [if_neg c16] at H
           exact absurd H (by simp)
         ·rw [if_neg c15] at H
          exact absurd H (by simp)
        ·rw [if_neg c14] at H
         have c14b0 : decide (ji3 ≤ x12_2) = false := decide_eq_false c14
         clear c14
         replace H := Option.bind_eq_some_iff.mp H
         obtain ⟨t214, A24, H⟩ := H
         try dsimp only at H
         replace A24 := Zs.mk A24
         by_cases c25 : x7_1 = true
         ·subst c25
          have H1 : (some (t214, true)) = some (r1, r2) := by rw [if_pos rfl] at H; exact H
          clear H
          have H := H1
          clear H1
          simp only [Option.some.injEq, Prod.mk.injEq] at H
          obtain ⟨rfl, rfl⟩ := H
          obtain ⟨Ao26, co26, eo26⟩ := Kd.R_slice HO_9.out
          subst eo26
          go_wp2_with (first | ((with_reducible refine gc_ (f := 137) rfl ?_); refine gL 67 Tryz.func137 #[.slice Ao26 x9_2.length co26] ?_; (with_reducible refine (r8_trim.calls k2 (fun k_ => some k_ = (.slice Ao26 x9_2.length co26 : Value).ownBlock) (.slice Ao26 x9_2.length co26) x9_2 t214 w _ ?side1 ?side2 A24.out).mono ?_); (case side1 => repeat (first | (with_reducible first | exact HB.out | apply below_alloc | apply pw_below_drewN | apply below_drew1) | exact HB.out)); (case side2 => exact Kd.R_tight rfl HO_9.out); rintro e w27 ⟨v215, rfl, ho0, hb, hkp⟩; refine ⟨_, rfl, ?_⟩; have n0_ := Zs.mk (Kd.R_mono (ok' := fun k_ => True) ho0 (fun k_ hk_ => trivial)); have n1_ := Zs.mk (hb); clear HB; clear HO_9; have HO216 := n0_; have HB := n1_; clear n0_ n1_; (try clear hb); (try clear hkp); (try clear ho0)))
          go_ret2
          exact ⟨_, by first | rfl | (simp [errW_none, errW_some] <;> rfl) | (simp only [← hji3, ← hji8]; first | rfl | (simp [errW_none, errW_some] <;> rfl)) | (simp [*, errW_none, errW_some] <;> rfl), by (with_reducible repeat (first | apply Kd.R_alloc | apply Kd.R_drewN | apply Kd.R_drew)); exact HO216.out, (blt HB).out⟩
         ·replace c25 := Bool.eq_false_iff.mpr c25
          subst c25
          have H1 : (some (t214, (x10_2 != 0))) = some (r1, r2) := by rw [if_neg (show ¬ (false = true) by decide)] at H; exact H
          clear H
          have H := H1
          clear H1
          simp only [Option.some.injEq, Prod.mk.injEq] at H
          obtain ⟨rfl, rfl⟩ := H
          obtain ⟨Ao28, co28, eo28⟩ := Kd.R_slice HO_9.out
          subst eo28
          go_wp2_with (first | ((with_reducible refine gc_ (f := 137) rfl ?_); refine gL 67 Tryz.func137 #[.slice Ao28 x9_2.length co28] ?_; (with_reducible refine (r8_trim.calls k2 (fun k_ => some k_ = (.slice Ao28 x9_2.length co28 : Value).ownBlock) (.slice Ao28 x9_2.length co28) x9_2 t214 w _ ?side1 ?side2 A24.out).mono ?_); (case side1 => repeat (first | (with_reducible first | exact HB.out | apply below_alloc | apply pw_below_drewN | apply below_drew1) | exact HB.out)); (case side2 => exact Kd.R_tight rfl HO_9.out); rintro e w29 ⟨v215, rfl, ho0, hb, hkp⟩; refine ⟨_, rfl, ?_⟩; have n0_ := Zs.mk (Kd.R_mono (ok' := fun k_ => True) ho0 (fun k_ hk_ => trivial)); have n1_ := Zs.mk (hb); clear HB; clear HO_9; have HO216 := n0_; have HB := n1_; clear n0_ n1_; (try clear hb); (try clear hkp); (try clear ho0)))
          go_ret2
          exact ⟨_, by first | rfl | (simp [errW_none, errW_some] <;> rfl) | (simp only [← hji3, ← hji8]; first | rfl | (simp [errW_none, errW_some] <;> rfl)) | (simp [*, errW_none, errW_some] <;> rfl), by (with_reducible repeat (first | apply Kd.R_alloc | apply Kd.R_drewN | apply Kd.R_drew)); exact HO216.out, (blt HB).out⟩
     ·rw [if_neg c10] at H
      exact absurd H (by simp)
    ·rw [if_neg c9] at H
     exact absurd H (by simp)
end Go.Proofs.YtmoimcblmmcffaaGreat.PN

namespace Go.Proofs.YtmoimcblmmcffaaGreat.PN
open Go.RowKit Go.Proofs.YtmoimcblmmcffaaGreatW.PrintWords Go.Proofs.YtmoimcblmmcffaaGreatW.PrintLast Go.Proofs.YtmoimcblmmcffaaGreatW.PrintMore Go.Proofs.YtmoimcblmmcffaaGreatW.PrintZ
attribute [local go_sem] max2_int min2_int max_two min_two max_three min_three max_four min_four   -- for this text's walks alone
set_option linter.unusedVariables false
set_option linter.unusedSimpArgs false
def r8_Int.l0 : Nat → List Int → Int → Int → Option (Int)
 | 0, _, _, _ => none
 | k + 1, x0, x3, x4 => if x4 ≥ 0 then (if 0 ≤ x4 then (if x4 < (x0.length : Int) then (r8_Int.l0 k x0 (wrap64 ((wrap64 (65536 * x3)) + (rd x0 x4))) (wrap64 (x4 - 1))) else (none)) else (none)) else (some x3)
def r8_Int.f (k : Nat) (l0 : List Int) : Option (Int) := r8_Int.l0 k l0 0 (wrap64 ((l0.length : Int) - 1))
set_option maxHeartbeats 8000000 in
set_option maxRecDepth 100000 in
theorem r8_Int.calls (k : Nat) (A0 : Option Addr) (c0 : Nat) (l0 : List Int) (r : Int) (w : World) (hr0 : Kd.C (Kd.int .i64) w A0 l0.length l0) (hc0 : l0.length ≤ c0) (h : r8_Int.f k l0 = some r) :
  Calls Tryz.prog 118 #[.slice A0 l0.length c0] w fun e w' => e = .returned (.int .i64 r) ∧ Drawn0 w w' := by
 have HR0 := Zs.mk hr0
 have HC0 := Zs.mk hc0
 clear hr0 hc0
 have H : (r8_Int.l0 k l0 0 (wrap64 ((l0.length : Int) - 1))) = some r := h
 clear h
 have H' := Zs.mk H
 clear H
 go_enter Tryz.func118, Tryz.ntmps118
 go_wp2
 go_loopg [3, 4] k (fun kq v3 v4 w' => ∃ (x3_1 : Int) (x4_1 : Int), v3 = .int .i64 x3_1 ∧ v4 = .int .i64 x4_1 ∧ Zs (r8_Int.l0 kq l0 x3_1 x4_1 = some r) ∧ Zs (kq ≤ k) ∧ Drawn0 w w')
 case atStart => exact ⟨(0), (wrap64 ((l0.length : Int) - 1)), (by first | rfl | (simp; done) | (simp [*]; done)), (by first | rfl | (simp; done) | (simp [*]; done)), H', ⟨Nat.le_refl _⟩, by repeat (first | exact Drawn0.refl _ | apply Drawn0.step)⟩
 case round =>
  clear H'
  try clear c1
  obtain ⟨x3_1, x4_1, rfl, rfl, HA, HK1, ⟨m1, rfl⟩⟩ := hrel
  cases gk with
  | zero => exact absurd HA.out (by simp [r8_Int.l0])
  | succ k1 =>
   have H := HA.out
   clear HA
   simp only [r8_Int.l0] at H
   by_cases c2 : x4_1 ≥ 0
   ·rw [if_pos c2] at H
    have c2b0 : decide (0 ≤ x4_1) = true := decide_eq_true c2
    clear c2
    by_cases c3 : 0 ≤ x4_1
    ·rw [if_pos c3] at H
     have c3b0 : decide (0 ≤ x4_1) = true := decide_eq_true c3
     clear c3
     by_cases c4 : x4_1 < (l0.length : Int)
     ·rw [if_pos c4] at H
      have c4b0 : decide (x4_1 < (l0.length : Int)) = true := decide_eq_true c4
      clear c4
      have H' := Zs.mk H
      clear H
      have p217 : 0 ≤ (x4_1 : Int) := of_decide_eq_true (by first | (with_reducible assumption) | assumption)
      have q217 : x4_1 < (l0.length : Int) := of_decide_eq_true (by first | (with_reducible assumption) | assumption)
      obtain ⟨ad217, e217, hx217_0⟩ := Kd.at_int HR0.out x4_1 p217 q217
      cases e217
      replace p217 := eq_true p217
      replace q217 := eq_true q217
      go_wp2
      go_roundg k1
      case measure => have := HK1.out; omega
      case rel => exact ⟨(wrap64 ((wrap64 (65536 * x3_1)) + (rd l0 x4_1))), (wrap64 (x4_1 - 1)), (by first | rfl | (simp; done) | (simp [*]; done)), (by first | rfl | (simp; done) | (simp [*]; done)), H', ⟨by have := HK1.out; omega⟩, by repeat (first | exact Drawn0.refl _ | apply Drawn0.step)⟩
     ·rw [if_neg c4] at H
      exact absurd H (by simp)
    ·rw [if_neg c3] at H
     exact absurd H (by simp)
   ·rw [if_neg c2] at H
    have c2b0 : decide (0 ≤ x4_1) = false := decide_eq_false c2
    clear c2
    obtain rfl := Option.some.inj H
    go_wp2
    go_ret
    exact ⟨by first | rfl | (simp; done) | (simp [*]; done), by repeat (first | exact Drawn0.refl _ | apply Drawn0.step)⟩
def r8_Nat.l0 : Nat → Int → List Int → Option (List Int)
 | 0, _, _ => none
 | k + 1, x0, x3 => if x0 > 0 then (if x3.length < 17592186044416 then (r8_Nat.l0 k (wrap64 (Int.tdiv x0 65536)) (x3 ++ [Int.tmod x0 65536])) else (none)) else (some x3)
def r8_Nat.f (k : Nat) (a0 : Int) : Option (List Int) := r8_Nat.l0 k a0 ([] : List Int)
set_option maxHeartbeats 8000000 in
set_option maxRecDepth 100000 in
theorem r8_Nat.calls (k : Nat) (a0 : Int) (r : List Int) (w : World) (h : r8_Nat.f k a0 = some r) :
  Calls Tryz.prog 75 #[.int .i64 a0] w fun e w' => ∃ v0_ : Value, e = .returned (v0_) ∧ Kd.R (Kd.int .i64) 3 w' w.heap.size (fun _ => True) v0_ r ∧ Below w.heap.size w w' := by
 have HB := Zs.mk (Below.refl w.heap.size w)
 have H : (r8_Nat.l0 k a0 ([] : List Int)) = some r := h
 clear h
 have H' := Zs.mk H
 clear H
 go_enter Tryz.func75, Tryz.ntmps75
 go_wp2
 go_loopg [0, 3] k (fun kq v0 v3 w' => ∃ (x0_1 : Int) (x3_1 : List Int), v0 = .int .i64 x0_1 ∧ Zs (r8_Nat.l0 kq x0_1 x3_1 = some r) ∧ Zs (kq ≤ k) ∧ Zs (Kd.R (Kd.int .i64) 3 w' w.heap.size (fun _ => True) v3 x3_1) ∧ Zs (Below w.heap.size w w'))
 case atStart => exact ⟨(a0), (([] : List Int)), (by first | rfl | (simp; done) | (simp [*]; done)), H', ⟨Nat.le_refl _⟩, ⟨by first | exact Kd.R_nil _ _ _ _ _ | exact Kd.N_nil _ _ _ _ _ | exact Kd.V_nil _ _ _ _ _ | exact Kd.Q_nil _ _ _ _ _ | exact Kd.S_nil _ _ _ _ _⟩, blt HB⟩
 case round =>
  clear H'
  obtain ⟨x0_1, x3_1, rfl, HA, HK1, HO_3, HB⟩ := hrel
  cases gk with
  | zero => exact absurd HA.out (by simp [r8_Nat.l0])
  | succ k1 =>
   have H := HA.out
   clear HA
   simp only [r8_Nat.l0] at H
   by_cases c2 : x0_1 > 0
   ·rw [if_pos c2] at H
    have c2b0 : decide (0 < x0_1) = true := decide_eq_true c2
    clear c2
    by_cases c3 : x3_1.length < 17592186044416
    ·rw [if_pos c3] at H
     have LMc3 := Zs.mk c3
     clear c3
     obtain ⟨y218, hy218⟩ : ∃ y_ : List Int, y_ = (x3_1 ++ [Int.tmod x0_1 65536]) := ⟨_, rfl⟩
     replace H : (r8_Nat.l0 k1 (wrap64 (Int.tdiv x0_1 65536)) y218) = some r := by first | (rw [hy218]; with_reducible exact H) | (have H2_ := (Option.bind_some _ _).symm.trans H; rw [hy218]; with_reducible exact H2_) | (have H2_ := (Option.bind_some _ _).symm.trans H; with_reducible exact H2_) | with_reducible exact H | (rw [hy218]; exact H) | exact H
     have Ny218 := Zs.mk hy218
     clear hy218
     have H' := Zs.mk H
     clear H
     go_wp2_with (first | ((with_reducible refine gate_builtin (b := .append) (xs := #[.tmp 6, .tmp 9]) rfl ?_); at_builtin; refine Kd.R_append (Kd.int .i64) (w0 := w) w.heap.size rfl (.tmp 6) (.tmp 9) 36 3 (.int .i64 0) 8 rfl Tryz.underlying36 info3 rfl (by decide) (by omega) u3 x3_1 (Int.tmod x0_1 65536) [.int .i64 (Int.tmod x0_1 65536)] (fun _ => True) (fun _ => False) rfl rfl ?aP (fun _ hk => hk.elim) ?aF ?aO ?aB ?aS ?aL ?_; (case aP => exact rfl); (case aB => exact (blt HB).out); (case aF => exact (fun _ _ => trivial)); (case aO => exact (by (with_reducible repeat (first | apply Kd.R_alloc | apply Kd.R_drewN | apply Kd.R_drew)); exact HO_3.out)); (case aS => exact (below_size (blt HB).out)); (case aL => have := LMc3.out; omega); intro v219 w4 ho hb hg hat; rw [← Ny218.out] at ho; have n0_ := Zs.mk (hb); have n1_ := Zs.mk (ho); clear HB; clear HO_3; have HB := n0_; have HO220 := n1_; clear n0_ n1_; clear ho hb hg hat))
     go_roundg k1
     case measure => have := HK1.out; omega
     case rel => exact ⟨(wrap64 (Int.tdiv x0_1 65536)), (y218), (by first | rfl | (simp; done) | (simp [*]; done)), H', ⟨by have := HK1.out; omega⟩, ⟨by (with_reducible repeat (first | apply Kd.R_alloc | apply Kd.R_drewN | apply Kd.R_drew)); exact HO220.out⟩, blt HB⟩
    ·rw [if_neg c3] at H
     exact absurd H (by simp)
   ·rw [if_neg c2] at H
    have c2b0 : decide (0 < x0_1) = false := decide_eq_false c2
    clear c2
    obtain rfl := Option.some.inj H
    go_wp2
    go_ret
    exact ⟨_, by first | rfl | (simp [errW_none, errW_some] <;> rfl) | (simp [*, errW_none, errW_some] <;> rfl), by (with_reducible repeat (first | apply Kd.R_alloc | apply Kd.R_drewN | apply Kd.R_drew)); exact HO_3.out, (blt HB).out⟩
def bs_Mod.f (a0 : Int) (a1 : Int) : Option (Int) := if a1 = 0 then (none) else ((bs_Bit.f (decide ((Int.tmod a0 a1) < 0))).bind fun t221 => (some (wrap64 ((Int.tmod a0 a1) + (wrap64 (a1 * t221))))))
set_option maxHeartbeats 8000000 in
set_option maxRecDepth 100000 in
theorem bs_Mod.calls (a0 : Int) (a1 : Int) (r : Int) (w : World) (h : bs_Mod.f a0 a1 = some r) :
  Calls Tryz.prog 124 #[.int .i64 a0, .int .i64 a1] w fun e w' => e = .returned (.int .i64 r) ∧ Drawn0 w w' := by
 have H : (if a1 = 0 then (none) else ((bs_Bit.f (decide ((Int.tmod a0 a1) < 0))).bind fun t221 => (some (wrap64 ((Int.tmod a0 a1) + (wrap64 (a1 * t221))))))) = some r := h
 clear h
 by_cases c3 : a1 = 0
 ·rw [if_pos c3] at H
  exact absurd H (by simp)
 ·rw [if_neg c3] at H
  have c3b0 : (a1 == 0) = false := beq_eq_false_iff_ne.mpr c3
  have c3b1 : (a1 != 0) = true := bne_iff_ne.mpr c3
  replace H := Option.bind_eq_some_iff.mp H
  obtain ⟨t221, A4, H⟩ := H
  try dsimp only at H
  replace A4 := Zs.mk A4
  obtain rfl := Option.some.inj H
  go_enter Tryz.func124, Tryz.ntmps124
  go_wp2_with (first | (go_at_call 103; (with_reducible refine (bs_Bit.calls (decide ((Int.tmod a0 a1) < 0)) t221 _ A4.out).mono ?_); rintro e w' ⟨rfl, ⟨nd, rfl⟩⟩; (try first | exact ⟨rfl, _, World.drewN_drewN _ _ _⟩ | exact ⟨rfl, _, Eq.trans (World.drewN_drewN _ _ _) (congrArg (World.drewN _) (Nat.add_assoc _ _ _))⟩)))
  repeat (go_quiet (first | (go_at_call 103; (with_reducible refine (bs_Bit.calls (decide ((Int.tmod a0 a1) < 0)) t221 _ A4.out).mono ?_); rintro e w' ⟨rfl, ⟨nd, rfl⟩⟩; (try first | exact ⟨rfl, _, World.drewN_drewN _ _ _⟩ | exact ⟨rfl, _, Eq.trans (World.drewN_drewN _ _ _) (congrArg (World.drewN _) (Nat.add_assoc _ _ _))⟩))); try go_wp2_with (first | (go_at_call 103; (with_reducible refine (bs_Bit.calls (decide ((Int.tmod a0 a1) < 0)) t221 _ A4.out).mono ?_); rintro e w' ⟨rfl, ⟨nd, rfl⟩⟩; (try first | exact ⟨rfl, _, World.drewN_drewN _ _ _⟩ | exact ⟨rfl, _, Eq.trans (World.drewN_drewN _ _ _) (congrArg (World.drewN _) (Nat.add_assoc _ _ _))⟩))))
  go_ret
  exact ⟨by first | rfl | (simp; done) | (simp [*]; done), by repeat (first | exact Drawn0.refl _ | apply Drawn0.step)⟩
def bs_Size.f (a0 : Int) : Option (Int) := if a0 < 0 then (some (wrap64 (-a0))) else (some a0)
set_option maxHeartbeats 8000000 in
set_option maxRecDepth 100000 in
theorem bs_Size.calls (a0 : Int) (r : Int) (w : World) (h : bs_Size.f a0 = some r) :
  Calls Tryz.prog 76 #[.int .i64 a0] w fun e w' => e = .returned (.int .i64 r) ∧ Drawn0 w w' := by
 have H : (if a0 < 0 then (some (wrap64 (-a0))) else (some a0)) = some r := h
 clear h
 by_cases c2 : a0 < 0
 ·rw [if_pos c2] at H
  have c2b0 : decide (a0 < 0) = true := decide_eq_true c2
  clear c2
  obtain rfl := Option.some.inj H
  go_enter Tryz.func76, Tryz.ntmps76
  go_wp2
  go_ret
  exact ⟨by first | rfl | (simp; done) | (simp [*]; done), by repeat (first | exact Drawn0.refl _ | apply Drawn0.step)⟩
 ·rw [if_neg c2] at H
  have c2b0 : decide (a0 < 0) = false := decide_eq_false c2
  clear c2
  obtain rfl := Option.some.inj H
  go_enter Tryz.func76, Tryz.ntmps76
  go_wp2
  go_ret
  exact ⟨by first | rfl | (simp; done) | (simp [*]; done), by repeat (first | exact Drawn0.refl _ | apply Drawn0.step)⟩
end Go.Proofs.YtmoimcblmmcffaaGreat.PN

namespace Go.Proofs.YtmoimcblmmcffaaGreat.N
open Go.RowKit Go.Proofs.YtmoimcblmmcffaaGreatW.PrintWords Go.Proofs.YtmoimcblmmcffaaGreatW.PrintLast Go.Proofs.YtmoimcblmmcffaaGreatW.PrintMore Go.Proofs.YtmoimcblmmcffaaGreat.PN
set_option linter.unusedSimpArgs false
set_option linter.unusedVariables false
theorem wr {n : Int} (h0 : -9223372036854775808 ≤ n) (h1 : n ≤ 9223372036854775807) : wrap64 n = n := by unfold wrap64; omega
def val : List Int → Nat
 | [] => 0
 | d :: l => d.toNat + 65536 * val l
def Dig (l : List Int) : Prop := ∀ d ∈ l, 0 ≤ d ∧ d < 65536
def digs (n : Nat) : List Int := if n = 0 then [] else ((n % 65536 : Nat) : Int) :: digs (n / 65536)
termination_by n
decreasing_by omega
theorem digs_zero : digs 0 = [] := by rw [digs]; simp
theorem digs_pos {n : Nat} (h : n ≠ 0) : digs n = ((n % 65536 : Nat) : Int) :: digs (n / 65536) := by rw [digs]; simp [h]
theorem digs_one : digs 1 = [1] := by rw [digs_pos (by decide)]; simp [digs_zero]
theorem val_digs : ∀ n, val (digs n) = n := by
 intro n
 induction n using Nat.strongRecOn with
 | ind n ih =>
  by_cases h : n = 0
  ·subst h; simp [digs_zero, val]
  ·rw [digs_pos h]
   simp only [val, Int.toNat_natCast]
   rw [ih _ (by omega)]
   omega
theorem dig_digs : ∀ n, Dig (digs n) := by
 intro n
 induction n using Nat.strongRecOn with
 | ind n ih =>
  by_cases h : n = 0
  ·subst h; simp [digs_zero, Dig]
  ·rw [digs_pos h]
   intro d hd
   rcases List.mem_cons.1 hd with rfl | hd
   ·omega
   ·exact ih _ (by omega) d hd
theorem Dig.tail {d : Int} {l : List Int} (h : Dig (d :: l)) : Dig l := fun x hx => h x (List.mem_cons_of_mem _ hx)
theorem Dig.getD {l : List Int} (h : Dig l) (i : Nat) : 0 ≤ l.getD i 0 ∧ l.getD i 0 < 65536 := by
 rw [List.getD_eq_getElem?_getD]
 cases e : l[i]? with
 | none => simp
 | some d => exact h d (List.mem_of_getElem? e)
theorem Dig.nat {l : List Int} (h : Dig l) (i : Nat) : ∃ d : Nat, l.getD i 0 = (d : Int) ∧ d < 65536 := by
 have := h.getD i
 exact ⟨(l.getD i 0).toNat, by omega, by omega⟩
theorem Dig.append {a b : List Int} (ha : Dig a) (hb : Dig b) : Dig (a ++ b) := fun d hd => by
 rcases List.mem_append.1 hd with h | h
 ·exact ha d h
 ·exact hb d h
theorem Dig.take {l : List Int} (h : Dig l) (n : Nat) : Dig (l.take n) := fun d hd => h d (List.mem_of_mem_take hd)
theorem Dig.set {l : List Int} (h : Dig l) (i : Nat) {d : Int} (h0 : 0 ≤ d) (h1 : d < 65536) : Dig (l.set i d) := fun x hx => by
 rcases List.mem_or_eq_of_mem_set hx with h2 | rfl
 ·exact h x h2
 ·exact ⟨h0, h1⟩
theorem dig_zeros (n : Nat) : Dig (List.replicate n 0) := fun d hd => by
 rw [List.eq_of_mem_replicate hd]; decide
theorem val_append : ∀ (a b : List Int), val (a ++ b) = val a + 65536 ^ a.length * val b
 | [], b => by simp [val]
 | d :: a, b => by
  simp only [List.cons_append, val, val_append a b, List.length_cons, Nat.pow_succ]
  rw [Nat.mul_add, Nat.mul_comm (65536 ^ a.length) 65536, Nat.mul_assoc]
  omega
theorem val_zeros : ∀ n, val (List.replicate n 0) = 0
 | 0 => rfl
 | n + 1 => by simp [List.replicate_succ, val, val_zeros n]
theorem val_lt : ∀ {l : List Int}, Dig l → val l < 65536 ^ l.length
 | [], _ => by simp [val]
 | d :: l, h => by
  have := val_lt (l := l) h.tail
  have hd := h d List.mem_cons_self
  simp only [val, List.length_cons, Nat.pow_succ]
  omega
theorem val_drop (l : List Int) (i : Nat) : val (l.drop i) = (l.getD i 0).toNat + 65536 * val (l.drop (i + 1)) := by
 by_cases h : i < l.length
 ·rw [List.drop_eq_getElem_cons h, List.getD_eq_getElem?_getD, List.getElem?_eq_getElem h]
  rfl
 ·rw [List.drop_eq_nil_of_le (by omega), List.drop_eq_nil_of_le (by omega), List.getD_eq_getElem?_getD, List.getElem?_eq_none (by omega)]
  rfl
theorem val_take_succ (l : List Int) (i : Nat) (h : i < l.length) : val (l.take (i + 1)) = val (l.take i) + 65536 ^ i * (l.getD i 0).toNat := by
 rw [List.take_succ_eq_append_getElem h, val_append, List.length_take, Nat.min_eq_left (by omega), List.getD_eq_getElem?_getD, List.getElem?_eq_getElem h]
 simp [val]
theorem val_split (l : List Int) (i : Nat) (h : i ≤ l.length) : val l = val (l.take i) + 65536 ^ i * val (l.drop i) := by
 conv => lhs; rw [← List.take_append_drop i l]
 rw [val_append, List.length_take, Nat.min_eq_left h]
theorem val_set : ∀ (l : List Int) (i : Nat) (d : Int), i < l.length → val (l.set i d) + 65536 ^ i * (l.getD i 0).toNat = val l + 65536 ^ i * d.toNat
 | [], i, d, h => by simp at h
 | x :: l, 0, d, _ => by simp [val]; omega
 | x :: l, i + 1, d, h => by
  have := val_set l i d (by simpa using h)
  simp only [List.set_cons_succ, val, List.getD_cons_succ, Nat.pow_succ]
  rw [Nat.mul_comm (65536 ^ i) 65536, Nat.mul_assoc, Nat.mul_assoc]
  omega
theorem canon : ∀ {l : List Int}, Dig l → l.getLast? ≠ some 0 → digs (val l) = l
 | [], _, _ => by simp [val, digs_zero]
 | [d], h, hl => by
  have hd := h d List.mem_cons_self
  have : d ≠ 0 := by rintro rfl; simp at hl
  have hv : val [d] = d.toNat := by simp [val]
  rw [hv, digs_pos (by omega), Nat.div_eq_of_lt (by omega), Nat.mod_eq_of_lt (by omega), digs_zero]
  congr 1
  omega
 | d :: e :: l, h, hl => by
  have ih := canon (l := e :: l) h.tail (by rwa [List.getLast?_cons_cons] at hl)
  have hd := h d List.mem_cons_self
  have hne : val (e :: l) ≠ 0 := by
   intro h0
   rw [h0, digs_zero] at ih
   cases ih
  have hv : val (d :: e :: l) = d.toNat + 65536 * val (e :: l) := rfl
  rw [hv, digs_pos (by omega), show (d.toNat + 65536 * val (e :: l)) / 65536 = val (e :: l) from by omega, show (d.toNat + 65536 * val (e :: l)) % 65536 = d.toNat from by omega, ih]
  congr 1
  omega
theorem digs_len {n m : Nat} (h : n < 65536 ^ m) : (digs n).length ≤ m := by
 induction m generalizing n with
 | zero =>
  have : n = 0 := by simpa using h
  subst this
  simp [digs_zero]
 | succ m ih =>
  by_cases h0 : n = 0
  ·subst h0; simp [digs_zero]
  ·rw [digs_pos h0]
   have := ih (n := n / 65536) (by rw [Nat.pow_succ] at h; omega)
   simp only [List.length_cons]
   omega
theorem digs_low {n : Nat} (h : n ≠ 0) : 65536 ^ ((digs n).length - 1) ≤ n := by
 induction n using Nat.strongRecOn with
 | ind n ih =>
  rw [digs_pos h]
  by_cases h1 : n / 65536 = 0
  ·rw [h1, digs_zero]
   simp
   omega
  ·have := ih (n / 65536) (by omega) h1
   have hp : 0 < (digs (n / 65536)).length := by rw [digs_pos h1]; simp
   simp only [List.length_cons]
   obtain ⟨j, hj⟩ : ∃ j, (digs (n / 65536)).length = j + 1 := ⟨_, (Nat.sub_add_cancel hp).symm⟩
   rw [hj] at this ⊢
   simp only [Nat.add_sub_cancel] at this ⊢
   rw [Nat.pow_succ]
   omega
theorem digs_nil {n : Nat} : (digs n).length = 0 ↔ n = 0 := by
 constructor
 ·intro h
  by_cases h0 : n = 0
  ·exact h0
  ·rw [digs_pos h0] at h; simp at h
 ·rintro rfl; simp [digs_zero]
def Ev {α : Type} (f : Nat → Option α) (r : α) : Prop := ∃ K, ∀ k, K ≤ k → f k = some r
theorem Ev.pure {α : Type} (r : α) : Ev (fun _ => some r) r := ⟨0, fun _ _ => rfl⟩
theorem Ev.some {α : Type} {f : Nat → Option α} {r : α} (h : Ev f r) : ∃ k, f k = Option.some r := h.elim fun K h => ⟨K, h K (Nat.le_refl _)⟩
theorem Ev.bind {α β : Type} {f : Nat → Option α} {r : α} {g : Nat → α → Option β} {s : β} (h : Ev f r) (h2 : Ev (fun k => g k r) s) : Ev (fun k => (f k).bind (g k)) s := by
 obtain ⟨K, h⟩ := h
 obtain ⟨K2, h2⟩ := h2
 exact ⟨max K K2, fun k hk => by show (f k).bind (g k) = _; rw [h k (by omega)]; exact h2 k (by omega)⟩
theorem Ev.step {α : Type} {f g : Nat → Option α} {r : α} (h : Ev g r) (hs : ∀ k, f (k + 1) = g k) : Ev f r := by
 obtain ⟨K, h⟩ := h
 exact ⟨K + 1, fun k hk => by obtain ⟨j, rfl⟩ : ∃ j, k = j + 1 := ⟨k - 1, by omega⟩; rw [hs]; exact h j (by omega)⟩
theorem Ev.congr {α : Type} {f g : Nat → Option α} {r : α} (h : Ev g r) (hs : ∀ k, f k = g k) : Ev f r := by
 obtain ⟨K, h⟩ := h
 exact ⟨K, fun k hk => by rw [hs]; exact h k hk⟩
theorem rd_nat (l : List Int) (i : Nat) : rd l (i : Int) = l.getD i 0 := by simp [rd]
theorem digit_f (l : List Int) (i : Nat) : r8_digit.f l (i : Int) = some (l.getD i 0) := by
 unfold r8_digit.f
 by_cases h : i < l.length
 ·rw [if_pos (by omega), if_pos (by omega), rd_nat]
 ·rw [if_neg (by omega), List.getD_eq_getElem?_getD, List.getElem?_eq_none (by omega)]
  rfl
theorem bit_f (b : Bool) : bs_Bit.f b = some (if b then 1 else 0) := by cases b <;> rfl
theorem trim_l0 (x : List Int) (hx : Dig x) (hl : x.length < 9223372036854775807) : ∀ j k, j ≤ x.length → j < k → r8_trim.l0 k x (j : Int) = some (digs (val (x.take j))) := by
 intro j
 induction j with
 | zero =>
  intro k _ hk
  obtain ⟨k, rfl⟩ : ∃ k', k = k' + 1 := ⟨k - 1, by omega⟩
  simp [r8_trim.l0, val, digs_zero]
 | succ j ih =>
  intro k hj hk
  obtain ⟨k, rfl⟩ : ∃ k', k = k' + 1 := ⟨k - 1, by omega⟩
  have e : wrap64 (((j + 1 : Nat) : Int) - 1) = (j : Int) := by rw [wr (by omega) (by omega)]; omega
  simp only [r8_trim.l0, e, rd_nat]
  rw [if_pos (by omega), if_pos (by omega), if_pos (by omega)]
  by_cases hz : x.getD j 0 = 0
  ·rw [if_pos hz, ih k (by omega) (by omega), val_take_succ x j (by omega), hz]
   simp
  ·rw [if_neg hz, if_pos (by omega), if_pos (by omega), Int.toNat_natCast, canon (hx.take _)]
   rw [List.getLast?_take, if_neg (by omega)]
   rw [List.getD_eq_getElem?_getD] at hz
   simp only [Nat.add_sub_cancel]
   rw [List.getElem?_eq_getElem (by omega)] at hz ⊢
   simpa using hz
theorem trim_k {x : List Int} (hx : Dig x) {k : Nat} (hk : x.length < k) (hl : x.length < 9223372036854775807) : r8_trim.f k x = some (digs (val x)) := by
 unfold r8_trim.f
 rw [trim_l0 x hx hl _ k (Nat.le_refl _) hk, List.take_length]
theorem power_l0 (n : Nat) (hn : n ≤ 62) : ∀ m i k, m + i = n → m < k → bs_Power.l0 k ((2 ^ i : Nat) : Int) (n : Int) (i : Int) = some ((2 ^ n : Nat) : Int) := by
 intro m
 induction m with
 | zero =>
  intro i k hi hk
  obtain ⟨k, rfl⟩ : ∃ k', k = k' + 1 := ⟨k - 1, by omega⟩
  rw [bs_Power.l0, if_neg (by omega), show i = n from by omega]
 | succ m ih =>
  intro i k hi hk
  obtain ⟨k, rfl⟩ : ∃ k', k = k' + 1 := ⟨k - 1, by omega⟩
  rw [bs_Power.l0, if_pos (by omega)]
  have hp : 2 ^ (i + 1) ≤ 2 ^ 62 := Nat.pow_le_pow_right (by decide) (by omega)
  rw [Nat.pow_succ] at hp
  have := ih (i + 1) k (by omega) (by omega)
  rw [Nat.pow_succ] at this
  rw [wr (by omega) (by omega), wr (by omega) (by omega), show ((2 ^ i : Nat) : Int) + ((2 ^ i : Nat) : Int) = ((2 ^ i * 2 : Nat) : Int) from by omega]
  exact this
theorem power_ev (n : Nat) (hn : n ≤ 62) : Ev (fun k => bs_Power.f k (n : Int)) ((2 ^ n : Nat) : Int) :=
 ⟨n + 1, fun k hk => power_l0 n hn n 0 k (by omega) (by omega)⟩
theorem size_f (n : Int) (h0 : -9223372036854775807 ≤ n) (h1 : n ≤ 9223372036854775807) : bs_Size.f n = some (n.natAbs : Int) := by
 unfold bs_Size.f
 by_cases h : n < 0
 ·rw [if_pos h, wr (by omega) (by omega)]; congr 1; omega
 ·rw [if_neg h]; congr 1; omega
theorem nat_l0 : ∀ (n : Nat), n ≤ 9223372036854775807 → ∀ x k, x.length + n < 17592186044416 * 1000000 → n < k → x.length + (digs n).length < 17592186044416 → r8_Nat.l0 k (n : Int) x = some (x ++ digs n) := by
 intro n
 induction n using Nat.strongRecOn with
 | ind n ih =>
  intro hn x k hx hk hd
  obtain ⟨k, rfl⟩ : ∃ k', k = k' + 1 := ⟨k - 1, by omega⟩
  rw [r8_Nat.l0]
  by_cases h0 : n = 0
  ·subst h0; simp [digs_zero]
  ·rw [digs_pos h0] at hd ⊢
   simp only [List.length_cons] at hd
   rw [if_pos (by omega), if_pos (by omega)]
   have e1 : wrap64 (Int.tdiv (n : Int) 65536) = ((n / 65536 : Nat) : Int) := by
    rw [show Int.tdiv (n : Int) 65536 = ((n / 65536 : Nat) : Int) from rfl, wr (by omega) (by omega)]
   have e2 : Int.tmod (n : Int) 65536 = ((n % 65536 : Nat) : Int) := rfl
   rw [e1, e2, ih (n / 65536) (by omega) (by omega) _ k (by simp; omega) (by omega) (by simp; omega)]
   simp
theorem nat_ev (n : Nat) (hn : n ≤ 9223372036854775807) : Ev (fun k => r8_Nat.f k (n : Int)) (digs n) := by
 refine ⟨n + 1, fun k hk => ?_⟩
 have : (digs n).length ≤ 4 := digs_len (by omega)
 exact nat_l0 n hn [] k (by simp; omega) (by omega) (by simp; omega)
theorem int_l0 (a : Nat) (ha : a ≤ 9223372036854775807) : ∀ j k, j ≤ (digs a).length → j < k → r8_Int.l0 k (digs a) (val ((digs a).drop j) : Int) ((j : Int) - 1) = some (a : Int) := by
 have hd := dig_digs a
 intro j
 induction j with
 | zero =>
  intro k _ hk
  obtain ⟨k, rfl⟩ : ∃ k', k = k' + 1 := ⟨k - 1, by omega⟩
  rw [r8_Int.l0, if_neg (by omega), List.drop_zero, val_digs]
 | succ j ih =>
  intro k hj hk
  obtain ⟨k, rfl⟩ : ∃ k', k = k' + 1 := ⟨k - 1, by omega⟩
  rw [show ((j + 1 : Nat) : Int) - 1 = (j : Int) from by omega, r8_Int.l0, if_pos (by omega), if_pos (by omega), if_pos (by omega), rd_nat]
  have e := val_drop (digs a) j
  obtain ⟨d, hd1, hd2⟩ := hd.nat j
  rw [hd1] at e ⊢
  have hs := val_split (digs a) j (by omega)
  rw [val_digs] at hs
  have h1 : val ((digs a).drop j) ≤ a := by
   have : 1 * val ((digs a).drop j) ≤ 65536 ^ j * val ((digs a).drop j) := Nat.mul_le_mul_right _ (Nat.pow_pos (by decide))
   omega
  simp only [Int.toNat_natCast] at e
  rw [wr (n := 65536 * _) (by omega) (by omega), wr (n := _ + (d : Int)) (by omega) (by omega), show (65536 * (val ((digs a).drop (j + 1)) : Int) + (d : Int)) = (val ((digs a).drop j) : Int) from by omega, wr (by have := hj; omega) (by have : (digs a).length ≤ 4 := digs_len (by omega); omega)]
  exact ih k (by omega) (by omega)
theorem int_ev (a : Nat) (ha : a ≤ 9223372036854775807) : Ev (fun k => r8_Int.f k (digs a)) (a : Int) := by
 refine ⟨(digs a).length + 1, fun k hk => ?_⟩
 have hl : (digs a).length ≤ 4 := digs_len (by omega)
 have := int_l0 a ha (digs a).length k (Nat.le_refl _) (by omega)
 rw [List.drop_length] at this
 show r8_Int.f k (digs a) = _
 unfold r8_Int.f
 rw [wr (by omega) (by omega)]
 exact this
def ordN (a b : Nat) : Int := if a < b then -1 else if a = b then 0 else 1
theorem digs_len_lt {a b : Nat} (h : (digs a).length < (digs b).length) : a < b := by
 have h1 := val_lt (dig_digs a)
 rw [val_digs] at h1
 have hb : b ≠ 0 := by rintro rfl; simp [digs_zero] at h
 have h2 := digs_low hb
 have : 65536 ^ (digs a).length ≤ 65536 ^ ((digs b).length - 1) := Nat.pow_le_pow_right (by decide) (by omega)
 omega
theorem order_l0 (a b : Nat) (hab : (digs a).length = (digs b).length) (hl : (digs a).length < 9223372036854775807) : ∀ j k, j ≤ (digs a).length → j < k → val ((digs a).drop j) = val ((digs b).drop j) → r8_Order.l0 k (digs a) (digs b) ((j : Int) - 1) = some (ordN a b) := by
 intro j
 induction j with
 | zero =>
  intro k _ hk he
  obtain ⟨k, rfl⟩ : ∃ k', k = k' + 1 := ⟨k - 1, by omega⟩
  rw [List.drop_zero, List.drop_zero, val_digs, val_digs] at he
  rw [r8_Order.l0, if_neg (by omega)]
  simp [ordN, he]
 | succ j ih =>
  intro k hj hk he
  obtain ⟨k, rfl⟩ : ∃ k', k = k' + 1 := ⟨k - 1, by omega⟩
  rw [show ((j + 1 : Nat) : Int) - 1 = (j : Int) from by omega, r8_Order.l0, if_pos (by omega), if_pos (by omega), if_pos (by omega), if_pos (by omega), rd_nat, rd_nat]
  have e1 := val_drop (digs a) j
  have e2 := val_drop (digs b) j
  obtain ⟨x, hx1, hx2⟩ := (dig_digs a).nat j
  obtain ⟨y, hy1, hy2⟩ := (dig_digs b).nat j
  rw [hx1] at e1 ⊢
  rw [hy1] at e2 ⊢
  simp only [Int.toNat_natCast] at e1 e2
  by_cases hxy : x = y
  ·subst hxy
   rw [if_pos rfl, wr (by omega) (by omega)]
   exact ih k (by omega) (by omega) (by omega)
  ·rw [if_neg (by omega), bit_f]
   have s1 := val_split (digs a) j (by omega)
   have s2 := val_split (digs b) j (by omega)
   rw [val_digs] at s1 s2
   have l1 := val_lt ((dig_digs a).take j)
   have l2 := val_lt ((dig_digs b).take j)
   rw [List.length_take, Nat.min_eq_left (by omega)] at l1 l2
   have hp : ∀ u v P s t : Nat, s < P → u < v → s + P * u < t + P * v := by
    intro u v P s t hs huv
    have := Nat.mul_le_mul_left P (show u + 1 ≤ v from huv)
    rw [Nat.mul_succ] at this
    omega
   by_cases hlt : x < y
   ·have := hp (val ((digs a).drop j)) (val ((digs b).drop j)) (65536 ^ j) _ (val ((digs b).take j)) l1 (by omega)
    rw [show ordN a b = -1 from by unfold ordN; rw [if_pos (by omega)]]
    simp only [show ((x : Int) < (y : Int)) from by omega, decide_true, if_true, Option.bind_some]
    simp [wrap64]
   ·have := hp (val ((digs b).drop j)) (val ((digs a).drop j)) (65536 ^ j) _ (val ((digs a).take j)) l2 (by omega)
    rw [show ordN a b = 1 from by unfold ordN; rw [if_neg (by omega), if_neg (by omega)]]
    simp only [show ¬ ((x : Int) < (y : Int)) from by omega, decide_false, Option.bind_some]
    simp [wrap64]
theorem order_ev (a b : Nat) (hl : (digs a).length < 9223372036854775807) : Ev (fun k => r8_Order.f k (digs a) (digs b)) (ordN a b) := by
 refine ⟨(digs a).length + 1, fun k hk => ?_⟩
 show r8_Order.f k (digs a) (digs b) = _
 unfold r8_Order.f
 by_cases h : (digs a).length = (digs b).length
 ·rw [if_pos (by omega), wr (by omega) (by omega)]
  exact order_l0 a b h hl _ k (Nat.le_refl _) (by omega) (by rw [List.drop_length, h, List.drop_length])
 ·rw [if_neg (by omega), bit_f]
  by_cases h1 : (digs a).length < (digs b).length
  ·have := digs_len_lt h1
   rw [show ordN a b = -1 from by unfold ordN; rw [if_pos this]]
   simp only [show (((digs a).length : Int) < ((digs b).length : Int)) from by omega, decide_true, if_true, Option.bind_some]
   simp [wrap64]
  ·have := digs_len_lt (a := b) (b := a) (by omega)
   rw [show ordN a b = 1 from by unfold ordN; rw [if_neg (by omega), if_neg (by omega)]]
   simp only [show ¬ (((digs a).length : Int) < ((digs b).length : Int)) from by omega, decide_false, Option.bind_some]
   simp [wrap64]
end Go.Proofs.YtmoimcblmmcffaaGreat.N
