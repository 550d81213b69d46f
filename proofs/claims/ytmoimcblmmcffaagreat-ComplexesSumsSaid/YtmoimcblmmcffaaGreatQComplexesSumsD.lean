/- Contracts and plain laws that the law ComplexesSums leans on (texts joined by program; what it does not come to is left out). -/
import Derived.Test.YtmoimcblmmcffaaGreatQComplexesSumsA
import Derived.Test.YtmoimcblmmcffaaGreatQComplexesSumsC
import Derived.Test.YtmoimcblmmcffaaGreatQComplexesSumsB

namespace Go.Proofs.YtmoimcblmmcffaaGreat.PN
open Go.RowKit Go.Proofs.YtmoimcblmmcffaaGreatW.PrintWords Go.Proofs.YtmoimcblmmcffaaGreatW.PrintLast Go.Proofs.YtmoimcblmmcffaaGreatW.PrintMore Go.Proofs.YtmoimcblmmcffaaGreatW.PrintZ
attribute [local go_sem] max2_int min2_int max_two min_two max_three min_three max_four min_four   -- for this text's walks alone
set_option linter.unusedVariables false
set_option linter.unusedSimpArgs false


mutual
def r8_Right.l0 : Nat → List Int → Int → Int → Bool → Int → Option (List Int × Bool)
 | 0, _, _, _, _, _ => none
 | k + 1, x0, x1, x6, x7, x8 => if x8 < x6 then (if x7 = true then (r8_Right.l0 k x0 x1 x6 true (wrap64 (x8 + 1))) else (if 0 ≤ x8 then (if x8 < (x0.length : Int) then (r8_Right.l0 k x0 x1 x6 ((rd x0 x8) != 0) (wrap64 (x8 + 1))) else (none)) else (none))) else (if 0 ≤ (wrap64 ((x0.length : Int) - x6)) then (if (wrap64 ((x0.length : Int) - x6) : Int).toNat ≤ 35184372088832 then ((bs_Power.f k (Int.tmod x1 16)).bind fun t211 => (r8_Right.l1 k x0 x6 x7 (List.replicate (wrap64 ((x0.length : Int) - x6) : Int).toNat 0) 0 t211 (wrap64 ((x0.length : Int) - 1)))) else (none)) else (none))
def r8_Right.l1 : Nat → List Int → Int → Bool → List Int → Int → Int → Int → Option (List Int × Bool)
 | 0, _, _, _, _, _, _, _ => none
 | k + 1, x0, x6, x7, x9, x10, x11, x12 => if x12 ≥ x6 then (if 0 ≤ x12 then (if x12 < (x0.length : Int) then (if x11 = 0 then (none) else (if 0 ≤ (wrap64 (x12 - x6)) then (if (wrap64 (x12 - x6)) < (x9.length : Int) then (r8_Right.l1 k x0 x6 x7 (x9.set ((wrap64 (x12 - x6)) : Int).toNat (wrap64 (Int.tdiv (wrap64 ((wrap64 (x10 * 65536)) + (rd x0 x12))) x11))) (Int.tmod (wrap64 ((wrap64 (x10 * 65536)) + (rd x0 x12))) x11) x11 (wrap64 (x12 - 1))) else (none)) else (none))) else (none)) else (none)) else ((r8_trim.f k x9).bind fun t214 => (if x7 = true then (some (t214, true)) else (some (t214, (x10 != 0)))))
end
def r8_Right.f (k : Nat) (l0 : List Int) (a1 : Int) : Option (List Int × Bool) := r8_Right.l0 k l0 a1 (mn (wrap64 (Int.tdiv a1 16)) (l0.length : Int)) false 0
set_option maxHeartbeats 8000000 in
set_option maxRecDepth 100000 in
theorem r8_Right.calls (k : Nat) (A0 : Option Addr) (c0 : Nat) (l0 : List Int) (a1 : Int) (r1 : List Int) (r2 : Bool) (w : World) (hr0 : Kd.C (Kd.int .i64) w A0 l0.length l0) (hc0 : l0.length ≤ c0) (h : r8_Right.f k l0 a1 = some (r1, r2)) :
  Calls Tryz.prog 114 #[.slice A0 l0.length c0, .int .i64 a1] w fun e w' => ∃ v0_ : Value, e = .returned (.tuple #[v0_, .bool r2]) ∧ Kd.R (Kd.int .i64) 3 w' w.heap.size (fun _ => True) v0_ r1 ∧ Below w.heap.size w w' := by
 have HR0 := Zs.mk hr0
 have HC0 := Zs.mk hc0
 clear hr0 hc0
 have HB := Zs.mk (Below.refl w.heap.size w)
 have H : (r8_Right.l0 k l0 a1 (mn (wrap64 (Int.tdiv a1 16)) (l0.length : Int)) false 0) = some (r1, r2) := h
 clear h
 obtain ⟨ji3, hji3⟩ : ∃ j_ : Int, (mn (wrap64 (Int.tdiv a1 16)) (l0.length : Int)) = j_ := ⟨_, rfl⟩
 replace H : (r8_Right.l0 k l0 a1 ji3 false 0) = some (r1, r2) := by first | (rw [hji3] at H; exact H) | (simp only [hji3] at H ⊢; exact H)
 have hji3_ : (if (l0.length : Int) < (wrap64 (Int.tdiv a1 16)) then (l0.length : Int) else (wrap64 (Int.tdiv a1 16))) = ji3 := hji3
 have H' := Zs.mk H
 clear H
 go_enter Tryz.func114, Tryz.ntmps114
 go_wp2
 go_loopg [7, 8] k (fun kq v7 v8 w' => ∃ (x7_1 : Bool) (x8_1 : Int), v7 = .bool x7_1 ∧ v8 = .int .i64 x8_1 ∧ Zs (r8_Right.l0 kq l0 a1 ji3 x7_1 x8_1 = some (r1, r2)) ∧ Zs (kq ≤ k) ∧ Zs (Below w.heap.size w w'))
 case atStart => exact ⟨(false), (0), (by first | rfl | (simp; done) | (simp [*]; done)), (by first | rfl | (simp; done) | (simp [*]; done)), H', ⟨Nat.le_refl _⟩, blt HB⟩
 case round =>
  clear H'
  try clear c1
  try clear p2
  obtain ⟨x7_1, x8_1, rfl, rfl, HA, HK1, HB⟩ := hrel
  cases gk with
  | zero => exact absurd HA.out (by simp [r8_Right.l0])
  | succ k1 =>
   have H := HA.out
   clear HA
   simp only [r8_Right.l0] at H
   by_cases c4 : x8_1 < ji3
   ·rw [if_pos c4] at H
    have c4b0 : decide (x8_1 < ji3) = true := decide_eq_true c4
    clear c4
    by_cases c5 : x7_1 = true
    ·subst c5
     have H1 : (r8_Right.l0 k1 l0 a1 ji3 true (wrap64 (x8_1 + 1))) = some (r1, r2) := by rw [if_pos rfl] at H; exact H
     clear H
     have H := H1
     clear H1
     have H' := Zs.mk H
     clear H
     go_wp2
     go_roundg k1
     case measure => have := HK1.out; omega
     case rel => exact ⟨(true), (wrap64 (x8_1 + 1)), (by first | rfl | (simp; done) | (simp [*]; done)), (by first | rfl | (simp; done) | (simp [*]; done)), H', ⟨by have := HK1.out; omega⟩, blt HB⟩
    ·replace c5 := Bool.eq_false_iff.mpr c5
     subst c5
     have H1 : (if 0 ≤ x8_1 then (if x8_1 < (l0.length : Int) then (r8_Right.l0 k1 l0 a1 ji3 ((rd l0 x8_1) != 0) (wrap64 (x8_1 + 1))) else (none)) else (none)) = some (r1, r2) := by rw [if_neg (show ¬ (false = true) by decide)] at H; exact H
     clear H
     have H := H1
     clear H1
     by_cases c6 : 0 ≤ x8_1
     ·rw [if_pos c6] at H
      have c6b0 : decide (0 ≤ x8_1) = true := decide_eq_true c6
      clear c6
      by_cases c7 : x8_1 < (l0.length : Int)
      ·rw [if_pos c7] at H
       have c7b0 : decide (x8_1 < (l0.length : Int)) = true := decide_eq_true c7
       clear c7
       have H' := Zs.mk H
       clear H
       have p207 : 0 ≤ (x8_1 : Int) := of_decide_eq_true (by first | (with_reducible assumption) | assumption)
       have q207 : x8_1 < (l0.length : Int) := of_decide_eq_true (by first | (with_reducible assumption) | assumption)
       obtain ⟨ad207, e207, hx207_0⟩ := Kd.at_int HR0.out x8_1 p207 q207
       cases e207
       replace hx207_0 := (HB.out.cell (World.block_lt_of_cell? w _ hx207_0)).trans hx207_0
       replace p207 := eq_true p207
       replace q207 := eq_true q207
       go_wp2
       go_roundg k1
       case measure => have := HK1.out; omega
       case rel => exact ⟨(((rd l0 x8_1) != 0)), (wrap64 (x8_1 + 1)), (by first | rfl | (simp; done) | (simp [*]; done)), (by first | rfl | (simp; done) | (simp [*]; done)), H', ⟨by have := HK1.out; omega⟩, blt HB⟩
      ·rw [if_neg c7] at H
       exact absurd H (by simp)
     ·rw [if_neg c6] at H
      exact absurd H (by simp)
   ·rw [if_neg c4] at H
    have c4b0 : decide (x8_1 < ji3) = false := decide_eq_false c4
    clear c4
    obtain ⟨ji8, hji8⟩ : ∃ j_ : Int, (wrap64 ((l0.length : Int) - ji3)) = j_ := ⟨_, rfl⟩
    replace H : (if 0 ≤ (ji8) then (if (ji8 : Int).toNat ≤ 35184372088832 then ((bs_Power.f k1 (Int.tmod a1 16)).bind fun t211 => (r8_Right.l1 k1 l0 ji3 x7_1 (List.replicate (ji8 : Int).toNat 0) 0 t211 (wrap64 ((l0.length : Int) - 1)))) else (none)) else (none)) = some (r1, r2) := by first | (rw [hji8] at H; exact H) | (simp only [hji8] at H ⊢; exact H)
    have hji8w : (IntKind.i64.wrap ((l0.length : Int) - ji3)) = ji8 := (i64_w _).trans hji8
    by_cases c9 : 0 ≤ (ji8)
    ·rw [if_pos c9] at H
     have c9b0 := eq_true c9
     have c9b1 : decide (0 ≤ (ji8)) = true := decide_eq_true c9
     clear c9
     by_cases c10 : (ji8 : Int).toNat ≤ 35184372088832
     ·rw [if_pos c10] at H
      have c10b0 := eq_true c10
      have c10b1 : decide ((ji8 : Int).toNat ≤ 35184372088832) = true := decide_eq_true c10
      clear c10
      obtain ⟨y208, hy208⟩ : ∃ y_ : List Int, y_ = (List.replicate (ji8 : Int).toNat 0) := ⟨_, rfl⟩
      replace H : ((bs_Power.f k1 (Int.tmod a1 16)).bind fun t211 => (r8_Right.l1 k1 l0 ji3 x7_1 y208 0 t211 (wrap64 ((l0.length : Int) - 1)))) = some (r1, r2) := by first | (rw [hy208]; with_reducible exact H) | (have H2_ := (Option.bind_some _ _).symm.trans H; rw [hy208]; with_reducible exact H2_) | (have H2_ := (Option.bind_some _ _).symm.trans H; with_reducible exact H2_) | with_reducible exact H | (rw [hy208]; exact H) | exact H
      have Ny208 := Zs.mk hy208
      clear hy208
      replace H := Option.bind_eq_some_iff.mp H
      obtain ⟨t211, A11, H⟩ := H
      try dsimp only at H
      replace A11 := Zs.mk A11
      have H' := Zs.mk H
      clear H
      go_wp2_with (first | ((with_reducible refine gd_ (N := 36) rfl ?_); refine Kd.R_make (Kd.int .i64) _ 3 rfl (N := 36) rfl 36 _ _ rfl ji8 rfl rfl Tryz.underlying36 (.int .i64 0) 8 info3 rfl (by decide) (by omega) 0 (ok := fun _ => True) (okp := fun _ => True) rfl (fun _ hk => hk) trivial (of_decide_eq_true (by first | (with_reducible assumption) | assumption)) (Nat.le_trans (Nat.mul_le_mul_right _ (of_decide_eq_true (by first | (with_reducible assumption) | assumption) : ji8.toNat ≤ 35184372088832)) (by omega)) (Below.refl _ _) (Nat.le_refl _) ?_; intro v209 w12 ho13 hb hg_ hnew_; clear hg_ hnew_; (first | rw [← Ny208.out] at ho13 | (simp only [Int.reduceToNat] at ho13; rw [← Ny208.out] at ho13)); have HO210 := Zs.mk (Kd.R_lower ho13 (below_size (blt HB).out)); replace HB := bls HB hb; clear hb ho13) | ((with_reducible refine gc_ (f := 71) rfl ?_); refine gLc 39 Tryz.func71 (bs_Power.calls k1 (Int.tmod a1 16) t211 _ A11.out) (fun _ h_ => ?_); obtain ⟨nd, rfl⟩ := h_))
      go_loopg [10, 12] k1 (fun kq v10 v12 w' => ∃ (x9_2 : List Int) (x10_2 : Int) (x12_2 : Int), v10 = .int .i64 x10_2 ∧ v12 = .int .i64 x12_2 ∧ Zs (r8_Right.l1 kq l0 ji3 x7_1 x9_2 x10_2 t211 x12_2 = some (r1, r2)) ∧ Zs (kq ≤ k1) ∧ Zs (Kd.R (Kd.int .i64) 3 w' w.heap.size (fun _ => True) v209 x9_2) ∧ Zs (Below w.heap.size w w'))
      case atStart => exact ⟨(y208), (0), (wrap64 ((l0.length : Int) - 1)), (by first | rfl | (simp; done) | (simp [*]; done)), (by first | rfl | (simp; done) | (simp [*]; done)), H', ⟨Nat.le_refl _⟩, ⟨by (with_reducible repeat (first | apply Kd.R_alloc | apply Kd.R_drewN | apply Kd.R_drew)); exact HO210.out⟩, blt HB⟩
      case round =>
       clear H'
       try clear c1
       try clear p2
       try clear q2
       try clear hx2
       try clear c4
       try clear c4b0
       try clear c5
       try clear c6
       try clear c6b0
       try clear p6
       try clear c7
       try clear c7b0
       try clear c9
       try clear c9b0
       try clear c9b1
       try clear c10
       try clear c10b0
       try clear c10b1
       try clear c11
       try clear hx207_0
       try clear p2
       try clear p207
       try clear q207
       obtain ⟨x9_2, x10_2, x12_2, rfl, rfl, HA, HK2, HO_9, HB⟩ := hrel
       cases gk with
       | zero => exact absurd HA.out (by simp [r8_Right.l1])
       | succ k2 =>
        have H := HA.out
        clear HA
        simp only [r8_Right.l1] at H
        by_cases c14 : x12_2 ≥ ji3
        ·rw [if_pos c14] at H
         have c14b0 : decide (ji3 ≤ x12_2) = true := decide_eq_true c14
         clear c14
         by_cases c15 : 0 ≤ x12_2
         ·rw [if_pos c15] at H
          have c15b0 : decide (0 ≤ x12_2) = true := decide_eq_true c15
          clear c15
          by_cases c16 : x12_2 < (l0.length : Int)
          ·rw [if_pos c16] at H
           have c16b0 : decide (x12_2 < (l0.length : Int)) = true := decide_eq_true c16
           clear c16
           by_cases c17 : t211 = 0
           ·rw [if_pos c17] at H
            exact absurd H (by simp)
           ·rw [if_neg c17] at H
            have c17b0 : (t211 == 0) = false := beq_eq_false_iff_ne.mpr c17
            have c17b1 : (t211 != 0) = true := bne_iff_ne.mpr c17
            obtain ⟨ji18, hji18⟩ : ∃ j_ : Int, (wrap64 (x12_2 - ji3)) = j_ := ⟨_, rfl⟩
            replace H : (if 0 ≤ (ji18) then (if (ji18) < (x9_2.length : Int) then (r8_Right.l1 k2 l0 ji3 x7_1 (x9_2.set ((ji18) : Int).toNat (wrap64 (Int.tdiv (wrap64 ((wrap64 (x10_2 * 65536)) + (rd l0 x12_2))) t211))) (Int.tmod (wrap64 ((wrap64 (x10_2 * 65536)) + (rd l0 x12_2))) t211) t211 (wrap64 (x12_2 - 1))) else (none)) else (none)) = some (r1, r2) := by first | (rw [hji18] at H; exact H) | (simp only [hji18] at H ⊢; exact H)
            have hji18w : (IntKind.i64.wrap (x12_2 - ji3)) = ji18 := (i64_w _).trans hji18
            by_cases c19 : 0 ≤ (ji18)
            ·rw [if_pos c19] at H
             have c19b0 : decide (0 ≤ (ji18)) = true := decide_eq_true c19
             clear c19
             by_cases c20 : (ji18) < (x9_2.length : Int)
             ·rw [if_pos c20] at H
              have c20b0 : decide ((ji18) < (x9_2.length : Int)) = true := decide_eq_true c20
              clear c20
              obtain ⟨y213, hy213⟩ : ∃ y_ : List Int, y_ = (x9_2.set ((ji18) : Int).toNat (wrap64 (Int.tdiv (wrap64 ((wrap64 (x10_2 * 65536)) + (rd l0 x12_2))) t211))) := ⟨_, rfl⟩
              replace H : (r8_Right.l1 k2 l0 ji3 x7_1 y213 (Int.tmod (wrap64 ((wrap64 (x10_2 * 65536)) + (rd l0 x12_2))) t211) t211 (wrap64 (x12_2 - 1))) = some (r1, r2) := by first | (rw [hy213]; with_reducible exact H) | (have H2_ := (Option.bind_some _ _).symm.trans H; rw [hy213]; with_reducible exact H2_) | (have H2_ := (Option.bind_some _ _).symm.trans H; with_reducible exact H2_) | with_reducible exact H | (rw [hy213]; exact H) | exact H
              have Ny213 := Zs.mk hy213
              clear hy213
              have H' := Zs.mk H
              clear H
              have p212 : 0 ≤ (x12_2 : Int) := of_decide_eq_true (by first | (with_reducible assumption) | assumption)
              have q212 : x12_2 < (l0.length : Int) := of_decide_eq_true (by first | (with_reducible assumption) | assumption)
              obtain ⟨ad212, e212, hx212_0⟩ := Kd.at_int HR0.out x12_2 p212 q212
              cases e212
              replace hx212_0 := (HB.out.cell (World.block_lt_of_cell? w _ hx212_0)).trans hx212_0
              replace p212 := eq_true p212
              replace q212 := eq_true q212
              have p21 : 0 ≤ ((ji18) : Int) := of_decide_eq_true (by first | (with_reducible assumption) | assumption)
              have q21 : ((ji18) : Int) < ((x9_2.length : Int) : Int) := of_decide_eq_true (by first | (with_reducible assumption) | assumption)
              obtain ⟨go21, co21, eo21, gb21, gl21, cl21, HG21⟩ := Kd.R_form HO_9.out (by omega)
              (first | cases eo21 | (injection eo21 with ea_ en_ ec_; (first | subst ea_ | (injection ea_ with ea_; subst ea_)); subst ec_; clear en_))
              have GB21 := Zs.mk gb21
              have GG21 := Zs.mk HG21
              clear gb21 gl21 HG21
              obtain ⟨hx21_0, hf21_0⟩ := Kd.R_celln 0 HO_9.out ((ji18) : Int) p21 q21
              replace p21 := eq_true p21
              replace q21 := eq_true q21
              have HP22 := Kd.R_putg HO_9.out ((ji18) : Int) (wrap64 (Int.tdiv (wrap64 ((wrap64 (x10_2 * 65536)) + (rd l0 x12_2))) t211))
              go_wp2_with (first | ((with_reducible refine gate_store (t := 3) (p := 62) rfl ?_); refine store_event (t := 3) (p := 62) (v := ?vo_w23) (w1 := (wr.setCell ⟨go21, ((ji18) : Int).toNat, none⟩ (.int .i64 (wrap64 (Int.tdiv (wrap64 ((wrap64 (x10_2 * 65536)) + (rd l0 x12_2))) t211))))) ?hg ?ho ?hn ?hr ?_; (case ho => rfl); (case hg => rfl); (case hn => rfl); (case hr => first | (go_simp; done) | (go_simp; rfl)); intro w23 hw; have hg : wr.grownBy w23 (some go21) := (by rw [hw]; exact HP22.2); have hp_ : Kd.R (Kd.int .i64) 3 w23 w.heap.size (fun _ => True) (.slice (some ⟨go21, 0, none⟩) x9_2.length co21) y213 := (by rw [hw, Ny213.out]; exact HP22.1); clear HP22; replace HO_9 := Zs.mk (hp_); replace HB := Zs.mk ((by rw [hw]; exact below_set (HB.out) GB21.out : Below w.heap.size w w23)); clear hg hw hp_))
              go_roundg k2
              case measure => have := HK1.out; have := HK2.out; omega
              case rel => exact ⟨(y213), (Int.tmod (wrap64 ((wrap64 (x10_2 * 65536)) + (rd l0 x12_2))) t211), (wrap64 (x12_2 - 1)), (by first | rfl | (simp; done) | (simp [*]; done)), (by first | rfl | (simp; done) | (simp [*]; done)), H', ⟨by have := HK1.out; have := HK2.out; omega⟩, ⟨by (with_reducible repeat (first | apply Kd.R_alloc | apply Kd.R_drewN | apply Kd.R_drew)); exact HO_9.out⟩, blt HB⟩
             ·rw [if_neg c20] at H
              exact absurd H (by simp)
            ·rw [if_neg c19] at H
             exact absurd H (by simp)
          ·rw [if_neg c16] at H
           exact absurd H (by simp)
         ·rw [if_neg c15] at H
          exact absurd H (by simp)
        ·rw [if_neg c14] at H
         have c14b0 : decide (ji3 ≤ x12_2) = false := decide_eq_false c14
         clear c14
         replace H := Option.bind_eq_some_iff.mp H
         obtain ⟨t214, A24, H⟩ := H
         try dsimp only at H
         replace A24 := Zs.mk A24
         by_cases c25 : x7_1 = true
         ·subst c25
          have H1 : (some (t214, true)) = some (r1, r2) := by rw [if_pos rfl] at H; exact H
          clear H
          have H := H1
          clear H1
          simp only [Option.some.injEq, Prod.mk.injEq] at H
          obtain ⟨rfl, rfl⟩ := H
          obtain ⟨Ao26, co26, eo26⟩ := Kd.R_slice HO_9.out
          subst eo26
          go_wp2_with (first | ((with_reducible refine gc_ (f := 137) rfl ?_); refine gL 67 Tryz.func137 #[.slice Ao26 x9_2.length co26] ?_; (with_reducible refine (r8_trim.calls k2 (fun k_ => some k_ = (.slice Ao26 x9_2.length co26 : Value).ownBlock) (.slice Ao26 x9_2.length co26) x9_2 t214 w _ ?side1 ?side2 A24.out).mono ?_); (case side1 => repeat (first | (with_reducible first | exact HB.out | apply below_alloc | apply pw_below_drewN | apply below_drew1) | exact HB.out)); (case side2 => exact Kd.R_tight rfl HO_9.out); rintro e w27 ⟨v215, rfl, ho0, hb, hkp⟩; refine ⟨_, rfl, ?_⟩; have n0_ := Zs.mk (Kd.R_mono (ok' := fun k_ => True) ho0 (fun k_ hk_ => trivial)); have n1_ := Zs.mk (hb); clear HB; clear HO_9; have HO216 := n0_; have HB := n1_; clear n0_ n1_; (try clear hb); (try clear hkp); (try clear ho0)))
          go_ret2
          exact ⟨_, by first | rfl | (simp [errW_none, errW_some] <;> rfl) | (simp only [← hji3, ← hji8]; first | rfl | (simp [errW_none, errW_some] <;> rfl)) | (simp [*, errW_none, errW_some] <;> rfl), by (with_reducible repeat (first | apply Kd.R_alloc | apply Kd.R_drewN | apply Kd.R_drew)); exact HO216.out, (blt HB).out⟩
         ·replace c25 := Bool.eq_false_iff.mpr c25
          subst c25
          have H1 : (some (t214, (x10_2 != 0))) = some (r1, r2) := by rw [if_neg (show ¬ (false = true) by decide)] at H; exact H
          clear H
          have H := H1
          clear H1
          simp only [Option.some.injEq, Prod.mk.injEq] at H
          obtain ⟨rfl, rfl⟩ := H
          obtain ⟨Ao28, co28, eo28⟩ := Kd.R_slice HO_9.out
          subst eo28
          go_wp2_with (first | ((with_reducible refine gc_ (f := 137) rfl ?_); refine gL 67 Tryz.func137 #[.slice Ao28 x9_2.length co28] ?_; (with_reducible refine (r8_trim.calls k2 (fun k_ => some k_ = (.slice Ao28 x9_2.length co28 : Value).ownBlock) (.slice Ao28 x9_2.length co28) x9_2 t214 w _ ?side1 ?side2 A24.out).mono ?_); (case side1 => repeat (first | (with_reducible first | exact HB.out | apply below_alloc | apply pw_below_drewN | apply below_drew1) | exact HB.out)); (case side2 => exact Kd.R_tight rfl HO_9.out); rintro e w29 ⟨v215, rfl, ho0, hb, hkp⟩; refine ⟨_, rfl, ?_⟩; have n0_ := Zs.mk (Kd.R_mono (ok' := fun k_ => True) ho0 (fun k_ hk_ => trivial)); have n1_ := Zs.mk (hb); clear HB; clear HO_9; have HO216 := n0_; have HB := n1_; clear n0_ n1_; (try clear hb); (try clear hkp); (try clear ho0)))
          go_ret2
          exact ⟨_, by first | rfl | (simp [errW_none, errW_some] <;> rfl) | (simp only [← hji3, ← hji8]; first | rfl | (simp [errW_none, errW_some] <;> rfl)) | (simp [*, errW_none, errW_some] <;> rfl), by (with_reducible repeat (first | apply Kd.R_alloc | apply Kd.R_drewN | apply Kd.R_drew)); exact HO216.out, (blt HB).out⟩
     ·rw [if_neg c10] at H
      exact absurd H (by simp)
    ·rw [if_neg c9] at H
     exact absurd H (by simp)
end Go.Proofs.YtmoimcblmmcffaaGreat.PN

namespace Go.Proofs.YtmoimcblmmcffaaGreat.PN
open Go.RowKit Go.Proofs.YtmoimcblmmcffaaGreatW.PrintWords Go.Proofs.YtmoimcblmmcffaaGreatW.PrintLast Go.Proofs.YtmoimcblmmcffaaGreatW.PrintMore Go.Proofs.YtmoimcblmmcffaaGreatW.PrintZ
attribute [local go_sem] max2_int min2_int max_two min_two max_three min_three max_four min_four   -- for this text's walks alone
set_option linter.unusedVariables false
set_option linter.unusedSimpArgs false
def r8_Int.l0 : Nat → List Int → Int → Int → Option (Int)
 | 0, _, _, _ => none
 | k + 1, x0, x3, x4 => if x4 ≥ 0 then (if 0 ≤ x4 then (if x4 < (x0.length : Int) then (r8_Int.l0 k x0 (wrap64 ((wrap64 (65536 * x3)) + (rd x0 x4))) (wrap64 (x4 - 1))) else (none)) else (none)) else (some x3)
def r8_Int.f (k : Nat) (l0 : List Int) : Option (Int) := r8_Int.l0 k l0 0 (wrap64 ((l0.length : Int) - 1))
set_option maxHeartbeats 8000000 in
set_option maxRecDepth 100000 in
theorem r8_Int.calls (k : Nat) (A0 : Option Addr) (c0 : Nat) (l0 : List Int) (r : Int) (w : World) (hr0 : Kd.C (Kd.int .i64) w A0 l0.length l0) (hc0 : l0.length ≤ c0) (h : r8_Int.f k l0 = some r) :
  Calls Tryz.prog 118 #[.slice A0 l0.length c0] w fun e w' => e = .returned (.int .i64 r) ∧ Drawn0 w w' := by
 have HR0 := Zs.mk hr0
 have HC0 := Zs.mk hc0
 clear hr0 hc0
 have H : (r8_Int.l0 k l0 0 (wrap64 ((l0.length : Int) - 1))) = some r := h
 clear h
 have H' := Zs.mk H
 clear H
 go_enter Tryz.func118, Tryz.ntmps118
 go_wp2
 go_loopg [3, 4] k (fun kq v3 v4 w' => ∃ (x3_1 : Int) (x4_1 : Int), v3 = .int .i64 x3_1 ∧ v4 = .int .i64 x4_1 ∧ Zs (r8_Int.l0 kq l0 x3_1 x4_1 = some r) ∧ Zs (kq ≤ k) ∧ Drawn0 w w')
 case atStart => exact ⟨(0), (wrap64 ((l0.length : Int) - 1)), (by first | rfl | (simp; done) | (simp [*]; done)), (by first | rfl | (simp; done) | (simp [*]; done)), H', ⟨Nat.le_refl _⟩, by repeat (first | exact Drawn0.refl _ | apply Drawn0.step)⟩
 case round =>
  clear H'
  try clear c1
  obtain ⟨x3_1, x4_1, rfl, rfl, HA, HK1, ⟨m1, rfl⟩⟩ := hrel
  cases gk with
  | zero => exact absurd HA.out (by simp [r8_Int.l0])
  | succ k1 =>
   have H := HA.out
   clear HA
   simp only [r8_Int.l0] at H
   by_cases c2 : x4_1 ≥ 0
   ·rw [if_pos c2] at H
    have c2b0 : decide (0 ≤ x4_1) = true := decide_eq_true c2
    clear c2
    by_cases c3 : 0 ≤ x4_1
    ·rw [if_pos c3] at H
     have c3b0 : decide (0 ≤ x4_1) = true := decide_eq_true c3
     clear c3
     by_cases c4 : x4_1 < (l0.length : Int)
     ·rw [if_pos c4] at H
      have c4b0 : decide (x4_1 < (l0.length : Int)) = true := decide_eq_true c4
      clear c4
      have H' := Zs.mk H
      clear H
      have p217 : 0 ≤ (x4_1 : Int) := of_decide_eq_true (by first | (with_reducible assumption) | assumption)
      have q217 : x4_1 < (l0.length : Int) := of_decide_eq_true (by first | (with_reducible assumption) | assumption)
      obtain ⟨ad217, e217, hx217_0⟩ := Kd.at_int HR0.out x4_1 p217 q217
      cases e217
      replace p217 := eq_true p217
      replace q217 := eq_true q217
      go_wp2
      go_roundg k1
      case measure => have := HK1.out; omega
      case rel => exact ⟨(wrap64 ((wrap64 (65536 * x3_1)) + (rd l0 x4_1))), (wrap64 (x4_1 - 1)), (by first | rfl | (simp; done) | (simp [*]; done)), (by first | rfl | (simp; done) | (simp [*]; done)), H', ⟨by have := HK1.out; omega⟩, by repeat (first | exact Drawn0.refl _ | apply Drawn0.step)⟩
     ·rw [if_neg c4] at H
      exact absurd H (by simp)
    ·rw [if_neg c3] at H
     exact absurd H (by simp)
   ·rw [if_neg c2] at H
    have c2b0 : decide (0 ≤ x4_1) = false := decide_eq_false c2
    clear c2
    obtain rfl := Option.some.inj H
    go_wp2
    go_ret
    exact ⟨by first | rfl | (simp; done) | (simp [*]; done), by repeat (first | exact Drawn0.refl _ | apply Drawn0.step)⟩
def r8_Nat.l0 : Nat → Int → List Int → Option (List Int)
 | 0, _, _ => none
 | k + 1, x0, x3 => if x0 > 0 then (if x3.length < 17592186044416 then (r8_Nat.l0 k (wrap64 (Int.tdiv x0 65536)) (x3 ++ [Int.tmod x0 65536])) else (none)) else (some x3)
def r8_Nat.f (k : Nat) (a0 : Int) : Option (List Int) := r8_Nat.l0 k a0 ([] : List Int)
set_option maxHeartbeats 8000000 in
set_option maxRecDepth 100000 in
theorem r8_Nat.calls (k : Nat) (a0 : Int) (r : List Int) (w : World) (h : r8_Nat.f k a0 = some r) :
  Calls Tryz.prog 75 #[.int .i64 a0] w fun e w' => ∃ v0_ : Value, e = .returned (v0_) ∧ Kd.R (Kd.int .i64) 3 w' w.heap.size (fun _ => True) v0_ r ∧ Below w.heap.size w w' := by
 have HB := Zs.mk (Below.refl w.heap.size w)
 have H : (r8_Nat.l0 k a0 ([] : List Int)) = some r := h
 clear h
 have H' := Zs.mk H
 clear H
 go_enter Tryz.func75, Tryz.ntmps75
 go_wp2
 go_loopg [0, 3] k (fun kq v0 v3 w' => ∃ (x0_1 : Int) (x3_1 : List Int), v0 = .int .i64 x0_1 ∧ Zs (r8_Nat.l0 kq x0_1 x3_1 = some r) ∧ Zs (kq ≤ k) ∧ Zs (Kd.R (Kd.int .i64) 3 w' w.heap.size (fun _ => True) v3 x3_1) ∧ Zs (Below w.heap.size w w'))
 case atStart => exact ⟨(a0), (([] : List Int)), (by first | rfl | (simp; done) | (simp [*]; done)), H', ⟨Nat.le_refl _⟩, ⟨by first | exact Kd.R_nil _ _ _ _ _ | exact Kd.N_nil _ _ _ _ _ | exact Kd.V_nil _ _ _ _ _ | exact Kd.Q_nil _ _ _ _ _ | exact Kd.S_nil _ _ _ _ _⟩, blt HB⟩
 case round =>
  clear H'
  obtain ⟨x0_1, x3_1, rfl, HA, HK1, HO_3, HB⟩ := hrel
  cases gk with
  | zero => exact absurd HA.out (by simp [r8_Nat.l0])
  | succ k1 =>
   have H := HA.out
   clear HA
   simp only [r8_Nat.l0] at H
   by_cases c2 : x0_1 > 0
   ·rw [if_pos c2] at H
    have c2b0 : decide (0 < x0_1) = true := decide_eq_true c2
    clear c2
    by_cases c3 : x3_1.length < 17592186044416
    ·rw [if_pos c3] at H
     have LMc3 := Zs.mk c3
     clear c3
     obtain ⟨y218, hy218⟩ : ∃ y_ : List Int, y_ = (x3_1 ++ [Int.tmod x0_1 65536]) := ⟨_, rfl⟩
     replace H : (r8_Nat.l0 k1 (wrap64 (Int.tdiv x0_1 65536)) y218) = some r := by first | (rw [hy218]; with_reducible exact H) | (have H2_ := (Option.bind_some _ _).symm.trans H; rw [hy218]; with_reducible exact H2_) | (have H2_ := (Option.bind_some _ _).symm.trans H; with_reducible exact H2_) | with_reducible exact H | (rw [hy218]; exact H) | exact H
     have Ny218 := Zs.mk hy218
     clear hy218
     have H' := Zs.mk H
     clear H
     go_wp2_with (first | ((with_reducible refine gate_builtin (b := .append) (xs := #[.tmp 6, .tmp 9]) rfl ?_); at_builtin; refine Kd.R_append (Kd.int .i64) (w0 := w) w.heap.size rfl (.tmp 6) (.tmp 9) 36 3 (.int .i64 0) 8 rfl Tryz.underlying36 info3 rfl (by decide) (by omega) u3 x3_1 (Int.tmod x0_1 65536) [.int .i64 (Int.tmod x0_1 65536)] (fun _ => True) (fun _ => False) rfl rfl ?aP (fun _ hk => hk.elim) ?aF ?aO ?aB ?aS ?aL ?_; (case aP => exact rfl); (case aB => exact (blt HB).out); (case aF => exact (fun _ _ => trivial)); (case aO => exact (by (with_reducible repeat (first | apply Kd.R_alloc | apply Kd.R_drewN | apply Kd.R_drew)); exact HO_3.out)); (case aS => exact (below_size (blt HB).out)); (case aL => have := LMc3.out; omega); intro v219 w4 ho hb hg hat; rw [← Ny218.out] at ho; have n0_ := Zs.mk (hb); have n1_ := Zs.mk (ho); clear HB; clear HO_3; have HB := n0_; have HO220 := n1_; clear n0_ n1_; clear ho hb hg hat))
     go_roundg k1
     case measure => have := HK1.out; omega
     case rel => exact ⟨(wrap64 (Int.tdiv x0_1 65536)), (y218), (by first | rfl | (simp; done) | (simp [*]; done)), H', ⟨by have := HK1.out; omega⟩, ⟨by (with_reducible repeat (first | apply Kd.R_alloc | apply Kd.R_drewN | apply Kd.R_drew)); exact HO220.out⟩, blt HB⟩
    ·rw [if_neg c3] at H
     exact absurd H (by simp)
   ·rw [if_neg c2] at H
    have c2b0 : decide (0 < x0_1) = false := decide_eq_false c2
    clear c2
    obtain rfl := Option.some.inj H
    go_wp2
    go_ret
    exact ⟨_, by first | rfl | (simp [errW_none, errW_some] <;> rfl) | (simp [*, errW_none, errW_some] <;> rfl), by (with_reducible repeat (first | apply Kd.R_alloc | apply Kd.R_drewN | apply Kd.R_drew)); exact HO_3.out, (blt HB).out⟩
def bs_Size.f (a0 : Int) : Option (Int) := if a0 < 0 then (some (wrap64 (-a0))) else (some a0)
set_option maxHeartbeats 8000000 in
set_option maxRecDepth 100000 in
theorem bs_Size.calls (a0 : Int) (r : Int) (w : World) (h : bs_Size.f a0 = some r) :
  Calls Tryz.prog 76 #[.int .i64 a0] w fun e w' => e = .returned (.int .i64 r) ∧ Drawn0 w w' := by
 have H : (if a0 < 0 then (some (wrap64 (-a0))) else (some a0)) = some r := h
 clear h
 by_cases c2 : a0 < 0
 ·rw [if_pos c2] at H
  have c2b0 : decide (a0 < 0) = true := decide_eq_true c2
  clear c2
  obtain rfl := Option.some.inj H
  go_enter Tryz.func76, Tryz.ntmps76
  go_wp2
  go_ret
  exact ⟨by first | rfl | (simp; done) | (simp [*]; done), by repeat (first | exact Drawn0.refl _ | apply Drawn0.step)⟩
 ·rw [if_neg c2] at H
  have c2b0 : decide (a0 < 0) = false := decide_eq_false c2
  clear c2
  obtain rfl := Option.some.inj H
  go_enter Tryz.func76, Tryz.ntmps76
  go_wp2
  go_ret
  exact ⟨by first | rfl | (simp; done) | (simp [*]; done), by repeat (first | exact Drawn0.refl _ | apply Drawn0.step)⟩
end Go.Proofs.YtmoimcblmmcffaaGreat.PN

namespace Go.Proofs.YtmoimcblmmcffaaGreat.N
open Go.RowKit Go.Proofs.YtmoimcblmmcffaaGreatW.PrintWords Go.Proofs.YtmoimcblmmcffaaGreatW.PrintLast Go.Proofs.YtmoimcblmmcffaaGreatW.PrintMore Go.Proofs.YtmoimcblmmcffaaGreat.PN
set_option linter.unusedSimpArgs false
set_option linter.unusedVariables false
theorem wr {n : Int} (h0 : -9223372036854775808 ≤ n) (h1 : n ≤ 9223372036854775807) : wrap64 n = n := by unfold wrap64; omega
def val : List Int → Nat
 | [] => 0
 | d :: l => d.toNat + 65536 * val l
def Dig (l : List Int) : Prop := ∀ d ∈ l, 0 ≤ d ∧ d < 65536
def digs (n : Nat) : List Int := if n = 0 then [] else ((n % 65536 : Nat) : Int) :: digs (n / 65536)
termination_by n
decreasing_by omega
theorem digs_zero : digs 0 = [] := by rw [digs]; simp
theorem digs_pos {n : Nat} (h : n ≠ 0) : digs n = ((n % 65536 : Nat) : Int) :: digs (n / 65536) := by rw [digs]; simp [h]
theorem digs_one : digs 1 = [1] := by rw [digs_pos (by decide)]; simp [digs_zero]
theorem val_digs : ∀ n, val (digs n) = n := by
 intro n
 induction n using Nat.strongRecOn with
 | ind n ih =>
  by_cases h : n = 0
  ·subst h; simp [digs_zero, val]
  ·rw [digs_pos h]
   simp only [val, Int.toNat_natCast]
   rw [ih _ (by omega)]
   omega
theorem dig_digs : ∀ n, Dig (digs n) := by
 intro n
 induction n using Nat.strongRecOn with
 | ind n ih =>
  by_cases h : n = 0
  ·subst h; simp [digs_zero, Dig]
  ·rw [digs_pos h]
   intro d hd
   rcases List.mem_cons.1 hd with rfl | hd
   ·omega
   ·exact ih _ (by omega) d hd
theorem Dig.tail {d : Int} {l : List Int} (h : Dig (d :: l)) : Dig l := fun x hx => h x (List.mem_cons_of_mem _ hx)
theorem Dig.getD {l : List Int} (h : Dig l) (i : Nat) : 0 ≤ l.getD i 0 ∧ l.getD i 0 < 65536 := by
 rw [List.getD_eq_getElem?_getD]
 cases e : l[i]? with
 | none => simp
 | some d => exact h d (List.mem_of_getElem? e)
theorem Dig.nat {l : List Int} (h : Dig l) (i : Nat) : ∃ d : Nat, l.getD i 0 = (d : Int) ∧ d < 65536 := by
 have := h.getD i
 exact ⟨(l.getD i 0).toNat, by omega, by omega⟩
theorem Dig.append {a b : List Int} (ha : Dig a) (hb : Dig b) : Dig (a ++ b) := fun d hd => by
 rcases List.mem_append.1 hd with h | h
 ·exact ha d h
 ·exact hb d h
theorem Dig.take {l : List Int} (h : Dig l) (n : Nat) : Dig (l.take n) := fun d hd => h d (List.mem_of_mem_take hd)
theorem Dig.set {l : List Int} (h : Dig l) (i : Nat) {d : Int} (h0 : 0 ≤ d) (h1 : d < 65536) : Dig (l.set i d) := fun x hx => by
 rcases List.mem_or_eq_of_mem_set hx with h2 | rfl
 ·exact h x h2
 ·exact ⟨h0, h1⟩
theorem dig_zeros (n : Nat) : Dig (List.replicate n 0) := fun d hd => by
 rw [List.eq_of_mem_replicate hd]; decide
theorem val_append : ∀ (a b : List Int), val (a ++ b) = val a + 65536 ^ a.length * val b
 | [], b => by simp [val]
 | d :: a, b => by
  simp only [List.cons_append, val, val_append a b, List.length_cons, Nat.pow_succ]
  rw [Nat.mul_add, Nat.mul_comm (65536 ^ a.length) 65536, Nat.mul_assoc]
  omega
theorem val_zeros : ∀ n, val (List.replicate n 0) = 0
 | 0 => rfl
 | n + 1 => by simp [List.replicate_succ, val, val_zeros n]
theorem val_lt : ∀ {l : List Int}, Dig l → val l < 65536 ^ l.length
 | [], _ => by simp [val]
 | d :: l, h => by
  have := val_lt (l := l) h.tail
  have hd := h d List.mem_cons_self
  simp only [val, List.length_cons, Nat.pow_succ]
  omega
theorem val_drop (l : List Int) (i : Nat) : val (l.drop i) = (l.getD i 0).toNat + 65536 * val (l.drop (i + 1)) := by
 by_cases h : i < l.length
 ·rw [List.drop_eq_getElem_cons h, List.getD_eq_getElem?_getD, List.getElem?_eq_getElem h]
  rfl
 ·rw [List.drop_eq_nil_of_le (by omega), List.drop_eq_nil_of_le (by omega), List.getD_eq_getElem?_getD, List.getElem?_eq_none (by omega)]
  rfl
theorem val_take_succ (l : List Int) (i : Nat) (h : i < l.length) : val (l.take (i + 1)) = val (l.take i) + 65536 ^ i * (l.getD i 0).toNat := by
 rw [List.take_succ_eq_append_getElem h, val_append, List.length_take, Nat.min_eq_left (by omega), List.getD_eq_getElem?_getD, List.getElem?_eq_getElem h]
 simp [val]
theorem val_split (l : List Int) (i : Nat) (h : i ≤ l.length) : val l = val (l.take i) + 65536 ^ i * val (l.drop i) := by
 conv => lhs; rw [← List.take_append_drop i l]
 rw [val_append, List.length_take, Nat.min_eq_left h]
theorem val_set : ∀ (l : List Int) (i : Nat) (d : Int), i < l.length → val (l.set i d) + 65536 ^ i * (l.getD i 0).toNat = val l + 65536 ^ i * d.toNat
 | [], i, d, h => by simp at h
 | x :: l, 0, d, _ => by simp [val]; omega
 | x :: l, i + 1, d, h => by
  have := val_set l i d (by simpa using h)
  simp only [List.set_cons_succ, val, List.getD_cons_succ, Nat.pow_succ]
  rw [Nat.mul_comm (65536 ^ i) 65536, Nat.mul_assoc, Nat.mul_assoc]
  omega
theorem canon : ∀ {l : List Int}, Dig l → l.getLast? ≠ some 0 → digs (val l) = l
 | [], _, _ => by simp [val, digs_zero]
 | [d], h, hl => by
  have hd := h d List.mem_cons_self
  have : d ≠ 0 := by rintro rfl; simp at hl
  have hv : val [d] = d.toNat := by simp [val]
  rw [hv, digs_pos (by omega), Nat.div_eq_of_lt (by omega), Nat.mod_eq_of_lt (by omega), digs_zero]
  congr 1
  omega
 | d :: e :: l, h, hl => by
  have ih := canon (l := e :: l) h.tail (by rwa [List.getLast?_cons_cons] at hl)
  have hd := h d List.mem_cons_self
  have hne : val (e :: l) ≠ 0 := by
   intro h0
   rw [h0, digs_zero] at ih
   cases ih
  have hv : val (d :: e :: l) = d.toNat + 65536 * val (e :: l) := rfl
  rw [hv, digs_pos (by omega), show (d.toNat + 65536 * val (e :: l)) / 65536 = val (e :: l) from by omega, show (d.toNat + 65536 * val (e :: l)) % 65536 = d.toNat from by omega, ih]
  congr 1
  omega
theorem digs_len {n m : Nat} (h : n < 65536 ^ m) : (digs n).length ≤ m := by
 induction m generalizing n with
 | zero =>
  have : n = 0 := by simpa using h
  subst this
  simp [digs_zero]
 | succ m ih =>
  by_cases h0 : n = 0
  ·subst h0; simp [digs_zero]
  ·rw [digs_pos h0]
   have := ih (n := n / 65536) (by rw [Nat.pow_succ] at h; omega)
   simp only [List.length_cons]
   omega
theorem digs_low {n : Nat} (h : n ≠ 0) : 65536 ^ ((digs n).length - 1) ≤ n := by
 induction n using Nat.strongRecOn with
 | ind n ih =>
  rw [digs_pos h]
  by_cases h1 : n / 65536 = 0
  ·rw [h1, digs_zero]
   simp
   omega
  ·have := ih (n / 65536) (by omega) h1
   have hp : 0 < (digs (n / 65536)).length := by rw [digs_pos h1]; simp
   simp only [List.length_cons]
   obtain ⟨j, hj⟩ : ∃ j, (digs (n / 65536)).length = j + 1 := ⟨_, (Nat.sub_add_cancel hp).symm⟩
   rw [hj] at this ⊢
   simp only [Nat.add_sub_cancel] at this ⊢
   rw [Nat.pow_succ]
   omega
theorem digs_nil {n : Nat} : (digs n).length = 0 ↔ n = 0 := by
 constructor
 ·intro h
  by_cases h0 : n = 0
  ·exact h0
  ·rw [digs_pos h0] at h; simp at h
 ·rintro rfl; simp [digs_zero]
def Ev {α : Type} (f : Nat → Option α) (r : α) : Prop := ∃ K, ∀ k, K ≤ k → f k = some r
theorem Ev.some {α : Type} {f : Nat → Option α} {r : α} (h : Ev f r) : ∃ k, f k = Option.some r := h.elim fun K h => ⟨K, h K (Nat.le_refl _)⟩
theorem rd_nat (l : List Int) (i : Nat) : rd l (i : Int) = l.getD i 0 := by simp [rd]
theorem digit_f (l : List Int) (i : Nat) : r8_digit.f l (i : Int) = some (l.getD i 0) := by
 unfold r8_digit.f
 by_cases h : i < l.length
 ·rw [if_pos (by omega), if_pos (by omega), rd_nat]
 ·rw [if_neg (by omega), List.getD_eq_getElem?_getD, List.getElem?_eq_none (by omega)]
  rfl
theorem bit_f (b : Bool) : bs_Bit.f b = some (if b then 1 else 0) := by cases b <;> rfl
theorem trim_l0 (x : List Int) (hx : Dig x) (hl : x.length < 9223372036854775807) : ∀ j k, j ≤ x.length → j < k → r8_trim.l0 k x (j : Int) = some (digs (val (x.take j))) := by
 intro j
 induction j with
 | zero =>
  intro k _ hk
  obtain ⟨k, rfl⟩ : ∃ k', k = k' + 1 := ⟨k - 1, by omega⟩
  simp [r8_trim.l0, val, digs_zero]
 | succ j ih =>
  intro k hj hk
  obtain ⟨k, rfl⟩ : ∃ k', k = k' + 1 := ⟨k - 1, by omega⟩
  have e : wrap64 (((j + 1 : Nat) : Int) - 1) = (j : Int) := by rw [wr (by omega) (by omega)]; omega
  simp only [r8_trim.l0, e, rd_nat]
  rw [if_pos (by omega), if_pos (by omega), if_pos (by omega)]
  by_cases hz : x.getD j 0 = 0
  ·rw [if_pos hz, ih k (by omega) (by omega), val_take_succ x j (by omega), hz]
   simp
  ·rw [if_neg hz, if_pos (by omega), if_pos (by omega), Int.toNat_natCast, canon (hx.take _)]
   rw [List.getLast?_take, if_neg (by omega)]
   rw [List.getD_eq_getElem?_getD] at hz
   simp only [Nat.add_sub_cancel]
   rw [List.getElem?_eq_getElem (by omega)] at hz ⊢
   simpa using hz
theorem trim_k {x : List Int} (hx : Dig x) {k : Nat} (hk : x.length < k) (hl : x.length < 9223372036854775807) : r8_trim.f k x = some (digs (val x)) := by
 unfold r8_trim.f
 rw [trim_l0 x hx hl _ k (Nat.le_refl _) hk, List.take_length]
theorem power_l0 (n : Nat) (hn : n ≤ 62) : ∀ m i k, m + i = n → m < k → bs_Power.l0 k ((2 ^ i : Nat) : Int) (n : Int) (i : Int) = some ((2 ^ n : Nat) : Int) := by
 intro m
 induction m with
 | zero =>
  intro i k hi hk
  obtain ⟨k, rfl⟩ : ∃ k', k = k' + 1 := ⟨k - 1, by omega⟩
  rw [bs_Power.l0, if_neg (by omega), show i = n from by omega]
 | succ m ih =>
  intro i k hi hk
  obtain ⟨k, rfl⟩ : ∃ k', k = k' + 1 := ⟨k - 1, by omega⟩
  rw [bs_Power.l0, if_pos (by omega)]
  have hp : 2 ^ (i + 1) ≤ 2 ^ 62 := Nat.pow_le_pow_right (by decide) (by omega)
  rw [Nat.pow_succ] at hp
  have := ih (i + 1) k (by omega) (by omega)
  rw [Nat.pow_succ] at this
  rw [wr (by omega) (by omega), wr (by omega) (by omega), show ((2 ^ i : Nat) : Int) + ((2 ^ i : Nat) : Int) = ((2 ^ i * 2 : Nat) : Int) from by omega]
  exact this
theorem power_ev (n : Nat) (hn : n ≤ 62) : Ev (fun k => bs_Power.f k (n : Int)) ((2 ^ n : Nat) : Int) :=
 ⟨n + 1, fun k hk => power_l0 n hn n 0 k (by omega) (by omega)⟩
theorem size_f (n : Int) (h0 : -9223372036854775807 ≤ n) (h1 : n ≤ 9223372036854775807) : bs_Size.f n = some (n.natAbs : Int) := by
 unfold bs_Size.f
 by_cases h : n < 0
 ·rw [if_pos h, wr (by omega) (by omega)]; congr 1; omega
 ·rw [if_neg h]; congr 1; omega
theorem nat_l0 : ∀ (n : Nat), n ≤ 9223372036854775807 → ∀ x k, x.length + n < 17592186044416 * 1000000 → n < k → x.length + (digs n).length < 17592186044416 → r8_Nat.l0 k (n : Int) x = some (x ++ digs n) := by
 intro n
 induction n using Nat.strongRecOn with
 | ind n ih =>
  intro hn x k hx hk hd
  obtain ⟨k, rfl⟩ : ∃ k', k = k' + 1 := ⟨k - 1, by omega⟩
  rw [r8_Nat.l0]
  by_cases h0 : n = 0
  ·subst h0; simp [digs_zero]
  ·rw [digs_pos h0] at hd ⊢
   simp only [List.length_cons] at hd
   rw [if_pos (by omega), if_pos (by omega)]
   have e1 : wrap64 (Int.tdiv (n : Int) 65536) = ((n / 65536 : Nat) : Int) := by
    rw [show Int.tdiv (n : Int) 65536 = ((n / 65536 : Nat) : Int) from rfl, wr (by omega) (by omega)]
   have e2 : Int.tmod (n : Int) 65536 = ((n % 65536 : Nat) : Int) := rfl
   rw [e1, e2, ih (n / 65536) (by omega) (by omega) _ k (by simp; omega) (by omega) (by simp; omega)]
   simp
theorem nat_ev (n : Nat) (hn : n ≤ 9223372036854775807) : Ev (fun k => r8_Nat.f k (n : Int)) (digs n) := by
 refine ⟨n + 1, fun k hk => ?_⟩
 have : (digs n).length ≤ 4 := digs_len (by omega)
 exact nat_l0 n hn [] k (by simp; omega) (by omega) (by simp; omega)
theorem int_l0 (a : Nat) (ha : a ≤ 9223372036854775807) : ∀ j k, j ≤ (digs a).length → j < k → r8_Int.l0 k (digs a) (val ((digs a).drop j) : Int) ((j : Int) - 1) = some (a : Int) := by
 have hd := dig_digs a
 intro j
 induction j with
 | zero =>
  intro k _ hk
  obtain ⟨k, rfl⟩ : ∃ k', k = k' + 1 := ⟨k - 1, by omega⟩
  rw [r8_Int.l0, if_neg (by omega), List.drop_zero, val_digs]
 | succ j ih =>
  intro k hj hk
  obtain ⟨k, rfl⟩ : ∃ k', k = k' + 1 := ⟨k - 1, by omega⟩
  rw [show ((j + 1 : Nat) : Int) - 1 = (j : Int) from by omega, r8_Int.l0, if_pos (by omega), if_pos (by omega), if_pos (by omega), rd_nat]
  have e := val_drop (digs a) j
  obtain ⟨d, hd1, hd2⟩ := hd.nat j
  rw [hd1] at e ⊢
  have hs := val_split (digs a) j (by omega)
  rw [val_digs] at hs
  have h1 : val ((digs a).drop j) ≤ a := by
   have : 1 * val ((digs a).drop j) ≤ 65536 ^ j * val ((digs a).drop j) := Nat.mul_le_mul_right _ (Nat.pow_pos (by decide))
   omega
  simp only [Int.toNat_natCast] at e
  rw [wr (n := 65536 * _) (by omega) (by omega), wr (n := _ + (d : Int)) (by omega) (by omega), show (65536 * (val ((digs a).drop (j + 1)) : Int) + (d : Int)) = (val ((digs a).drop j) : Int) from by omega, wr (by have := hj; omega) (by have : (digs a).length ≤ 4 := digs_len (by omega); omega)]
  exact ih k (by omega) (by omega)
theorem int_ev (a : Nat) (ha : a ≤ 9223372036854775807) : Ev (fun k => r8_Int.f k (digs a)) (a : Int) := by
 refine ⟨(digs a).length + 1, fun k hk => ?_⟩
 have hl : (digs a).length ≤ 4 := digs_len (by omega)
 have := int_l0 a ha (digs a).length k (Nat.le_refl _) (by omega)
 rw [List.drop_length] at this
 show r8_Int.f k (digs a) = _
 unfold r8_Int.f
 rw [wr (by omega) (by omega)]
 exact this
def ordN (a b : Nat) : Int := if a < b then -1 else if a = b then 0 else 1
theorem digs_len_lt {a b : Nat} (h : (digs a).length < (digs b).length) : a < b := by
 have h1 := val_lt (dig_digs a)
 rw [val_digs] at h1
 have hb : b ≠ 0 := by rintro rfl; simp [digs_zero] at h
 have h2 := digs_low hb
 have : 65536 ^ (digs a).length ≤ 65536 ^ ((digs b).length - 1) := Nat.pow_le_pow_right (by decide) (by omega)
 omega
theorem order_l0 (a b : Nat) (hab : (digs a).length = (digs b).length) (hl : (digs a).length < 9223372036854775807) : ∀ j k, j ≤ (digs a).length → j < k → val ((digs a).drop j) = val ((digs b).drop j) → r8_Order.l0 k (digs a) (digs b) ((j : Int) - 1) = some (ordN a b) := by
 intro j
 induction j with
 | zero =>
  intro k _ hk he
  obtain ⟨k, rfl⟩ : ∃ k', k = k' + 1 := ⟨k - 1, by omega⟩
  rw [List.drop_zero, List.drop_zero, val_digs, val_digs] at he
  rw [r8_Order.l0, if_neg (by omega)]
  simp [ordN, he]
 | succ j ih =>
  intro k hj hk he
  obtain ⟨k, rfl⟩ : ∃ k', k = k' + 1 := ⟨k - 1, by omega⟩
  rw [show ((j + 1 : Nat) : Int) - 1 = (j : Int) from by omega, r8_Order.l0, if_pos (by omega), if_pos (by omega), if_pos (by omega), if_pos (by omega), rd_nat, rd_nat]
  have e1 := val_drop (digs a) j
  have e2 := val_drop (digs b) j
  obtain ⟨x, hx1, hx2⟩ := (dig_digs a).nat j
  obtain ⟨y, hy1, hy2⟩ := (dig_digs b).nat j
  rw [hx1] at e1 ⊢
  rw [hy1] at e2 ⊢
  simp only [Int.toNat_natCast] at e1 e2
  by_cases hxy : x = y
  ·subst hxy
   rw [if_pos rfl, wr (by omega) (by omega)]
   exact ih k (by omega) (by omega) (by omega)
  ·rw [if_neg (by omega), bit_f]
   have s1 := val_split (digs a) j (by omega)
   have s2 := val_split (digs b) j (by omega)
   rw [val_digs] at s1 s2
   have l1 := val_lt ((dig_digs a).take j)
   have l2 := val_lt ((dig_digs b).take j)
   rw [List.length_take, Nat.min_eq_left (by omega)] at l1 l2
   have hp : ∀ u v P s t : Nat, s < P → u < v → s + P * u < t + P * v := by
    intro u v P s t hs huv
    have := Nat.mul_le_mul_left P (show u + 1 ≤ v from huv)
    rw [Nat.mul_succ] at this
    omega
   by_cases hlt : x < y
   ·have := hp (val ((digs a).drop j)) (val ((digs b).drop j)) (65536 ^ j) _ (val ((digs b).take j)) l1 (by omega)
    rw [show ordN a b = -1 from by unfold ordN; rw [if_pos (by omega)]]
    simp only [show ((x : Int) < (y : Int)) from by omega, decide_true, if_true, Option.bind_some]
    simp [wrap64]
   ·have := hp (val ((digs b).drop j)) (val ((digs a).drop j)) (65536 ^ j) _ (val ((digs a).take j)) l2 (by omega)
    rw [show ordN a b = 1 from by unfold ordN; rw [if_neg (by omega), if_neg (by omega)]]
    simp only [show ¬ ((x : Int) < (y : Int)) from by omega, decide_false, Option.bind_some]
    simp [wrap64]
theorem order_ev (a b : Nat) (hl : (digs a).length < 9223372036854775807) : Ev (fun k => r8_Order.f k (digs a) (digs b)) (ordN a b) := by
 refine ⟨(digs a).length + 1, fun k hk => ?_⟩
 show r8_Order.f k (digs a) (digs b) = _
 unfold r8_Order.f
 by_cases h : (digs a).length = (digs b).length
 ·rw [if_pos (by omega), wr (by omega) (by omega)]
  exact order_l0 a b h hl _ k (Nat.le_refl _) (by omega) (by rw [List.drop_length, h, List.drop_length])
 ·rw [if_neg (by omega), bit_f]
  by_cases h1 : (digs a).length < (digs b).length
  ·have := digs_len_lt h1
   rw [show ordN a b = -1 from by unfold ordN; rw [if_pos this]]
   simp only [show (((digs a).length : Int) < ((digs b).length : Int)) from by omega, decide_true, if_true, Option.bind_some]
   simp [wrap64]
  ·have := digs_len_lt (a := b) (b := a) (by omega)
   rw [show ordN a b = 1 from by unfold ordN; rw [if_neg (by omega), if_neg (by omega)]]
   simp only [show ¬ (((digs a).length : Int) < ((digs b).length : Int)) from by omega, decide_false, Option.bind_some]
   simp [wrap64]
end Go.Proofs.YtmoimcblmmcffaaGreat.N

namespace Go.Proofs.YtmoimcblmmcffaaGreat.N
open Go.RowKit Go.Proofs.YtmoimcblmmcffaaGreatW.PrintWords Go.Proofs.YtmoimcblmmcffaaGreatW.PrintLast Go.Proofs.YtmoimcblmmcffaaGreatW.PrintMore Go.Proofs.YtmoimcblmmcffaaGreat.PN
set_option linter.unusedSimpArgs false
set_option linter.unusedVariables false
theorem val_drop_nil {l : List Int} {i : Nat} (h : l.length ≤ i) : val (l.drop i) = 0 := by rw [List.drop_eq_nil_of_le h]; rfl
theorem mx_nat (a b : Nat) : mx (a : Int) (b : Int) = ((max a b : Nat) : Int) := by
 unfold mx
 by_cases h : a < b
 ·rw [if_pos (by omega), Nat.max_eq_right (by omega)]
 ·rw [if_neg (by omega), Nat.max_eq_left (by omega)]
theorem mn_nat (a b : Nat) : mn (a : Int) (b : Int) = ((min a b : Nat) : Int) := by
 unfold mn
 by_cases h : b < a
 ·rw [if_pos (by omega), Nat.min_eq_right (by omega)]
 ·rw [if_neg (by omega), Nat.min_eq_left (by omega)]
def Lim : Nat := 100000
theorem val_push (x : List Int) (d : Nat) : val (x ++ [(d : Int)]) = val x + 65536 ^ x.length * d := by
 rw [val_append]; simp [val]
theorem Dig.push {x : List Int} (hx : Dig x) {d : Nat} (h : d < 65536) : Dig (x ++ [(d : Int)]) :=
 hx.append (fun e he => by simp at he; subst he; omega)
theorem plus_l0 (a b : List Int) (ha : Dig a) (hb : Dig b) (la : a.length ≤ Lim) (lb : b.length ≤ Lim) (S : Nat) :
  ∀ m k x (c i : Nat), Dig x → x.length = i → c ≤ 1 → 2 * (max a.length b.length - i) + c ≤ m → i + m ≤ 4 * Lim → 3 * m + i + 5 ≤ k →
   val x + 65536 ^ i * (c + val (a.drop i) + val (b.drop i)) = S → r8_Plus.l0 k a b x (c : Int) (i : Int) = some (digs S) := by
 unfold Lim at *
 intro m
 induction m with
 | zero =>
  intro k x c i hx hl hc hm him hk hs
  obtain ⟨k, rfl⟩ : ∃ k', k = k' + 2 := ⟨k - 2, by omega⟩
  rw [r8_Plus.l0, mx_nat, if_neg (by omega), show decide ((c : Int) > 0) = false from by simp; omega, r8_Plus.j1, if_neg (by decide), trim_k hx (by omega) (by omega)]
  rw [val_drop_nil (by omega), val_drop_nil (by omega), show c = 0 from by omega] at hs
  simp at hs
  simp [hs]
 | succ m ih =>
  intro k x c i hx hl hc hm him hk hs
  obtain ⟨k, rfl⟩ : ∃ k', k = k' + 2 := ⟨k - 2, by omega⟩
  by_cases hend : ¬ (i < max a.length b.length) ∧ c = 0
  ·obtain ⟨h1, rfl⟩ := hend
   rw [r8_Plus.l0, mx_nat, if_neg (by omega), show decide (((0 : Nat) : Int) > 0) = false from by decide, r8_Plus.j1, if_neg (by decide), trim_k hx (by omega) (by omega)]
   rw [val_drop_nil (by omega), val_drop_nil (by omega)] at hs
   simp at hs
   simp [hs]
  ·have hj : r8_Plus.l0 (k + 2) a b x (c : Int) (i : Int) = r8_Plus.j1 (k + 1) a b x (c : Int) (i : Int) true := by
    rw [r8_Plus.l0, mx_nat]
    by_cases h1 : i < max a.length b.length
    ·rw [if_pos (by omega)]
    ·rw [if_neg (by omega), show decide ((c : Int) > 0) = true from by simp; omega]
   obtain ⟨d, hd1, hd2⟩ := ha.nat i
   obtain ⟨e, he1, he2⟩ := hb.nat i
   have va := val_drop a i
   have vb := val_drop b i
   rw [hd1, Int.toNat_natCast] at va
   rw [he1, Int.toNat_natCast] at vb
   rw [hj, r8_Plus.j1, if_pos rfl, digit_f, digit_f, hd1, he1]
   simp only [Option.bind_some]
   rw [if_pos (by omega), wr (n := (d : Int) + e) (by omega) (by omega), wr (n := (d : Int) + e + c) (by omega) (by omega), wr (n := (i : Int) + 1) (by omega) (by omega)]
   have e1 : Int.tmod ((d : Int) + e + c) 65536 = (((d + e + c) % 65536 : Nat) : Int) := by
    rw [show (d : Int) + e + c = ((d + e + c : Nat) : Int) from by omega]; rfl
   have e2 : Int.tdiv ((d : Int) + e + c) 65536 = (((d + e + c) / 65536 : Nat) : Int) := by
    rw [show (d : Int) + e + c = ((d + e + c : Nat) : Int) from by omega]; rfl
   rw [e1, e2, wr (by omega) (by omega)]
   have hd0 : ¬ i < a.length → d = 0 := fun h => by
    rw [List.getD_eq_getElem?_getD, List.getElem?_eq_none (by omega)] at hd1
    simp at hd1; omega
   have he0 : ¬ i < b.length → e = 0 := fun h => by
    rw [List.getD_eq_getElem?_getD, List.getElem?_eq_none (by omega)] at he1
    simp at he1; omega
   refine ih k _ ((d + e + c) / 65536) (i + 1) (hx.push (Nat.mod_lt _ (by decide))) (by simp [hl]) ?_ ?_ (by omega) (by omega) ?_
   ·by_cases h1 : i < max a.length b.length
    ·omega
    ·omega
   ·by_cases h1 : i < max a.length b.length
    ·omega
    ·have := hd0 (by omega)
     have := he0 (by omega)
     omega
   ·rw [val_push, hl, ← hs, va, vb, Nat.pow_succ, Nat.mul_assoc, Nat.add_assoc, ← Nat.mul_add]
    congr 2
    omega
theorem plus_ev (a b : Nat) (la : (digs a).length ≤ Lim) (lb : (digs b).length ≤ Lim) : Ev (fun k => r8_Plus.f k (digs a) (digs b)) (digs (a + b)) := by
 refine ⟨8 * Lim, fun k hk => ?_⟩
 show r8_Plus.f k (digs a) (digs b) = _
 unfold r8_Plus.f
 have e := plus_l0 (digs a) (digs b) (dig_digs a) (dig_digs b) la lb (a + b) (2 * Lim) k [] 0 0 (fun _ h => by cases h) rfl (by decide) (by unfold Lim at *; omega) (by unfold Lim; omega) (by unfold Lim at *; omega)
  (by simp [val, val_digs])
 exact e
theorem minus_l0 (a b : List Int) (ha : Dig a) (hb : Dig b) (la : a.length ≤ Lim) (S : Nat) :
  ∀ m k x (c i : Nat), Dig x → x.length = i → c ≤ 1 → i + m = a.length → m + a.length + 3 ≤ k →
   val x + 65536 ^ i * val (a.drop i) = S + 65536 ^ i * (c + val (b.drop i)) → r8_Minus.l0 k a b x (c : Int) (i : Int) = some (digs S) := by
 unfold Lim at *
 intro m
 induction m with
 | zero =>
  intro k x c i hx hl hc hi hk hs
  obtain ⟨k, rfl⟩ : ∃ k', k = k' + 1 := ⟨k - 1, by omega⟩
  rw [r8_Minus.l0, if_neg (by omega), trim_k hx (by omega) (by omega)]
  have hv := val_lt hx
  rw [hl] at hv
  rw [val_drop_nil (l := a) (by omega)] at hs
  have : c + val (b.drop i) = 0 := by
   by_cases h0 : c + val (b.drop i) = 0
   ·exact h0
   ·have := Nat.mul_le_mul_left (65536 ^ i) (show 1 ≤ c + val (b.drop i) from by omega)
    omega
  rw [this] at hs
  simp at hs
  simp [hs]
 | succ m ih =>
  intro k x c i hx hl hc hi hk hs
  obtain ⟨k, rfl⟩ : ∃ k', k = k' + 1 := ⟨k - 1, by omega⟩
  obtain ⟨d, hd1, hd2⟩ := ha.nat i
  obtain ⟨e, he1, he2⟩ := hb.nat i
  have va := val_drop a i
  have vb := val_drop b i
  rw [hd1, Int.toNat_natCast] at va
  rw [he1, Int.toNat_natCast] at vb
  rw [r8_Minus.l0, if_pos (by omega), if_pos (by omega), digit_f, rd_nat, hd1, he1]
  simp only [Option.bind_some]
  rw [wr (n := (d : Int) - e) (by omega) (by omega), wr (n := (d : Int) - e - c) (by omega) (by omega), wr (n := (i : Int) + 1) (by omega) (by omega), bit_f]
  simp only [Option.bind_some]
  rw [if_pos (by omega)]
  by_cases hlt : (d : Int) - e - c < 0
  ·rw [decide_eq_true hlt, if_pos rfl, wr (n := 65536 * 1) (by decide) (by decide), wr (by omega) (by omega), show (d : Int) - e - c + 65536 * 1 = ((d + 65536 - e - c : Nat) : Int) from by omega]
   refine ih k _ 1 (i + 1) (hx.push (by omega)) (by simp [hl]) (by decide) (by omega) (by omega) ?_
   rw [val_push, hl, Nat.pow_succ, Nat.mul_assoc, Nat.mul_assoc]
   rw [va, vb, ← Nat.add_assoc] at hs
   obtain ⟨t, ht⟩ : ∃ t, d + 65536 - e - c = t := ⟨_, rfl⟩
   rw [ht]
   have h1 : d + 65536 = t + (c + e) := by omega
   have h2 : 65536 ^ i * (d + 65536) = 65536 ^ i * (t + (c + e)) := by rw [h1]
   simp only [Nat.mul_add, Nat.mul_one] at hs h2 ⊢
   omega
  ·rw [decide_eq_false hlt, if_neg (by decide), wr (n := 65536 * 0) (by decide) (by decide), wr (by omega) (by omega), show (d : Int) - e - c + 65536 * 0 = ((d - e - c : Nat) : Int) from by omega]
   refine ih k _ 0 (i + 1) (hx.push (by omega)) (by simp [hl]) (by decide) (by omega) (by omega) ?_
   rw [val_push, hl, Nat.pow_succ, Nat.mul_assoc, Nat.mul_assoc]
   rw [va, vb, ← Nat.add_assoc] at hs
   obtain ⟨t, ht⟩ : ∃ t, d - e - c = t := ⟨_, rfl⟩
   rw [ht]
   have h1 : d = t + (c + e) := by omega
   have h2 : 65536 ^ i * d = 65536 ^ i * (t + (c + e)) := by rw [← h1]
   simp only [Nat.mul_add, Nat.mul_one, Nat.mul_zero, Nat.zero_add, Nat.add_zero] at hs h2 ⊢
   omega
theorem minus_ev (a b : Nat) (la : (digs a).length ≤ Lim) (h : b ≤ a) : Ev (fun k => r8_Minus.f k (digs a) (digs b)) (digs (a - b)) := by
 refine ⟨8 * Lim, fun k hk => ?_⟩
 show r8_Minus.f k (digs a) (digs b) = _
 unfold r8_Minus.f
 have e := minus_l0 (digs a) (digs b) (dig_digs a) (dig_digs b) la (a - b) (digs a).length k [] 0 0 (fun _ h => by cases h) rfl (by decide) (by omega) (by unfold Lim at *; omega)
  (by simp [val, val_digs]; omega)
 exact e
theorem length_l0 (a : Nat) (h0 : a ≠ 0) (la : (digs a).length ≤ Lim) : ∀ m n k, n + m = 17 → m + 70 ≤ k → 2 ^ (16 * ((digs a).length - 1) + n) ≤ 2 * a → r8_Length.l0 k (digs a) (n : Int) = some ((a.log2 + 1 : Nat) : Int) := by
 unfold Lim at *
 have hp : 0 < (digs a).length := by rw [digs_pos h0]; simp
 obtain ⟨j, hj⟩ : ∃ j, (digs a).length = j + 1 := ⟨_, (Nat.sub_add_cancel hp).symm⟩
 have hs := val_split (digs a) j (by omega)
 rw [val_digs, val_drop (digs a) j, val_drop_nil (i := j + 1) (by omega), Nat.mul_zero, Nat.add_zero] at hs
 obtain ⟨d, hd1, hd2⟩ := (dig_digs a).nat j
 have hlt := val_lt ((dig_digs a).take j)
 rw [List.length_take, Nat.min_eq_left (by omega), show (65536 : Nat) = 2 ^ 16 from rfl, ← Nat.pow_mul] at hlt
 rw [hd1, Int.toNat_natCast, show 65536 ^ j = 2 ^ (16 * j) from by rw [show (65536 : Nat) = 2 ^ 16 from rfl, ← Nat.pow_mul]] at hs
 intro m
 induction m with
 | zero =>
  intro n k hn hk hle
  exfalso
  rw [hj, Nat.add_sub_cancel, Nat.pow_add, show n = 17 from by omega] at hle
  have : 2 ^ (16 * j) * d ≤ 2 ^ (16 * j) * 65535 := Nat.mul_le_mul_left _ (by omega)
  omega
 | succ m ih =>
  intro n k hn hk hle
  obtain ⟨k, rfl⟩ : ∃ k', k = k' + 1 := ⟨k - 1, by omega⟩
  have hpw : bs_Power.f k (n : Int) = some ((2 ^ n : Nat) : Int) := power_l0 n (by omega) n 0 k (by omega) (by omega)
  rw [r8_Length.l0, hj, wr (n := ((j + 1 : Nat) : Int) - 1) (by omega) (by omega), show ((j + 1 : Nat) : Int) - 1 = (j : Int) from by omega, if_pos (by omega), if_pos (by omega), hpw, rd_nat, hd1]
  simp only [Option.bind_some]
  rw [hj, Nat.add_sub_cancel, Nat.pow_add] at hle
  by_cases hge : 2 ^ n ≤ d
  ·rw [if_pos (by omega), wr (by omega) (by omega)]
   refine ih (n + 1) k (by omega) (by omega) ?_
   rw [hj, Nat.add_sub_cancel, ← Nat.add_assoc, Nat.pow_succ, Nat.pow_add, Nat.mul_comm]
   refine Nat.mul_le_mul_left _ ?_
   have := Nat.mul_le_mul_left (2 ^ (16 * j)) hge
   omega
  ·rw [if_neg (by omega), wr (n := 16 * (j : Int)) (by omega) (by omega), wr (by omega) (by omega)]
   congr 1
   have hn0 : n ≠ 0 := by
    rintro rfl
    have : d = 0 := by simpa using hge
    subst this
    simp at hs
    have := digs_low h0
    rw [hj, Nat.add_sub_cancel, show (65536 : Nat) = 2 ^ 16 from rfl, ← Nat.pow_mul] at this
    omega
   obtain ⟨n, rfl⟩ : ∃ q, n = q + 1 := ⟨n - 1, by omega⟩
   have hlog : a.log2 = 16 * j + n := by
    refine (Nat.log2_eq_iff h0).2 ⟨?_, ?_⟩
    ·rw [Nat.pow_add]
     rw [Nat.pow_succ, ← Nat.mul_assoc] at hle
     omega
    ·rw [show 16 * j + n + 1 = 16 * j + (n + 1) from by omega, Nat.pow_add]
     have := Nat.mul_le_mul_left (2 ^ (16 * j)) (show d + 1 ≤ 2 ^ (n + 1) from by omega)
     rw [Nat.mul_add] at this
     omega
   rw [hlog]
   omega
def bits (a : Nat) : Nat := if a = 0 then 0 else a.log2 + 1
theorem length_ev (a : Nat) (la : (digs a).length ≤ Lim) : Ev (fun k => r8_Length.f k (digs a)) (bits a : Int) := by
 refine ⟨100, fun k hk => ?_⟩
 show r8_Length.f k (digs a) = _
 unfold r8_Length.f bits
 by_cases h0 : a = 0
 ·subst h0; simp [digs_zero]
 ·have := (not_congr digs_nil).2 h0
  rw [if_neg (by omega), if_neg h0]
  refine length_l0 a h0 la 17 0 k rfl (by omega) ?_
  have := digs_low h0
  rw [show (65536 : Nat) = 2 ^ 16 from rfl, ← Nat.pow_mul] at this
  rw [Nat.add_zero]
  omega
end Go.Proofs.YtmoimcblmmcffaaGreat.N

namespace Go.Proofs.YtmoimcblmmcffaaGreat.N
open Go.RowKit Go.Proofs.YtmoimcblmmcffaaGreatW.PrintWords Go.Proofs.YtmoimcblmmcffaaGreatW.PrintLast Go.Proofs.YtmoimcblmmcffaaGreatW.PrintMore Go.Proofs.YtmoimcblmmcffaaGreat.PN
set_option linter.unusedSimpArgs false
set_option linter.unusedVariables false
theorem wr_nat {n : Nat} (h : n ≤ 9223372036854775807) : wrap64 (n : Int) = (n : Int) := wr (by omega) (by omega)
theorem wr_add {i q : Nat} (h : i + q ≤ 9223372036854775807) : wrap64 ((i : Int) + (q : Int)) = ((i + q : Nat) : Int) := wr_nat h
theorem wr_succ {q : Nat} (h : q + 1 ≤ 9223372036854775807) : wrap64 ((q : Int) + 1) = ((q + 1 : Nat) : Int) := wr_nat h
theorem wr_sub {i q : Nat} (h : i ≤ 9223372036854775807) (h2 : q ≤ i) : wrap64 ((i : Int) - (q : Int)) = ((i - q : Nat) : Int) := by
 rw [show (i : Int) - (q : Int) = ((i - q : Nat) : Int) from by omega]; exact wr_nat (by omega)
theorem wr_pred {q : Nat} (h : q ≤ 9223372036854775807) : wrap64 ((q : Int) - 1) = (q : Int) - 1 := wr (by omega) (by omega)
theorem tdiv_nat (n : Nat) : Int.tdiv (n : Int) 65536 = ((n / 65536 : Nat) : Int) := rfl
theorem tmod_nat (n : Nat) : Int.tmod (n : Int) 65536 = ((n % 65536 : Nat) : Int) := rfl
theorem mul_nat (c : Nat) : (c : Int) * 65536 = ((c * 65536 : Nat) : Int) := by omega
theorem tdivp (n p : Nat) : Int.tdiv (n : Int) (p : Int) = ((n / p : Nat) : Int) := rfl
theorem tmodp (n p : Nat) : Int.tmod (n : Int) (p : Int) = ((n % p : Nat) : Int) := rfl
theorem bound2 (c d p : Nat) (h : c < p) (h2 : p ≤ 65536) (h3 : d < 65536) : c * 65536 + d ≤ 9223372036854775807 := by omega
theorem bne_nat (c : Nat) : ((c : Int) != 0) = (c != 0) := by rw [Bool.eq_iff_iff]; simp
theorem bne_mul (P d : Nat) (h : P ≠ 0) : (P * d != 0) = (d != 0) := by rw [Bool.eq_iff_iff]; simp [Nat.mul_eq_zero, h]
theorem bne_both (P u v : Nat) (h : P ≠ 0) : (u + P * v != 0) = (u != 0 || v != 0) := by
 rw [Bool.eq_iff_iff]
 by_cases hu : u = 0
 ·subst hu; simp [Nat.mul_eq_zero, h]
 ·simp [hu]
theorem times_step (a b x : List Int) (ha : Dig a) (hb : Dig b) (hx : Dig x) (i q c k : Nat) (la : a.length ≤ Lim) (lb : b.length ≤ Lim) (lx : x.length ≤ 2 * Lim) (hi : i < a.length) (hq : i + q < x.length) (hc : c < 65536) (hr : q < b.length ∨ 0 < c)
  (d e f : Nat) (hd : a.getD i 0 = (d : Int)) (he : b.getD q 0 = (e : Int)) (hf : x.getD (i + q) 0 = (f : Int)) (hd2 : d < 65536) (he2 : e < 65536) (hf2 : f < 65536) :
  r8_Times.l1 (k + 1) a b x (i : Int) (c : Int) (q : Int) = r8_Times.l1 k a b (x.set (i + q) (((f + d * e + c) % 65536 : Nat) : Int)) (i : Int) (((f + d * e + c) / 65536 : Nat) : Int) ((q + 1 : Nat) : Int) := by
 unfold Lim at *
 have hde : d * e ≤ 65535 * 65535 := Nat.mul_le_mul (by omega) (by omega)
 have b1 : i + q ≤ 9223372036854775807 := by omega
 have b2 : d * e ≤ 9223372036854775807 := by omega
 have b3 : f + d * e ≤ 9223372036854775807 := by omega
 have b4 : f + d * e + c ≤ 9223372036854775807 := by omega
 have b5 : (f + d * e + c) / 65536 ≤ 9223372036854775807 := by omega
 have b6 : q + 1 ≤ 9223372036854775807 := by omega
 have hm : (d : Int) * (e : Int) = ((d * e : Nat) : Int) := (Int.natCast_mul d e).symm
 simp only [r8_Times.l1, wr_add b1, rd_nat, digit_f, Option.bind_some, hd, he, hf, hm, wr_nat b2, wr_add b3, wr_add b4, tmod_nat, tdiv_nat, wr_nat b5, wr_succ b6, Int.toNat_natCast]
 by_cases h1 : q < b.length
 ·rw [if_pos (by omega), if_pos (by omega), if_pos (by omega), if_pos (by omega), if_pos (by omega)]
 ·rw [if_neg (by omega), if_pos (by omega), if_pos (by omega), if_pos (by omega), if_pos (by omega), if_pos (by omega)]
theorem times_l1 (a b : List Int) (ha : Dig a) (hb : Dig b) (i : Nat) (la : a.length ≤ Lim) (lb : b.length ≤ Lim) (hi : i < a.length) (V K : Nat) (R : List Int) (hV : V < 65536 ^ (a.length + b.length))
  (hout : ∀ k x, K ≤ k → Dig x → x.length = a.length + b.length → val x = V → r8_Times.l0 k a b x ((i + 1 : Nat) : Int) = some R) :
  ∀ m k x (c q : Nat), Dig x → x.length = a.length + b.length → c < 65536 → i + q + m = a.length + b.length → K + m + 1 ≤ k → val x + 65536 ^ (i + q) * (c + (a.getD i 0).toNat * val (b.drop q)) = V →
   r8_Times.l1 k a b x (i : Int) (c : Int) (q : Int) = some R := by
 obtain ⟨d, hd, hd2⟩ := ha.nat i
 rw [hd, Int.toNat_natCast]
 have done : ∀ k x (c q : Nat), Dig x → x.length = a.length + b.length → K + 1 ≤ k → ¬ q < b.length → c = 0 → val x + 65536 ^ (i + q) * (c + d * val (b.drop q)) = V → r8_Times.l1 k a b x (i : Int) (c : Int) (q : Int) = some R := by
  intro k x c q hx hl hk h1 h2 hs
  obtain ⟨k, rfl⟩ : ∃ k', k = k' + 1 := ⟨k - 1, by omega⟩
  subst h2
  rw [val_drop_nil (by omega)] at hs
  simp at hs
  have b1 : i + 1 ≤ 9223372036854775807 := by unfold Lim at *; omega
  rw [r8_Times.l1, if_neg (by omega), if_neg (by omega), wr_succ b1]
  exact hout k x (by omega) hx hl hs
 intro m
 induction m with
 | zero =>
  intro k x c q hx hl hc hm hk hs
  refine done k x c q hx hl (by omega) (by omega) ?_ hs
  by_cases h0 : c = 0
  ·exact h0
  ·exfalso
   have := Nat.mul_le_mul_left (65536 ^ (i + q)) (show 1 ≤ c + d * val (b.drop q) from by omega)
   rw [show i + q = a.length + b.length from by omega] at this hs
   omega
 | succ m ih =>
  intro k x c q hx hl hc hm hk hs
  by_cases hr : q < b.length ∨ 0 < c
  ·obtain ⟨k, rfl⟩ : ∃ k', k = k' + 1 := ⟨k - 1, by omega⟩
   obtain ⟨e, he, he2⟩ := hb.nat q
   obtain ⟨f, hf, hf2⟩ := hx.nat (i + q)
   rw [times_step a b x ha hb hx i q c k la lb (by unfold Lim at *; omega) hi (by omega) hc hr d e f hd he hf hd2 he2 hf2]
   have hde : d * e ≤ 65535 * 65535 := Nat.mul_le_mul (by omega) (by omega)
   refine ih k _ _ (q + 1) (hx.set _ (by omega) (by omega)) (by simp [hl]) (by omega) (by omega) (by omega) ?_
   have h1 := val_set x (i + q) (((f + d * e + c) % 65536 : Nat) : Int) (by omega)
   rw [hf, Int.toNat_natCast, Int.toNat_natCast] at h1
   have h2 := val_drop b q
   rw [he, Int.toNat_natCast] at h2
   rw [h2] at hs
   rw [← hs]
   rw [show i + (q + 1) = (i + q) + 1 from by omega, Nat.pow_succ, Nat.mul_assoc (65536 ^ (i + q))]
   generalize 65536 ^ (i + q) = P at *
   generalize val (x.set (i + q) (((f + d * e + c) % 65536 : Nat) : Int)) = Y at *
   generalize val (b.drop (q + 1)) = B at *
   have h3 : (f + d * e + c) = (f + d * e + c) % 65536 + 65536 * ((f + d * e + c) / 65536) := (Nat.mod_add_div _ _).symm
   have h4 := congrArg (P * ·) h3
   simp only [Nat.mul_add] at h4 hs h1 ⊢
   rw [show d * (65536 * B) = 65536 * (d * B) from by rw [Nat.mul_left_comm]] at *
   omega
  ·exact done k x c q hx hl (by omega) (by omega) (by omega) hs
theorem times_l0 (a b : List Int) (ha : Dig a) (hb : Dig b) (la : a.length ≤ Lim) (lb : b.length ≤ Lim) (S : Nat) (hS : S < 65536 ^ (a.length + b.length)) :
  ∀ r k x (i : Nat), i + r = a.length → (r + 1) * (a.length + b.length + 3) ≤ k → Dig x → x.length = a.length + b.length → val x + 65536 ^ i * (val (a.drop i) * val b) = S →
   r8_Times.l0 k a b x (i : Int) = some (digs S) := by
 intro r
 induction r with
 | zero =>
  intro k x i hi hk hx hl hs
  obtain ⟨k, rfl⟩ : ∃ k', k = k' + 1 := ⟨k - 1, by omega⟩
  rw [r8_Times.l0, if_neg (by omega), trim_k hx (by omega) (by unfold Lim at *; omega)]
  rw [val_drop_nil (by omega)] at hs
  simp at hs
  simp [hs]
 | succ r ih =>
  intro k x i hi hk hx hl hs
  rw [Nat.add_mul] at hk
  obtain ⟨k, rfl⟩ : ∃ k', k = k' + 1 := ⟨k - 1, by omega⟩
  rw [r8_Times.l0, if_pos (by omega)]
  have h2 := val_drop a i
  have e1 : val (a.drop i) * val b = (a.getD i 0).toNat * val b + 65536 * (val (a.drop (i + 1)) * val b) := by rw [h2, Nat.add_mul, Nat.mul_assoc]
  rw [e1, Nat.mul_add, ← Nat.add_assoc] at hs
  refine times_l1 a b ha hb i la lb (by omega) (val x + 65536 ^ i * ((a.getD i 0).toNat * val b)) ((r + 1) * (a.length + b.length + 3)) _ (by omega) ?_ (a.length + b.length - i) k x 0 0 hx hl (by decide) (by omega) (by omega) ?_
  ·intro k y hk2 hy hly hv
   refine ih k y (i + 1) (by omega) hk2 hy hly ?_
   rw [hv, ← hs, Nat.pow_succ, Nat.mul_assoc (65536 ^ i) 65536]
  ·simp
theorem times_ev (a b : Nat) (la : (digs a).length ≤ Lim) (lb : (digs b).length ≤ Lim) : Ev (fun k => r8_Times.f k (digs a) (digs b)) (digs (a * b)) := by
 refine ⟨((digs a).length + 1) * ((digs a).length + (digs b).length + 3), fun k hk => ?_⟩
 show r8_Times.f k (digs a) (digs b) = _
 unfold r8_Times.f
 have b1 : (digs a).length + (digs b).length ≤ 9223372036854775807 := by unfold Lim at *; omega
 rw [wr_add b1, if_pos (by omega), if_pos (by unfold Lim at *; simp; omega), Int.toNat_natCast]
 refine times_l0 (digs a) (digs b) (dig_digs a) (dig_digs b) la lb (a * b) ?_ (digs a).length k _ 0 (by omega) hk (dig_zeros _) (by simp) ?_
 ·rw [Nat.pow_add]
  have h1 := val_lt (dig_digs a)
  have h2 := val_lt (dig_digs b)
  rw [val_digs] at h1 h2
  exact Nat.mul_lt_mul'' h1 h2
 ·simp [val_zeros, val_digs]
theorem digs_single {n : Nat} (h0 : n ≠ 0) (h : n < 65536) : digs n = [(n : Int)] := by
 rw [digs_pos h0, Nat.mod_eq_of_lt h, Nat.div_eq_of_lt h, digs_zero]
theorem pow16 (s : Nat) : 2 ^ (s % 16) * 65536 ^ (s / 16) = 2 ^ s := by
 rw [show (65536 : Nat) = 2 ^ 16 from rfl, ← Nat.pow_mul, ← Nat.pow_add]
 congr 1
 omega
theorem pow15 (s : Nat) : 2 ^ (s % 16) < 65536 := Nat.lt_of_le_of_lt (Nat.pow_le_pow_right (i := s % 16) (j := 15) (by decide) (by omega)) (by decide)
theorem left_aux (a s : Nat) : (digs (a * 2 ^ (s % 16))).length ≤ (digs a).length + 1 := by
 have hla := val_lt (dig_digs a)
 rw [val_digs] at hla
 refine digs_len ?_
 rw [Nat.pow_succ]
 exact Nat.mul_lt_mul'' hla (pow15 s)
theorem left_dig (s : Nat) : digs (2 ^ (s % 16)) = [((2 ^ (s % 16) : Nat) : Int)] := digs_single (Nat.pos_iff_ne_zero.1 (Nat.two_pow_pos _)) (pow15 s)
theorem left_ev (a s : Nat) (la : (digs a).length ≤ 20000) (hs : s ≤ 100000) : Ev (fun k => r8_Left.f k (digs a) (s : Int)) (digs (a * 2 ^ s)) := by
 have hd := left_dig s
 have hlt := left_aux a s
 have b1 : s / 16 ≤ 9223372036854775807 := by omega
 have e1 : Int.tdiv (s : Int) 16 = ((s / 16 : Nat) : Int) := rfl
 have e2 : Int.tmod (s : Int) 16 = ((s % 16 : Nat) : Int) := rfl
 obtain ⟨K1, h1⟩ := power_ev (s % 16) (by omega)
 obtain ⟨K2, h2⟩ := times_ev a (2 ^ (s % 16)) (by unfold Lim; omega) (by rw [hd]; unfold Lim; simp)
 have hz : ((List.replicate (s / 16) (0 : Int)) ++ digs (a * 2 ^ (s % 16))).length ≤ 40000 := by simp; omega
 refine ⟨max (max K1 K2) 1000000, fun k hk => ?_⟩
 have h1' : bs_Power.f k ((s % 16 : Nat) : Int) = _ := h1 k (by omega)
 have h2' : r8_Times.f k (digs a) (digs (2 ^ (s % 16))) = _ := h2 k (by omega)
 rw [hd] at h2'
 have h3 : r8_trim.f k ((List.replicate (s / 16) (0 : Int)) ++ digs (a * 2 ^ (s % 16))) = some (digs (a * 2 ^ s)) := by
  rw [trim_k ((dig_zeros _).append (dig_digs _)) (by omega) (by omega), val_append, val_zeros, val_digs, List.length_replicate, Nat.zero_add, Nat.mul_comm, Nat.mul_assoc, pow16]
 have h4 : (List.replicate (s / 16) (0 : Int)).length + (digs (a * 2 ^ (s % 16))).length < 17592186044416 := by
  rw [List.length_append] at hz
  omega
 show r8_Left.f k (digs a) (s : Int) = _
 unfold r8_Left.f
 rw [e1, e2, wr_nat b1, if_pos (by omega), if_pos (by omega)]
 rw [Option.bind_some, h1', Option.bind_some, h2', Option.bind_some, Int.toNat_natCast, if_pos h4, h3, Option.bind_some]
theorem right_l1 (a : List Int) (ha : Dig a) (la : a.length ≤ Lim) (n : Nat) (hn : n ≤ a.length) (rest : Bool) (p : Nat) (hp : 0 < p) (hp2 : p ≤ 65536) :
  ∀ j k x (c : Nat), j + n ≤ a.length → Dig x → x.length = a.length - n → c < p → (∀ q, q < j → x.getD q 0 = 0) → 65536 ^ j * val (a.drop (n + j)) = val x * p + 65536 ^ j * c → j + a.length + 3 ≤ k →
   r8_Right.l1 k a (n : Int) rest x (c : Int) (p : Int) (((n + j : Nat) : Int) - 1) = some (digs (val (a.drop n) / p), rest || val (a.drop n) % p != 0) := by
 unfold Lim at *
 intro j
 induction j with
 | zero =>
  intro k x c hj hx hl hc hz hs hk
  obtain ⟨k, rfl⟩ : ∃ k', k = k' + 1 := ⟨k - 1, by omega⟩
  rw [r8_Right.l1, if_neg (by omega), trim_k hx (by omega) (by omega)]
  simp only [Nat.pow_zero, Nat.one_mul, Nat.add_zero] at hs
  have h1 : val (a.drop n) / p = val x := by
   rw [hs, Nat.mul_comm, Nat.mul_add_div hp, Nat.div_eq_of_lt hc, Nat.add_zero]
  have h2 : val (a.drop n) % p = c := by
   rw [hs, Nat.mul_comm, Nat.mul_add_mod, Nat.mod_eq_of_lt hc]
  rw [h1, h2]
  cases rest <;> simp [bne_nat]
 | succ j ih =>
  intro k x c hj hx hl hc hz hs hk
  obtain ⟨k, rfl⟩ : ∃ k', k = k' + 1 := ⟨k - 1, by omega⟩
  obtain ⟨d, hd, hd2⟩ := ha.nat (n + j)
  have b0 : n + j ≤ 9223372036854775807 := by omega
  have b1 : c * 65536 ≤ 9223372036854775807 := by omega
  have b2 : c * 65536 + d ≤ 9223372036854775807 := bound2 c d p hc hp2 hd2
  have hm : (c : Int) * 65536 = ((c * 65536 : Nat) : Int) := mul_nat c
  have e2 : Int.tdiv ((c * 65536 + d : Nat) : Int) (p : Int) = (((c * 65536 + d) / p : Nat) : Int) := tdivp _ _
  have e3 : Int.tmod ((c * 65536 + d : Nat) : Int) (p : Int) = (((c * 65536 + d) % p : Nat) : Int) := tmodp _ _
  have hq : (c * 65536 + d) / p < 65536 := by
   refine Nat.div_lt_of_lt_mul ?_
   have := Nat.mul_le_mul_right 65536 (show c + 1 ≤ p from hc)
   omega
  rw [show ((n + (j + 1) : Nat) : Int) - 1 = ((n + j : Nat) : Int) from by omega, r8_Right.l1, if_pos (by omega), if_pos (by omega), if_pos (by omega), if_neg (by omega), wr_sub b0 (Nat.le_add_right n j), Nat.add_sub_cancel_left, if_pos (by omega), if_pos (by omega), rd_nat, hd, hm, wr_nat b1, wr_add b2, e2, e3, Int.toNat_natCast, wr_nat (n := (c * 65536 + d) / p) (by omega), wr_pred b0]
  refine ih k _ _ (by omega) (hx.set _ (Int.natCast_nonneg _) (Int.ofNat_lt.2 hq)) (by simp [hl]) (Nat.mod_lt _ hp) ?_ ?_ (by omega)
  ·intro q hq2
   have := hz q (by omega)
   rw [List.getD_eq_getElem?_getD] at this ⊢
   rw [List.getElem?_set_ne (by omega)]
   exact this
  ·have h1 := val_set x j (((c * 65536 + d) / p : Nat) : Int) (by omega)
   rw [hz j (by omega), Int.toNat_natCast] at h1
   simp only [Int.toNat_zero, Nat.mul_zero, Nat.add_zero] at h1
   rw [h1, val_drop a (n + j), hd, Int.toNat_natCast]
   rw [Nat.pow_succ, Nat.mul_assoc, Nat.mul_assoc, ← Nat.add_assoc] at hs
   have h3 : c * 65536 + d = p * ((c * 65536 + d) / p) + (c * 65536 + d) % p := (Nat.div_add_mod _ _).symm
   have h4 := congrArg (65536 ^ j * ·) h3
   rw [show n + j + 1 = n + (j + 1) from by omega] at *
   generalize val (a.drop (n + (j + 1))) = B at *
   generalize (c * 65536 + d) / p = q at *
   generalize (c * 65536 + d) % p = r at *
   generalize 65536 ^ j = P at *
   simp only [Nat.mul_add, Nat.add_mul] at h4 hs ⊢
   rw [show P * (c * 65536) = P * (65536 * c) from by rw [Nat.mul_comm c]] at h4
   rw [show P * q * p = P * (p * q) from by rw [Nat.mul_assoc, Nat.mul_comm q]]
   omega
theorem right_l0 (a : List Int) (ha : Dig a) (la : a.length ≤ Lim) (n : Nat) (hn : n ≤ a.length) (s : Nat) :
  ∀ m k (rest : Bool) (j : Nat), j + m = n → m + 2 * a.length + 40 ≤ k → rest = (val (a.take j) != 0) →
   r8_Right.l0 k a (s : Int) (n : Int) rest (j : Int) = some (digs (val (a.drop n) / 2 ^ (s % 16)), (val (a.take n) != 0) || val (a.drop n) % 2 ^ (s % 16) != 0) := by
 intro m
 induction m with
 | zero =>
  intro k rest j hj hk hr
  obtain ⟨k, rfl⟩ : ∃ k', k = k' + 1 := ⟨k - 1, by omega⟩
  have b1 : a.length ≤ 9223372036854775807 := by unfold Lim at *; omega
  have e2 : Int.tmod (s : Int) 16 = ((s % 16 : Nat) : Int) := rfl
  have hpw : bs_Power.f k ((s % 16 : Nat) : Int) = some ((2 ^ (s % 16) : Nat) : Int) := power_l0 (s % 16) (by omega) _ 0 k (Nat.add_zero _) (by omega)
  have hp : 2 ^ (s % 16) ≤ 2 ^ 15 := Nat.pow_le_pow_right (by decide) (by omega)
  rw [r8_Right.l0, if_neg (by omega), wr_sub b1 hn, if_pos (by omega), if_pos (by unfold Lim at *; omega), e2, hpw]
  simp only [Option.bind_some, Int.toNat_natCast]
  have := right_l1 a ha la n hn rest (2 ^ (s % 16)) (Nat.two_pow_pos _) (by omega) (a.length - n) k (List.replicate (a.length - n) 0) 0 (by omega) (dig_zeros _) (by simp) (Nat.two_pow_pos _) (fun q _ => by
   rw [List.getD_eq_getElem?_getD]
   by_cases h : q < a.length - n
   ·rw [List.getElem?_replicate, if_pos h]; rfl
   ·rw [List.getElem?_replicate, if_neg h]; rfl) (by rw [val_drop_nil (by omega), val_zeros]; simp) (by omega)
  rw [show n + (a.length - n) = a.length from by omega] at this
  rw [wr_pred b1]
  rw [hr, show j = n from by omega] at *
  exact this
 | succ m ih =>
  intro k rest j hj hk hr
  obtain ⟨k, rfl⟩ : ∃ k', k = k' + 1 := ⟨k - 1, by omega⟩
  have b1 : j + 1 ≤ 9223372036854775807 := by unfold Lim at *; omega
  rw [r8_Right.l0, if_pos (by omega), wr_succ b1]
  have ht := val_take_succ a j (by omega)
  obtain ⟨d, hd, hd2⟩ := ha.nat j
  rw [hd, Int.toNat_natCast] at ht
  have hP : 0 < 65536 ^ j := Nat.pow_pos (by decide)
  cases rest with
  | true =>
   rw [if_pos rfl]
   refine ih k true (j + 1) (by omega) (by omega) ?_
   have h0 : val (a.take j) ≠ 0 := by simpa using hr.symm
   symm
   simp [ht]
   omega
  | false =>
   rw [if_neg (by decide), if_pos (by omega), if_pos (by omega), rd_nat, hd]
   refine ih k _ (j + 1) (by omega) (by omega) ?_
   have h0 : val (a.take j) = 0 := by simpa using hr.symm
   rw [ht, h0, Nat.zero_add]
   rw [bne_nat, bne_mul _ _ (Nat.pos_iff_ne_zero.1 hP)]
theorem right_ev (a s : Nat) (la : (digs a).length ≤ Lim) (hs : s ≤ 1000000) : Ev (fun k => r8_Right.f k (digs a) (s : Int)) (digs (a / 2 ^ s), a % 2 ^ s != 0) := by
 have b1 : s / 16 ≤ 9223372036854775807 := by omega
 have e1 : Int.tdiv (s : Int) 16 = ((s / 16 : Nat) : Int) := rfl
 refine ⟨3 * (digs a).length + 50, fun k hk => ?_⟩
 show r8_Right.f k (digs a) (s : Int) = _
 unfold r8_Right.f
 rw [e1, wr_nat b1, mn_nat]
 have h := right_l0 (digs a) (dig_digs a) la (min (s / 16) (digs a).length) (Nat.min_le_right _ _) s (min (s / 16) (digs a).length) k false 0 (by omega) (by omega) (by simp [val])
 refine h.trans ?_
 have hsp := val_split (digs a) (min (s / 16) (digs a).length) (Nat.min_le_right _ _)
 have hlt := val_lt ((dig_digs a).take (min (s / 16) (digs a).length))
 rw [List.length_take, Nat.min_eq_left (Nat.min_le_right _ _)] at hlt
 rw [val_digs] at hsp
 have hpw := pow16 s
 by_cases hc : s / 16 ≤ (digs a).length
 ·rw [Nat.min_eq_left hc] at *
  have hP : 0 < 65536 ^ (s / 16) := Nat.pow_pos (by decide)
  have hdiv : val ((digs a).drop (s / 16)) = a / 65536 ^ (s / 16) := by
   conv => rhs; rw [hsp, Nat.add_comm, Nat.mul_add_div hP, Nat.div_eq_of_lt hlt, Nat.add_zero]
  have hmod : val ((digs a).take (s / 16)) = a % 65536 ^ (s / 16) := by
   conv => rhs; rw [hsp, Nat.add_comm, Nat.mul_add_mod, Nat.mod_eq_of_lt hlt]
  have h1 : a / 2 ^ s = val ((digs a).drop (s / 16)) / 2 ^ (s % 16) := by
   rw [hdiv, Nat.div_div_eq_div_mul, ← hpw, Nat.mul_comm]
  have h2 : a % 2 ^ s = val ((digs a).take (s / 16)) + 65536 ^ (s / 16) * (val ((digs a).drop (s / 16)) % 2 ^ (s % 16)) := by
   rw [hdiv, hmod, ← hpw, Nat.mul_comm (2 ^ (s % 16)), Nat.mod_mul]
  rw [h1, h2]
  rw [bne_both _ _ _ (Nat.pos_iff_ne_zero.1 hP)]
 ·rw [Nat.min_eq_right (by omega)] at *
  rw [val_drop_nil (Nat.le_refl _), List.take_length, val_digs]
  rw [List.take_length, val_digs] at hlt
  have hle : 65536 ^ (digs a).length ≤ 2 ^ s := by
   rw [← hpw]
   have h1 : 65536 ^ (digs a).length ≤ 65536 ^ (s / 16) := Nat.pow_le_pow_right (by decide) (by omega)
   have h2 : 1 * 65536 ^ (s / 16) ≤ 2 ^ (s % 16) * 65536 ^ (s / 16) := Nat.mul_le_mul_right _ (Nat.two_pow_pos _)
   omega
  rw [Nat.div_eq_of_lt (by omega : a < 2 ^ s), Nat.mod_eq_of_lt (by omega : a < 2 ^ s)]
  simp
end Go.Proofs.YtmoimcblmmcffaaGreat.N

namespace Go.Proofs.YtmoimcblmmcffaaGreat.N
open Go.RowKit Go.Proofs.YtmoimcblmmcffaaGreatW.PrintWords Go.Proofs.YtmoimcblmmcffaaGreatW.PrintLast Go.Proofs.YtmoimcblmmcffaaGreatW.PrintMore Go.Proofs.YtmoimcblmmcffaaGreat.PN
set_option linter.unusedSimpArgs false
set_option linter.unusedVariables false
theorem log_lt (a : Nat) : a < 2 ^ bits a := by
 unfold bits
 by_cases h : a = 0
 ·subst h; simp
 ·rw [if_neg h]
  exact Nat.lt_log2_self
theorem bits_le {a n : Nat} (h : a < 2 ^ n) : bits a ≤ n := by
 unfold bits
 by_cases h0 : a = 0
 ·rw [if_pos h0]; omega
 ·rw [if_neg h0]
  exact (Nat.log2_lt h0).2 h
theorem bits_len (a : Nat) : bits a ≤ 16 * (digs a).length := by
 refine bits_le ?_
 have := val_lt (dig_digs a)
 rw [val_digs, show (65536 : Nat) = 2 ^ 16 from rfl, ← Nat.pow_mul] at this
 exact this
theorem len_bits {a n : Nat} (h : a < 2 ^ n) : (digs a).length ≤ n / 16 + 1 := by
 refine digs_len (Nat.lt_of_lt_of_le h ?_)
 rw [show (65536 : Nat) = 2 ^ 16 from rfl, ← Nat.pow_mul]
 exact Nat.pow_le_pow_right (by decide) (by omega)
end Go.Proofs.YtmoimcblmmcffaaGreat.N

namespace Go.Proofs.YtmoimcblmmcffaaGreat.B
open Go.RowKit
set_option linter.unusedSimpArgs false
set_option linter.unusedVariables false
def cellOf (w : World) (g i : Nat) : Value := (w.cell? ⟨g, i, none⟩).getD undef
abbrev Own (w : World) (g k : Nat) : Prop := (∀ i, i < k → w.cell? ⟨g, i, none⟩ = some (cellOf w g i)) ∧ (∀ i, w.frozen? ⟨g, i, none⟩ = false) ∧ g < w.heap.size
abbrev ExtN (N : Nat) (w0 W w : World) : Prop := (∀ b o, b < N → w.cell? ⟨b, o, none⟩ = W.cell? ⟨b, o, none⟩) ∧ N ≤ w.heap.size ∧ Below w0.heap.size w0 w
theorem cellOf_eq {w : World} {g i : Nat} {v : Value} (h : w.cell? ⟨g, i, none⟩ = some v) : w.cell? ⟨g, i, none⟩ = some (cellOf w g i) := by
 unfold cellOf; rw [h]; rfl
theorem ExtN.refl {N : Nat} {w0 W : World} (hN : N ≤ W.heap.size) (h : Below w0.heap.size w0 W) : ExtN N w0 W W := ⟨fun _ _ _ => rfl, hN, h⟩
theorem ExtN.call {N : Nat} {w0 W w1 w2 : World} (h : ExtN N w0 W w1) (hb : Below w1.heap.size w1 w2) : ExtN N w0 W w2 :=
 ⟨fun b o hlt => ((bcell hb).1 b o (Nat.lt_of_lt_of_le hlt h.2.1)).trans (h.1 b o hlt), Nat.le_trans h.2.1 hb.size, h.2.2.trans (hb.mono h.2.2.size)⟩
theorem ExtN.drew {N : Nat} {w0 W w1 : World} (h : ExtN N w0 W w1) : ExtN N w0 W w1.drew := h.call (Below.refl _ _).drew
theorem ExtN.alloc {N : Nat} {w0 W w1 : World} (h : ExtN N w0 W w1) (o : Obj) : ExtN N w0 W (w1.alloc o) := h.call (below_alloc0 (Below.refl _ _) o)
theorem ExtN.set {N : Nat} {w0 W w1 : World} (h : ExtN N w0 W w1) {p : Addr} (hp : N ≤ p.block) (hw : w0.heap.size ≤ p.block) (v : Value) : ExtN N w0 W (w1.setCell p v) := by
 refine ⟨fun b o hlt => ?_, by simpa [World.setCell] using h.2.1, h.2.2.setCell hw v⟩
 have hne : p ≠ ⟨b, o, none⟩ := by
  intro he
  rw [he] at hp
  exact absurd hlt (Nat.not_lt.2 hp)
 exact (World.cell?_setCell_other w1 p ⟨b, o, none⟩ v hne).trans (h.1 b o hlt)
theorem Own.call {w w1 : World} {g k : Nat} (h : Own w g k) (hb : Below w.heap.size w w1) : Own w1 g k :=
 ⟨fun i hi => cellOf_eq (((bcell hb).1 g i h.2.2).trans (h.1 i hi)), fun i => ((bcell hb).2 g i h.2.2).trans (h.2.1 i), Nat.lt_of_lt_of_le h.2.2 hb.size⟩
theorem Own.drew {w : World} {g k : Nat} (h : Own w g k) : Own w.drew g k := h.call (Below.refl _ _).drew
theorem Own.alloc {w : World} {g k : Nat} (h : Own w g k) (o : Obj) : Own (w.alloc o) g k := h.call (below_alloc0 (Below.refl _ _) o)
theorem Own.set {w : World} {g k : Nat} (h : Own w g k) (p : Addr) (v : Value) : Own (w.setCell p v) g k := by
 refine ⟨fun i hi => ?_, fun i => ?_, ?_⟩
 ·by_cases he : p = ⟨g, i, none⟩
  ·subst he
   exact cellOf_eq (World.cell?_setCell_same _ _ _ (h.1 i hi))
  ·have := World.cell?_setCell_other w _ _ v he
   exact cellOf_eq (this.trans (h.1 i hi))
 ·rw [← h.2.1 i]; simp
 ·simpa [World.setCell] using h.2.2
theorem cell_put {w : World} {g i : Nat} {v u : Value} (h : (w.setCell ⟨g, i, none⟩ v).cell? ⟨g, i, none⟩ = some u) : u = v := by
 cases h0 : w.cell? ⟨g, i, none⟩ with
 | some x => rw [World.cell?_setCell_same _ _ _ h0] at h; exact (Option.some.inj h).symm
 | none =>
  exfalso
  unfold World.cell? at h h0
  unfold World.setCell at h
  simp only [Array.getElem?_modify] at h
  simp only [if_true] at h
  cases hb : w.heap[g]? with
  | none => rw [hb] at h; simp at h
  | some o =>
   rw [hb] at h h0
   cases o <;> simp at h h0
   rw [Array.getElem?_eq_none (by simpa using h0)] at h
   cases h
theorem cell_put_ne {w : World} {g i j : Nat} {v : Value} (h : i ≠ j) : (w.setCell ⟨g, i, none⟩ v).cell? ⟨g, j, none⟩ = w.cell? ⟨g, j, none⟩ :=
 World.cell?_setCell_other _ _ _ _ (by intro e; injection e with _ e _; exact h e)
theorem Own.read2 {w : World} {g n : Nat} {a b : Value} (h : Own ((w.setCell ⟨g, 0, none⟩ a).setCell ⟨g, 1, none⟩ b) g (n + 2)) :
  ((w.setCell ⟨g, 0, none⟩ a).setCell ⟨g, 1, none⟩ b).cell? ⟨g, 0, none⟩ = some a ∧ ((w.setCell ⟨g, 0, none⟩ a).setCell ⟨g, 1, none⟩ b).cell? ⟨g, 1, none⟩ = some b := by
 have e0 := h.1 0 (by omega)
 have e1 := h.1 1 (by omega)
 refine ⟨?_, ?_⟩
 ·rw [e0]; rw [cell_put_ne (by decide)] at e0; rw [cell_put e0]
 ·rw [e1]; rw [cell_put e1]
theorem Own.read4 {w : World} {g n : Nat} {a b c d : Value} (h : Own ((((w.setCell ⟨g, 0, none⟩ a).setCell ⟨g, 1, none⟩ b).setCell ⟨g, 2, none⟩ c).setCell ⟨g, 3, none⟩ d) g (n + 4)) :
  ((((w.setCell ⟨g, 0, none⟩ a).setCell ⟨g, 1, none⟩ b).setCell ⟨g, 2, none⟩ c).setCell ⟨g, 3, none⟩ d).cell? ⟨g, 0, none⟩ = some a ∧ ((((w.setCell ⟨g, 0, none⟩ a).setCell ⟨g, 1, none⟩ b).setCell ⟨g, 2, none⟩ c).setCell ⟨g, 3, none⟩ d).cell? ⟨g, 1, none⟩ = some b ∧
  ((((w.setCell ⟨g, 0, none⟩ a).setCell ⟨g, 1, none⟩ b).setCell ⟨g, 2, none⟩ c).setCell ⟨g, 3, none⟩ d).cell? ⟨g, 2, none⟩ = some c ∧ ((((w.setCell ⟨g, 0, none⟩ a).setCell ⟨g, 1, none⟩ b).setCell ⟨g, 2, none⟩ c).setCell ⟨g, 3, none⟩ d).cell? ⟨g, 3, none⟩ = some d := by
 have e0 := h.1 0 (by omega)
 have e1 := h.1 1 (by omega)
 have e2 := h.1 2 (by omega)
 have e3 := h.1 3 (by omega)
 refine ⟨?_, ?_, ?_, ?_⟩
 ·rw [e0]; rw [cell_put_ne (by decide), cell_put_ne (by decide), cell_put_ne (by decide)] at e0; rw [cell_put e0]
 ·rw [e1]; rw [cell_put_ne (by decide), cell_put_ne (by decide)] at e1; rw [cell_put e1]
 ·rw [e2]; rw [cell_put_ne (by decide)] at e2; rw [cell_put e2]
 ·rw [e3]; rw [cell_put e3]
theorem own_new (w : World) (cs : Array Value) (t : TypeId) : Own (w.alloc (.cells cs t (0, 0))) w.heap.size cs.size :=
 ⟨fun i hi => cellOf_eq (by rw [cell_of_row _ _ i cs t (0, 0) (heap_alloc_new w _), Array.getElem?_eq_getElem hi]), fun i => by
  unfold World.frozen?
  rw [heap_alloc_new w (.cells cs t (0, 0))]
  simp, by simp⟩
abbrev ExO (N : Nat) (w0 W : World) (g k : Nat) (w : World) : Prop := ExtN N w0 W w ∧ Own w g k
theorem ExO.drew {N g k : Nat} {w0 W w1 : World} (h : ExO N w0 W g k w1) : ExO N w0 W g k w1.drew := ⟨h.1.drew, h.2.drew⟩
theorem ExO.call {N g k : Nat} {w0 W w1 w2 : World} (h : ExO N w0 W g k w1) (hb : Below w1.heap.size w1 w2) : ExO N w0 W g k w2 := ⟨h.1.call hb, h.2.call hb⟩
theorem ExO.alloc {N g k : Nat} {w0 W w1 : World} (h : ExO N w0 W g k w1) (o : Obj) : ExO N w0 W g k (w1.alloc o) := ⟨h.1.alloc o, h.2.alloc o⟩
theorem ExO.set {N g k : Nat} {w0 W w1 : World} (h : ExO N w0 W g k w1) {p : Addr} (hp : N ≤ p.block) (hw : w0.heap.size ≤ p.block) (v : Value) : ExO N w0 W g k (w1.setCell p v) := ⟨h.1.set hp hw v, h.2.set p v⟩
theorem ExO.put {k n : Nat} {w0 W w1 : World} (h : ExO (w0.heap.size + k) w0 W (w0.heap.size + k) n w1) (j : Nat) (v : Value) : ExO (w0.heap.size + k) w0 W (w0.heap.size + k) n (w1.setCell ⟨w0.heap.size + k, j, none⟩ v) :=
 h.set (Nat.le_refl _) (Nat.le_add_right _ _) v
theorem ExO.keep {k n : Nat} {w0 W w1 : World} (h : ExO (w0.heap.size + k) w0 W (w0.heap.size + k) n w1 := by repeat (first | assumption | exact ExO.call (by assumption) (by assumption) | refine ExO.drew ?_ | refine ExO.put ?_ _ _ | refine ExO.alloc ?_ _)) : ExO (w0.heap.size + k) w0 W (w0.heap.size + k) n w1 := h
theorem ExO.end {k n : Nat} {w0 W w1 : World} (h : ExO (w0.heap.size + k) w0 W (w0.heap.size + k) n w1) : Below w0.heap.size w0 w1 := h.1.2.2
theorem hide2own {P : Program} {c : Code} {Q : Exit → Act → World → Prop} {a : Act} {w : World} {cs cs' cs'' : Array Value} {t t' t'' : TypeId} (w0 : World)
  (h : ∀ W, (∀ i, W.cell? ⟨w.heap.size, i, none⟩ = cs[i]?) → (∀ i, W.cell? ⟨w.heap.size + 1, i, none⟩ = cs'[i]?) → Own W (w.heap.size + 2) cs''.size → ExtN (w.heap.size + 2) w0 W W → c.wp P Q a W)
  (hb : Below w0.heap.size w0 w := by exact below_end) : c.wp P Q a (((w.alloc (.cells cs t (0, 0))).alloc (.cells cs' t' (0, 0))).alloc (.cells cs'' t'' (0, 0))) := by
 have e1 : (w.alloc (.cells cs t (0, 0))).heap.size = w.heap.size + 1 := by simp
 have e2 : ((w.alloc (.cells cs t (0, 0))).alloc (.cells cs' t' (0, 0))).heap.size = w.heap.size + 2 := by simp
 refine h _ (fun i => ?_) (fun i => ?_) ?_ ?_
 ·rw [cell_of_row _ _ i cs t (0, 0) ((Below.heap_alloc _ _ _ (by rw [e2]; omega)).trans ((Below.heap_alloc _ _ _ (by rw [e1]; omega)).trans (heap_alloc_new w _)))]
 ·have k := heap_alloc_new (w.alloc (.cells cs t (0, 0))) (.cells cs' t' (0, 0))
  rw [e1] at k
  rw [cell_of_row _ _ i cs' t' (0, 0) ((Below.heap_alloc _ _ _ (by rw [e2]; omega)).trans k)]
 ·have k := own_new ((w.alloc (.cells cs t (0, 0))).alloc (.cells cs' t' (0, 0))) cs'' t''
  rw [e2] at k
  exact k
 ·exact ExtN.refl (by simp) (below_alloc0 (below_alloc0 (below_alloc0 hb _) _) _)
theorem hide1own {P : Program} {c : Code} {Q : Exit → Act → World → Prop} {a : Act} {w : World} {cs cs' : Array Value} {t t' : TypeId} (w0 : World)
  (h : ∀ W, (∀ i, W.cell? ⟨w.heap.size, i, none⟩ = cs[i]?) → Own W (w.heap.size + 1) cs'.size → ExtN (w.heap.size + 1) w0 W W → c.wp P Q a W)
  (hb : Below w0.heap.size w0 w := by exact below_end) : c.wp P Q a ((w.alloc (.cells cs t (0, 0))).alloc (.cells cs' t' (0, 0))) := by
 have e1 : (w.alloc (.cells cs t (0, 0))).heap.size = w.heap.size + 1 := by simp
 refine h _ (fun i => ?_) ?_ ?_
 ·rw [cell_of_row _ _ i cs t (0, 0) ((Below.heap_alloc _ _ _ (by rw [e1]; omega)).trans (heap_alloc_new w _))]
 ·have k := own_new (w.alloc (.cells cs t (0, 0))) cs' t'
  rw [e1] at k
  exact k
 ·exact ExtN.refl (by simp) (below_alloc0 (below_alloc0 hb _) _)
end Go.Proofs.YtmoimcblmmcffaaGreat.B

namespace Go.Proofs.YtmoimcblmmcffaaGreat.NC
open Go.RowKit Go.Proofs.YtmoimcblmmcffaaGreat.B Go.Proofs.YtmoimcblmmcffaaGreat.N
open Go.Proofs.YtmoimcblmmcffaaGreatW.PrintWords Go.Proofs.YtmoimcblmmcffaaGreatW.PrintLast Go.Proofs.YtmoimcblmmcffaaGreatW.PrintMore Go.Proofs.YtmoimcblmmcffaaGreat.PN
set_option linter.unusedSimpArgs false
set_option linter.unusedVariables false
def Big (w : World) (A : Option Addr) (n : Nat) : Prop :=
 (digs n).length ≤ 9223372036854775807 ∧ (A = none ∧ n = 0 ∨ ∃ g, A = some ⟨g, 0, none⟩ ∧ g < w.heap.size ∧ ∀ i d, (digs n)[i]? = some d → w.cell? ⟨g, i, none⟩ = some (.int .i64 d))
theorem Big.of_cells {w w1 : World} {A : Option Addr} {n : Nat} (h : Big w A n) (hc : ∀ b o, b < w.heap.size → w1.cell? ⟨b, o, none⟩ = w.cell? ⟨b, o, none⟩) (hs : w.heap.size ≤ w1.heap.size) : Big w1 A n := by
 refine ⟨h.1, h.2.imp id ?_⟩
 rintro ⟨g, e, hg, hr⟩
 exact ⟨g, e, Nat.lt_of_lt_of_le hg hs, fun i d hd => (hc g i hg).trans (hr i d hd)⟩
theorem Big.below {w w1 : World} {A : Option Addr} {n : Nat} (h : Big w A n) (hb : Below w.heap.size w w1) : Big w1 A n := h.of_cells (bcell hb).1 hb.size
theorem Big.ext {w0 W w1 : World} {A : Option Addr} {n : Nat} (h : Big W A n) (he : Ext w0 W w1) : Big w1 A n := h.of_cells he.1 he.2.2.1
theorem Big.alloc {w : World} {A : Option Addr} {n : Nat} (h : Big w A n) (o : Obj) : Big (w.alloc o) A n := h.below (below_alloc0 (Below.refl _ _) o)
theorem Big.set {w : World} {A : Option Addr} {n : Nat} (h : Big w A n) {p : Addr} (hp : w.cell? p ≠ some undef → ∀ g, A = some ⟨g, 0, none⟩ → p.block ≠ g) (v : Value) (hq : ∀ g, A = some ⟨g, 0, none⟩ → p.block ≠ g) : Big (w.setCell p v) A n := by
 refine ⟨h.1, h.2.imp id ?_⟩
 rintro ⟨g, e, hg, hr⟩
 refine ⟨g, e, by simpa [World.setCell] using hg, fun i d hd => ?_⟩
 have hne : p ≠ ⟨g, i, none⟩ := by
  rintro rfl
  exact hq g e rfl
 exact (World.cell?_setCell_other w p ⟨g, i, none⟩ v hne).trans (hr i d hd)
theorem Big.c {w : World} {A : Option Addr} {n : Nat} (h : Big w A n) : Kd.C (Kd.int .i64) w A (digs n).length (digs n) := by
 refine ⟨rfl, h.1, fun hp => ?_⟩
 rcases h.2 with ⟨_, h0⟩ | ⟨g, e, hg, hr⟩
 ·subst h0; simp [digs_zero] at hp
 ·refine ⟨_, e, fun j p hj => ⟨[.int .i64 p], rfl, rfl, fun i u hu => ?_⟩⟩
  cases i with
  | zero =>
   have := hr j p hj
   have hu' : u = .int .i64 p := by simpa using hu.symm
   subst hu'
   show w.cell? (Addr.add ⟨g, 0, none⟩ (j * 1 + 0)) = _
   rw [← this]
   unfold Addr.add
   by_cases h0 : j = 0
   ·subst h0; rfl
   ·simp [h0]
  | succ i => simp at hu
theorem Big.of_R {e : Nat} {w : World} {base : Nat} {ok : Nat → Prop} {v : Value} {n : Nat} (h : Kd.R (Kd.int .i64) e w base ok v (digs n)) :
  ∃ A c, v = .slice A (digs n).length c ∧ (digs n).length ≤ c ∧ Big w A n := by
 obtain ⟨A, c, rfl, hc, hC⟩ := Kd.R_reads h
 refine ⟨A, c, rfl, hc, hC.2.1, ?_⟩
 obtain ⟨inner, ho⟩ := Kd.R_own h
 rcases ho.2 with ⟨e1, e2⟩ | ⟨g, cap, cur, e1, hb, hh, r⟩
 ·left
  injection e1 with e1
  exact ⟨e1, digs_nil.1 e2⟩
 ·right
  injection e1 with e1
  subst e1
  refine ⟨g, rfl, ?_, fun i d hd => ?_⟩
  ·exact Nat.lt_of_not_le (fun hle => by rw [Array.getElem?_eq_none hle] at hh; cases hh)
  ·have hp : 0 < (digs n).length := by
    cases hl : digs n with
    | nil => rw [hl] at hd; simp at hd
    | cons => simp
   obtain ⟨ad, ead, hr⟩ := hC.2.2 hp
   injection ead with ead
   subst ead
   obtain ⟨cs, _, hk, hcell⟩ := hr i d hd
   have hk' : cs = [.int .i64 d] := hk
   subst hk'
   have := hcell 0 _ rfl
   rw [← this]
   show _ = w.cell? (Addr.add ⟨g, 0, none⟩ (i * 1 + 0))
   unfold Addr.add
   by_cases h0 : i = 0
   ·subst h0; rfl
   ·simp [h0]
theorem Big.of_Rf {e : Nat} {w : World} {base : Nat} {ok : Nat → Prop} {v : Value} {n : Nat} (h : Kd.R (Kd.int .i64) e w base ok v (digs n)) :
  ∃ A c, v = .slice A (digs n).length c ∧ (digs n).length ≤ c ∧ Big w A n ∧ ∀ g, A = some ⟨g, 0, none⟩ → base ≤ g := by
 obtain ⟨A, c, rfl, hc, hB⟩ := Big.of_R h
 refine ⟨A, c, rfl, hc, hB, ?_⟩
 rintro g rfl
 exact Kd.R_base h g rfl
theorem Big.put {w : World} {A : Option Addr} {n : Nat} (h : Big w A n) {p : Addr} (hq : ∀ g, A = some ⟨g, 0, none⟩ → p.block < g) (v : Value) : Big (w.setCell p v) A n :=
 h.set (fun _ g e => Nat.ne_of_lt (hq g e)) v (fun g e => Nat.ne_of_lt (hq g e))
theorem big_lit {w : World} {d : Int} {n t : Nat} (h : digs n = [d]) : Big (w.alloc (.cells #[.int .i64 d] t (0, 0))) (some ⟨w.heap.size, 0, none⟩) n := by
 refine ⟨by rw [h]; simp, .inr ⟨_, rfl, by simp, fun i e he => ?_⟩⟩
 rw [cell_of_row _ _ i #[.int .i64 d] t (0, 0) (heap_alloc_new w _)]
 rw [h] at he
 cases i with
 | zero => simp at he; subst he; rfl
 | succ i => simp at he
def RetBig (n : Nat) (w : World) : Ending → World → Prop := fun e w' => ∃ A c, e = .returned (.slice A (digs n).length c) ∧ (digs n).length ≤ c ∧ Big w' A n ∧ Below w.heap.size w w'
def RetNew (n : Nat) (w : World) : Ending → World → Prop := fun e w' => ∃ A c, e = .returned (.slice A (digs n).length c) ∧ (digs n).length ≤ c ∧ Big w' A n ∧ (∀ g, A = some ⟨g, 0, none⟩ → w.heap.size ≤ g) ∧ Below w.heap.size w w'
theorem drawn_below {w w' : World} (h : Drawn0 w w') : Below w.heap.size w w' := by
 obtain ⟨n, rfl⟩ := h.out
 exact below_drewN (Below.refl _ _) n
theorem plus_c (w : World) {A0 : Option Addr} {c0 n0 : Nat} {A1 : Option Addr} {c1 n1 : Nat}  (h0 : Big w A0 n0) (k0 : (digs n0).length ≤ c0) (h1 : Big w A1 n1) (k1 : (digs n1).length ≤ c1) (l0 : (digs n0).length ≤ Lim) (l1 : (digs n1).length ≤ Lim) :
  Calls Tryz.prog 112 #[.slice A0 (digs n0).length c0, .slice A1 (digs n1).length c1] w (RetBig (n0 + n1) w) := by
 obtain ⟨k, hk⟩ := Ev.some (plus_ev n0 n1 l0 l1)
 refine (r8_Plus.calls k A0 c0 (digs n0) A1 c1 (digs n1)  _ w h0.c k0 h1.c k1 hk).mono ?_
 rintro e w' ⟨v, rfl, hR, hb⟩
 obtain ⟨A, c, rfl, hc, hB⟩ := Big.of_R hR
 exact ⟨A, c, rfl, hc, hB, hb⟩
theorem minus_c (w : World) {A0 : Option Addr} {c0 n0 : Nat} {A1 : Option Addr} {c1 n1 : Nat}  (h0 : Big w A0 n0) (k0 : (digs n0).length ≤ c0) (h1 : Big w A1 n1) (k1 : (digs n1).length ≤ c1) (l0 : (digs n0).length ≤ Lim) (hle : n1 ≤ n0) :
  Calls Tryz.prog 115 #[.slice A0 (digs n0).length c0, .slice A1 (digs n1).length c1] w (RetBig (n0 - n1) w) := by
 obtain ⟨k, hk⟩ := Ev.some (minus_ev n0 n1 l0 hle)
 refine (r8_Minus.calls k A0 c0 (digs n0) A1 c1 (digs n1)  _ w h0.c k0 h1.c k1 hk).mono ?_
 rintro e w' ⟨v, rfl, hR, hb⟩
 obtain ⟨A, c, rfl, hc, hB⟩ := Big.of_R hR
 exact ⟨A, c, rfl, hc, hB, hb⟩
theorem plus_n (w : World) {A0 : Option Addr} {c0 n0 : Nat} {A1 : Option Addr} {c1 n1 : Nat}  (h0 : Big w A0 n0) (k0 : (digs n0).length ≤ c0) (h1 : Big w A1 n1) (k1 : (digs n1).length ≤ c1) (l0 : (digs n0).length ≤ Lim) (l1 : (digs n1).length ≤ Lim) :
  Calls Tryz.prog 112 #[.slice A0 (digs n0).length c0, .slice A1 (digs n1).length c1] w (RetNew (n0 + n1) w) := by
 obtain ⟨k, hk⟩ := Ev.some (plus_ev n0 n1 l0 l1)
 refine (r8_Plus.calls k A0 c0 (digs n0) A1 c1 (digs n1)  _ w h0.c k0 h1.c k1 hk).mono ?_
 rintro e w' ⟨v, rfl, hR, hb⟩
 obtain ⟨A, c, rfl, hc, hB, hf⟩ := Big.of_Rf hR
 exact ⟨A, c, rfl, hc, hB, hf, hb⟩
theorem minus_n (w : World) {A0 : Option Addr} {c0 n0 : Nat} {A1 : Option Addr} {c1 n1 : Nat}  (h0 : Big w A0 n0) (k0 : (digs n0).length ≤ c0) (h1 : Big w A1 n1) (k1 : (digs n1).length ≤ c1) (l0 : (digs n0).length ≤ Lim) (hle : n1 ≤ n0) :
  Calls Tryz.prog 115 #[.slice A0 (digs n0).length c0, .slice A1 (digs n1).length c1] w (RetNew (n0 - n1) w) := by
 obtain ⟨k, hk⟩ := Ev.some (minus_ev n0 n1 l0 hle)
 refine (r8_Minus.calls k A0 c0 (digs n0) A1 c1 (digs n1)  _ w h0.c k0 h1.c k1 hk).mono ?_
 rintro e w' ⟨v, rfl, hR, hb⟩
 obtain ⟨A, c, rfl, hc, hB, hf⟩ := Big.of_Rf hR
 exact ⟨A, c, rfl, hc, hB, hf, hb⟩
theorem times_c (w : World) {A0 : Option Addr} {c0 n0 : Nat} {A1 : Option Addr} {c1 n1 : Nat}  (h0 : Big w A0 n0) (k0 : (digs n0).length ≤ c0) (h1 : Big w A1 n1) (k1 : (digs n1).length ≤ c1) (l0 : (digs n0).length ≤ Lim) (l1 : (digs n1).length ≤ Lim) :
  Calls Tryz.prog 108 #[.slice A0 (digs n0).length c0, .slice A1 (digs n1).length c1] w (RetBig (n0 * n1) w) := by
 obtain ⟨k, hk⟩ := Ev.some (times_ev n0 n1 l0 l1)
 refine (r8_Times.calls k A0 c0 (digs n0) A1 c1 (digs n1)  _ w h0.c k0 h1.c k1 hk).mono ?_
 rintro e w' ⟨v, rfl, hR, hb⟩
 obtain ⟨A, c, rfl, hc, hB⟩ := Big.of_R hR
 exact ⟨A, c, rfl, hc, hB, hb⟩
theorem left_c (w : World) {A0 : Option Addr} {c0 n0 : Nat} {s : Nat} (h0 : Big w A0 n0) (k0 : (digs n0).length ≤ c0) (l0 : (digs n0).length ≤ 20000) (l1 : s ≤ 100000) :
  Calls Tryz.prog 110 #[.slice A0 (digs n0).length c0, .int .i64 (s : Int)] w (RetBig (n0 * 2 ^ s) w) := by
 obtain ⟨k, hk⟩ := Ev.some (left_ev n0 s l0 l1)
 refine (r8_Left.calls k A0 c0 (digs n0) (s : Int) _ w h0.c k0 hk).mono ?_
 rintro e w' ⟨v, rfl, hR, hb⟩
 obtain ⟨A, c, rfl, hc, hB⟩ := Big.of_R hR
 exact ⟨A, c, rfl, hc, hB, hb⟩
theorem nat_c (w : World) {n : Nat} (h : n ≤ 9223372036854775807) : Calls Tryz.prog 75 #[.int .i64 (n : Int)] w (RetBig n w) := by
 obtain ⟨k, hk⟩ := Ev.some (nat_ev n h)
 refine (r8_Nat.calls k (n : Int) _ w hk).mono ?_
 rintro e w' ⟨v, rfl, hR, hb⟩
 obtain ⟨A, c, rfl, hc, hB⟩ := Big.of_R hR
 exact ⟨A, c, rfl, hc, hB, hb⟩
theorem nat_n (w : World) {n : Nat} (h : n ≤ 9223372036854775807) : Calls Tryz.prog 75 #[.int .i64 (n : Int)] w (RetNew n w) := by
 obtain ⟨k, hk⟩ := Ev.some (nat_ev n h)
 refine (r8_Nat.calls k (n : Int) _ w hk).mono ?_
 rintro e w' ⟨v, rfl, hR, hb⟩
 obtain ⟨A, c, rfl, hc, hB, hf⟩ := Big.of_Rf hR
 exact ⟨A, c, rfl, hc, hB, hf, hb⟩
theorem right_c (w : World) {A0 : Option Addr} {c0 n0 : Nat} {s : Nat} (h0 : Big w A0 n0) (k0 : (digs n0).length ≤ c0) (l0 : (digs n0).length ≤ Lim) (l1 : s ≤ 1000000) :
  Calls Tryz.prog 114 #[.slice A0 (digs n0).length c0, .int .i64 (s : Int)] w fun e w' => ∃ A c, e = .returned (.tuple #[.slice A (digs (n0 / 2 ^ s)).length c, .bool (n0 % 2 ^ s != 0)]) ∧ (digs (n0 / 2 ^ s)).length ≤ c ∧ Big w' A (n0 / 2 ^ s) ∧ Below w.heap.size w w' := by
 obtain ⟨k, hk⟩ := Ev.some (right_ev n0 s l0 l1)
 refine (r8_Right.calls k A0 c0 (digs n0) (s : Int) _ _ w h0.c k0 hk).mono ?_
 rintro e w' ⟨v, rfl, hR, hb⟩
 obtain ⟨A, c, rfl, hc, hB⟩ := Big.of_R hR
 exact ⟨A, c, rfl, hc, hB, hb⟩
theorem order_c (w : World) {A0 A1 : Option Addr} {c0 n0 c1 n1 : Nat} (h0 : Big w A0 n0) (k0 : (digs n0).length ≤ c0) (h1 : Big w A1 n1) (k1 : (digs n1).length ≤ c1) (l0 : (digs n0).length ≤ Lim) :
  Calls Tryz.prog 116 #[.slice A0 (digs n0).length c0, .slice A1 (digs n1).length c1] w (Ret (.int .i64 (ordN n0 n1)) w) := by
 obtain ⟨k, hk⟩ := Ev.some (order_ev n0 n1 (by unfold Lim at l0; omega))
 refine (r8_Order.calls k A0 c0 (digs n0) A1 c1 (digs n1) _ w h0.c k0 h1.c k1 hk).mono ?_
 rintro e w' ⟨rfl, hd⟩
 exact ⟨rfl, drawn_below hd⟩
theorem length_c (w : World) {A0 : Option Addr} {c0 n0 : Nat} (h0 : Big w A0 n0) (k0 : (digs n0).length ≤ c0) (l0 : (digs n0).length ≤ Lim) :
  Calls Tryz.prog 113 #[.slice A0 (digs n0).length c0] w (Ret (.int .i64 (N.bits n0 : Int)) w) := by
 obtain ⟨k, hk⟩ := Ev.some (length_ev n0 l0)
 refine (r8_Length.calls k A0 c0 (digs n0) _ w h0.c k0 hk).mono ?_
 rintro e w' ⟨rfl, hd⟩
 exact ⟨rfl, drawn_below hd⟩
theorem int_c (w : World) {A0 : Option Addr} {c0 n0 : Nat} (h0 : Big w A0 n0) (k0 : (digs n0).length ≤ c0) (l0 : n0 ≤ 9223372036854775807) :
  Calls Tryz.prog 118 #[.slice A0 (digs n0).length c0] w (Ret (.int .i64 (n0 : Int)) w) := by
 obtain ⟨k, hk⟩ := Ev.some (int_ev n0 l0)
 refine (r8_Int.calls k A0 c0 (digs n0) _ w h0.c k0 hk).mono ?_
 rintro e w' ⟨rfl, hd⟩
 exact ⟨rfl, drawn_below hd⟩
theorem digit0 (n : Nat) : (digs n).getD 0 0 = ((n % 65536 : Nat) : Int) := by
 by_cases h : n = 0
 ·subst h; simp [digs_zero]
 ·rw [digs_pos h]; rfl
theorem digit_c (w : World) {A0 : Option Addr} {c0 n0 : Nat} (h0 : Big w A0 n0) (k0 : (digs n0).length ≤ c0) :
  Calls Tryz.prog 117 #[.slice A0 (digs n0).length c0, .int .i64 0] w (Ret (.int .i64 ((n0 % 65536 : Nat) : Int)) w) := by
 have hk := digit_f (digs n0) 0
 rw [digit0] at hk
 refine (r8_digit.calls A0 c0 (digs n0) _ _ w h0.c k0 hk).mono ?_
 rintro e w' ⟨rfl, hd⟩
 exact ⟨rfl, drawn_below hd⟩
theorem power_c (w : World) {n : Nat} (h : n ≤ 62) : Calls Tryz.prog 71 #[.int .i64 (n : Int)] w (Ret (.int .i64 ((2 ^ n : Nat) : Int)) w) := by
 obtain ⟨k, hk⟩ := Ev.some (power_ev n h)
 refine (bs_Power.calls k _ _ w hk).mono ?_
 rintro e w' ⟨rfl, hd⟩
 exact ⟨rfl, drawn_below hd⟩
theorem size_c (w : World) (n : Int) (h0 : -9223372036854775807 ≤ n) (h1 : n ≤ 9223372036854775807) : Calls Tryz.prog 76 #[.int .i64 n] w (Ret (.int .i64 (n.natAbs : Int)) w) := by
 refine (bs_Size.calls n _ w (size_f n h0 h1)).mono ?_
 rintro e w' ⟨rfl, hd⟩
 exact ⟨rfl, drawn_below hd⟩
end Go.Proofs.YtmoimcblmmcffaaGreat.NC

namespace Go.Proofs.YtmoimcblmmcffaaGreat.NC
open Go.RowKit Go.Proofs.YtmoimcblmmcffaaGreat.B
set_option linter.unusedSimpArgs false
set_option linter.unusedVariables false
def fmtV : Bool → Value
 | true => .agg #[.int .i64 24, .int .i64 8, .int .i64 (-149), .int .i64 104]
 | false => .agg #[.int .i64 53, .int .i64 11, .int .i64 (-1074), .int .i64 971]
theorem formatOf_c (s : Bool) (w : World) : Calls Tryz.prog 68 #[.int .i64 (tv s)] w (Ret (fmtV s) w) := by
 cases s
 ·show Calls Tryz.prog 68 #[.int .i64 2] w _
  go_enter Tryz.func68, Tryz.ntmps68
  go_wp2
  exact bodyPost_ret (v := fmtV false) (by simp [results, Tryz.results68, go_sem, fmtV]) rfl ⟨rfl, below_end⟩
 ·show Calls Tryz.prog 68 #[.int .i64 1] w _
  go_enter Tryz.func68, Tryz.ntmps68
  go_wp2
  exact bodyPost_ret (v := fmtV true) (by simp [results, Tryz.results68, go_sem, fmtV]) rfl ⟨rfl, below_end⟩
theorem nanR_c (s : Bool) (w : World) : Calls Tryz.prog 67 #[.int .i64 (tv s)] w (Ret (.int .u64 (nanV s)) w) := by
 cases s
 ·show Calls Tryz.prog 67 #[.int .i64 2] w _
  go_enter Tryz.func67, Tryz.ntmps67
  go_wp2
  go_ret
  exact ⟨rfl, below_end⟩
 ·show Calls Tryz.prog 67 #[.int .i64 1] w _
  go_enter Tryz.func67, Tryz.ntmps67
  go_wp2
  go_ret
  exact ⟨rfl, below_end⟩
end Go.Proofs.YtmoimcblmmcffaaGreat.NC

namespace Go.Proofs.YtmoimcblmmcffaaGreat.NC
open Go.RowKit Go.Proofs.YtmoimcblmmcffaaGreat.B
set_option linter.unusedSimpArgs false
set_option linter.unusedVariables false
theorem hide_res {P : Program} {c : Code} {Q : Exit → Act → World → Prop} {a : Act} {w w1 : World} {cs cs' : Array Value} {t t' : TypeId}
  (hb : Below (w.alloc (.cells cs t (0, 0))).heap.size (w.alloc (.cells cs t (0, 0))) w1)
  (h : ∀ W, (∀ i, W.cell? ⟨w1.heap.size, i, none⟩ = cs'[i]?) → w1.heap.size < W.heap.size → Own W w.heap.size cs.size → Ext w W W → c.wp P Q a W) :
  c.wp P Q a (w1.alloc (.cells cs' t' (0, 0))) := by
 have e1 : (w.alloc (.cells cs t (0, 0))).heap.size = w.heap.size + 1 := by simp
 refine h _ (fun i => ?_) (by simp) ?_ ?_
 ·rw [cell_of_row _ _ i cs' t' (0, 0) (heap_alloc_new w1 _)]
 ·exact ((own_new w cs t).call hb).alloc _
 ·refine Ext.refl ?_
  exact below_alloc0 ((below_alloc0 (Below.refl _ _) _).trans (hb.mono (by rw [e1]; omega))) _
theorem Own.ext {w0 W w1 : World} {g k : Nat} (h : Own W g k) (he : Ext w0 W w1) : Own w1 g k :=
 ⟨fun i hi => cellOf_eq ((he.1 g i h.2.2).trans (h.1 i hi)), fun i => (he.2.1 g i h.2.2).trans (h.2.1 i), Nat.lt_of_lt_of_le h.2.2 he.2.2.1⟩
theorem fin4 {w0 W w1 : World} (ho : Own W w0.heap.size 4) (he : Ext w0 W w1) (a b c d : Value) :
  ∃ w', w' = ((((w1.setCell ⟨w0.heap.size, 0, none⟩ a).setCell ⟨w0.heap.size, 1, none⟩ b).setCell ⟨w0.heap.size, 2, none⟩ c).setCell ⟨w0.heap.size, 3, none⟩ d) ∧ w'.cell? ⟨w0.heap.size, 0, none⟩ = some a ∧ w'.cell? ⟨w0.heap.size, 1, none⟩ = some b ∧ w'.cell? ⟨w0.heap.size, 2, none⟩ = some c ∧ w'.cell? ⟨w0.heap.size, 3, none⟩ = some d ∧ Below w0.heap.size w0 w' := by
 have h1 := Own.ext ho he
 have h2 : ExO (w0.heap.size + 0) w0 w1 (w0.heap.size + 0) 4 w1 := ⟨ExtN.refl he.2.2.2.size he.2.2.2, h1⟩
 have h3 := (((h2.put 0 a).put 1 b).put 2 c).put 3 d
 obtain ⟨e0, e1, e2, e3⟩ := Own.read4 (n := 0) h3.2
 exact ⟨_, rfl, e0, e1, e2, e3, h3.end⟩
structure PP where
 kind : Int
 neg : Bool
 sig : Nat
 exp : Int
def PP.v (p : PP) : Value := .agg #[.int .i64 p.kind, .bool p.neg, .int .i64 (p.sig : Int), .int .i64 p.exp]
def lowN : Bool → Nat
 | true => 8388608
 | false => 4503599627370496
def fieldN : Bool → Nat
 | true => 256
 | false => 2048
def leastN : Bool → Int
 | true => -149
 | false => -1074
def partsOf (s : Bool) (f r : Nat) (neg : Bool) : PP :=
 if f + 1 = fieldN s then (if r = 0 then ⟨2, neg, 0, 0⟩ else ⟨3, false, 0, 0⟩)
 else if f = 0 then (if r = 0 then ⟨0, neg, 0, 0⟩ else ⟨1, neg, r, leastN s⟩)
 else ⟨1, neg, r + lowN s, (f : Int) - 1 + leastN s⟩
def partsR (s : Bool) (a : Nat) : PP := partsOf s (a / lowN s % fieldN s) (a % lowN s) (decide (a / lowN s / fieldN s = 1))
theorem kuwrap {n : Nat} (h : n < 18446744073709551616) : IntKind.u64.wrap (n : Int) = (n : Int) := by
 unfold IntKind.wrap
 simp [IntKind.signed, IntKind.bits]
 omega
theorem parts_leaf {s : Bool} {f r : Nat} {neg : Bool} {R : PP} (h : partsOf s f r neg = R) : (f + 1 = fieldN s ∧ r = 0 ∧ R = ⟨2, neg, 0, 0⟩) ∨ (f + 1 = fieldN s ∧ r ≠ 0 ∧ R = ⟨3, false, 0, 0⟩) ∨ (f + 1 ≠ fieldN s ∧ f = 0 ∧ r = 0 ∧ R = ⟨0, neg, 0, 0⟩) ∨ (f + 1 ≠ fieldN s ∧ f = 0 ∧ r ≠ 0 ∧ R = ⟨1, neg, r, leastN s⟩) ∨ (f + 1 ≠ fieldN s ∧ f ≠ 0 ∧ R = ⟨1, neg, r + lowN s, (f : Int) - 1 + leastN s⟩) := by
 subst h
 unfold partsOf
 by_cases h1 : f + 1 = fieldN s
 ·by_cases h2 : r = 0 <;> simp [h1, h2]
 ·by_cases h2 : f = 0
  ·by_cases h3 : r = 0 <;> simp_all
  ·simp [h1, h2]
set_option maxHeartbeats 8000000 in
theorem parts_c (s : Bool) (a : Nat) (w : World) (ha : (a : Int) < topV s) : Calls Tryz.prog 21 #[.int .i64 (tv s), .int .u64 (a : Int)] w (Ret (partsR s a).v w) := by
 have c1 := formatOf_c s
 have c2 := fun w => power_c (n := 8) w (by decide)
 have c3 := fun w => power_c (n := 11) w (by decide)
 obtain ⟨R, hR⟩ : ∃ R, partsR s a = R := ⟨_, rfl⟩
 rw [hR]
 cases s
 ·unfold fmtV at c1
  show Calls Tryz.prog 21 #[.int .i64 2, .int .u64 (a : Int)] w _
  replace c1 : ∀ w, Calls Tryz.prog 68 #[.int .i64 2] w _ := c1
  replace c3 : ∀ w, Calls Tryz.prog 71 #[.int .i64 11] w (Ret (.int .i64 2048) w) := c3
  go_enter Tryz.func21, Tryz.ntmps21
  go_upto_region 2 with (go_at_call 68; refine (c1 _).mono ?_; rintro e w1 ⟨rfl, hb1⟩)
  refine hide_res hb1 (fun W kf hs ho HE => ?_)
  clear hb1 c1
  generalize w1.heap.size = g at *
  go_upto_region 4 with (fail)
  go_region
  go_upto_region 5 with (fail)
  go_region
  go_upto_region 6 with (fail)
  have h1 : IntKind.u64.wrap ((a : Int) / 4503599627370496) = ((a / 4503599627370496 : Nat) : Int) := by
   have : a < 18446744073709551616 := by have : (a : Int) < 18446744073709551616 := ha; omega
   exact kuwrap (n := a / 4503599627370496) (by omega)
  have h2 : wrap64 (((a / 4503599627370496 : Nat) : Int).tmod 2048) = ((a / 4503599627370496 % 2048 : Nat) : Int) := N.wr_nat (n := a / 4503599627370496 % 2048) (by omega)
  have h3 : (a : Int) % 4503599627370496 = ((a % 4503599627370496 : Nat) : Int) := rfl
  have h4 : (((a / 4503599627370496 : Nat) : Int) / 2048 == 1) = decide (a / 4503599627370496 / 2048 = 1) := by
   rw [Bool.eq_iff_iff]; simp; omega
  have hf : a / 4503599627370496 % 2048 < 2048 := Nat.mod_lt _ (by decide)
  have hr : a % 4503599627370496 < 4503599627370496 := Nat.mod_lt _ (by decide)
  rw [h1, h2, h3, h4]
  clear h1 h2 h3 h4 ha
  replace hR : partsOf false (a / 4503599627370496 % 2048) (a % 4503599627370496) (decide (a / 4503599627370496 / 2048 = 1)) = R := hR
  generalize a / 4503599627370496 % 2048 = f at *
  generalize a % 4503599627370496 = r at *
  generalize decide (a / 4503599627370496 / 2048 = 1) = neg at *
  have hL := parts_leaf hR
  clear hR
  simp only [fieldN, lowN, leastN] at hL
  have HE2 : Ext w W W.drew.drew := HE.drew.drew
  have kf2 : ∀ i, W.drew.drew.cell? ⟨g, i, none⟩ = _ := kf
  generalize W.drew.drew = W2 at *
  rcases hL with ⟨hf1, rfl, rfl⟩ | ⟨hf1, hr1, rfl⟩ | ⟨hf1, rfl, rfl, rfl⟩ | ⟨hf1, rfl, hr1, rfl⟩ | ⟨hf1, hf2, rfl⟩
  ·obtain rfl : f = 2047 := by omega
   go_wp2_with (go_at_call 71; refine (c3 _).mono ?_; rintro e w1 ⟨rfl, hb1⟩; have HE1 := Ext.next (w0 := w) (W := W) hb1)
   obtain ⟨w', hw', e0, e1, e2, e3, hb⟩ := fin4 ho HE1 _ _ _ _
   rw [← hw']
   exact bodyPost_ret (v := PP.v ⟨2, neg, 0, 0⟩) (by simp [results, Tryz.results21, go_sem, e0, e1, e2, e3, PP.v]) rfl ⟨rfl, hb⟩
  ·obtain rfl : f = 2047 := by omega
   have hr2 : ((r : Int) != 0) = true := by simp [hr1]
   have hr3 : (r : Int) ≠ 0 := by omega
   go_wp2_with (go_at_call 71; refine (c3 _).mono ?_; rintro e w1 ⟨rfl, hb1⟩; have HE1 := Ext.next (w0 := w) (W := W) hb1)
   obtain ⟨w', hw', e0, e1, e2, e3, hb⟩ := fin4 ho HE1 _ _ _ _
   rw [← hw']
   exact bodyPost_ret (v := PP.v ⟨3, false, 0, 0⟩) (by simp [results, Tryz.results21, go_sem, e0, e1, e2, e3, PP.v]) rfl ⟨rfl, hb⟩
  ·go_wp2_with (go_at_call 71; refine (c3 _).mono ?_; rintro e w1 ⟨rfl, hb1⟩; have HE1 := Ext.next (w0 := w) (W := W) hb1)
   obtain ⟨w', hw', e0, e1, e2, e3, hb⟩ := fin4 ho HE1 _ _ _ _
   rw [← hw']
   exact bodyPost_ret (v := PP.v ⟨0, neg, 0, 0⟩) (by simp [results, Tryz.results21, go_sem, e0, e1, e2, e3, PP.v]) rfl ⟨rfl, hb⟩
  ·have hr2 : ((r : Int) == 0) = false := by simp [hr1]
   have hr3 : (r : Int) ≠ 0 := by omega
   go_wp2_with (go_at_call 71; refine (c3 _).mono ?_; rintro e w1 ⟨rfl, hb1⟩; have HE1 := Ext.next (w0 := w) (W := W) hb1)
   obtain ⟨w', hw', e0, e1, e2, e3, hb⟩ := fin4 ho HE1 _ _ _ _
   rw [← hw']
   exact bodyPost_ret (v := PP.v ⟨1, neg, r, -1074⟩) (by simp [results, Tryz.results21, go_sem, e0, e1, e2, e3, PP.v]) rfl ⟨rfl, hb⟩
  ·have hf3 : (f : Int) ≠ 2047 := by omega
   have hf4 : (f : Int) ≠ 0 := by omega
   have b1 : wrap64 ((r : Int) + 4503599627370496) = ((r + 4503599627370496 : Nat) : Int) := N.wr (by omega) (by omega)
   have b2 : wrap64 ((f : Int) - 1) = (f : Int) - 1 := N.wr (by omega) (by omega)
   have b3 : wrap64 ((f : Int) - 1 + (-1074)) = (f : Int) - 1 + (-1074) := N.wr (by omega) (by omega)
   go_wp2_with (go_at_call 71; refine (c3 _).mono ?_; rintro e w1 ⟨rfl, hb1⟩; have HE1 := Ext.next (w0 := w) (W := W) hb1)
   obtain ⟨w', hw', e0, e1, e2, e3, hb⟩ := fin4 ho HE1 _ _ _ _
   rw [← hw']
   exact bodyPost_ret (v := PP.v ⟨1, neg, r + 4503599627370496, (f : Int) - 1 + (-1074)⟩) (by simp [results, Tryz.results21, go_sem, e0, e1, e2, e3, PP.v]) rfl ⟨rfl, hb⟩
 ·unfold fmtV at c1
  show Calls Tryz.prog 21 #[.int .i64 1, .int .u64 (a : Int)] w _
  replace c1 : ∀ w, Calls Tryz.prog 68 #[.int .i64 1] w _ := c1
  replace c2 : ∀ w, Calls Tryz.prog 71 #[.int .i64 8] w (Ret (.int .i64 256) w) := c2
  go_enter Tryz.func21, Tryz.ntmps21
  go_upto_region 2 with (go_at_call 68; refine (c1 _).mono ?_; rintro e w1 ⟨rfl, hb1⟩)
  refine hide_res hb1 (fun W kf hs ho HE => ?_)
  clear hb1 c1
  generalize w1.heap.size = g at *
  go_upto_region 4 with (fail)
  go_region
  go_upto_region 5 with (fail)
  go_region
  go_upto_region 6 with (fail)
  have h1 : IntKind.u64.wrap ((a : Int) / 8388608) = ((a / 8388608 : Nat) : Int) := by
   have : a < 18446744073709551616 := by have : (a : Int) < 4294967296 := ha; omega
   exact kuwrap (n := a / 8388608) (by omega)
  have h2 : wrap64 (((a / 8388608 : Nat) : Int).tmod 256) = ((a / 8388608 % 256 : Nat) : Int) := N.wr_nat (n := a / 8388608 % 256) (by omega)
  have h3 : (a : Int) % 8388608 = ((a % 8388608 : Nat) : Int) := rfl
  have h4 : (((a / 8388608 : Nat) : Int) / 256 == 1) = decide (a / 8388608 / 256 = 1) := by
   rw [Bool.eq_iff_iff]; simp; omega
  have hf : a / 8388608 % 256 < 256 := Nat.mod_lt _ (by decide)
  have hr : a % 8388608 < 8388608 := Nat.mod_lt _ (by decide)
  rw [h1, h2, h3, h4]
  clear h1 h2 h3 h4 ha
  replace hR : partsOf true (a / 8388608 % 256) (a % 8388608) (decide (a / 8388608 / 256 = 1)) = R := hR
  generalize a / 8388608 % 256 = f at *
  generalize a % 8388608 = r at *
  generalize decide (a / 8388608 / 256 = 1) = neg at *
  have hL := parts_leaf hR
  clear hR
  simp only [fieldN, lowN, leastN] at hL
  have HE2 : Ext w W W.drew.drew := HE.drew.drew
  have kf2 : ∀ i, W.drew.drew.cell? ⟨g, i, none⟩ = _ := kf
  generalize W.drew.drew = W2 at *
  rcases hL with ⟨hf1, rfl, rfl⟩ | ⟨hf1, hr1, rfl⟩ | ⟨hf1, rfl, rfl, rfl⟩ | ⟨hf1, rfl, hr1, rfl⟩ | ⟨hf1, hf2, rfl⟩
  ·obtain rfl : f = 255 := by omega
   go_wp2_with (go_at_call 71; refine (c2 _).mono ?_; rintro e w1 ⟨rfl, hb1⟩; have HE1 := Ext.next (w0 := w) (W := W) hb1)
   obtain ⟨w', hw', e0, e1, e2, e3, hb⟩ := fin4 ho HE1 _ _ _ _
   rw [← hw']
   exact bodyPost_ret (v := PP.v ⟨2, neg, 0, 0⟩) (by simp [results, Tryz.results21, go_sem, e0, e1, e2, e3, PP.v]) rfl ⟨rfl, hb⟩
  ·obtain rfl : f = 255 := by omega
   have hr2 : ((r : Int) != 0) = true := by simp [hr1]
   have hr3 : (r : Int) ≠ 0 := by omega
   go_wp2_with (go_at_call 71; refine (c2 _).mono ?_; rintro e w1 ⟨rfl, hb1⟩; have HE1 := Ext.next (w0 := w) (W := W) hb1)
   obtain ⟨w', hw', e0, e1, e2, e3, hb⟩ := fin4 ho HE1 _ _ _ _
   rw [← hw']
   exact bodyPost_ret (v := PP.v ⟨3, false, 0, 0⟩) (by simp [results, Tryz.results21, go_sem, e0, e1, e2, e3, PP.v]) rfl ⟨rfl, hb⟩
  ·go_wp2_with (go_at_call 71; refine (c2 _).mono ?_; rintro e w1 ⟨rfl, hb1⟩; have HE1 := Ext.next (w0 := w) (W := W) hb1)
   obtain ⟨w', hw', e0, e1, e2, e3, hb⟩ := fin4 ho HE1 _ _ _ _
   rw [← hw']
   exact bodyPost_ret (v := PP.v ⟨0, neg, 0, 0⟩) (by simp [results, Tryz.results21, go_sem, e0, e1, e2, e3, PP.v]) rfl ⟨rfl, hb⟩
  ·have hr2 : ((r : Int) == 0) = false := by simp [hr1]
   have hr3 : (r : Int) ≠ 0 := by omega
   go_wp2_with (go_at_call 71; refine (c2 _).mono ?_; rintro e w1 ⟨rfl, hb1⟩; have HE1 := Ext.next (w0 := w) (W := W) hb1)
   obtain ⟨w', hw', e0, e1, e2, e3, hb⟩ := fin4 ho HE1 _ _ _ _
   rw [← hw']
   exact bodyPost_ret (v := PP.v ⟨1, neg, r, -149⟩) (by simp [results, Tryz.results21, go_sem, e0, e1, e2, e3, PP.v]) rfl ⟨rfl, hb⟩
  ·have hf3 : (f : Int) ≠ 255 := by omega
   have hf4 : (f : Int) ≠ 0 := by omega
   have b1 : wrap64 ((r : Int) + 8388608) = ((r + 8388608 : Nat) : Int) := N.wr (by omega) (by omega)
   have b2 : wrap64 ((f : Int) - 1) = (f : Int) - 1 := N.wr (by omega) (by omega)
   have b3 : wrap64 ((f : Int) - 1 + (-149)) = (f : Int) - 1 + (-149) := N.wr (by omega) (by omega)
   go_wp2_with (go_at_call 71; refine (c2 _).mono ?_; rintro e w1 ⟨rfl, hb1⟩; have HE1 := Ext.next (w0 := w) (W := W) hb1)
   obtain ⟨w', hw', e0, e1, e2, e3, hb⟩ := fin4 ho HE1 _ _ _ _
   rw [← hw']
   exact bodyPost_ret (v := PP.v ⟨1, neg, r + 8388608, (f : Int) - 1 + (-149)⟩) (by simp [results, Tryz.results21, go_sem, e0, e1, e2, e3, PP.v]) rfl ⟨rfl, hb⟩
end Go.Proofs.YtmoimcblmmcffaaGreat.NC

namespace Go.Proofs.YtmoimcblmmcffaaGreat.NC
open Go.RowKit Go.Proofs.YtmoimcblmmcffaaGreat.B
set_option linter.unusedSimpArgs false
set_option linter.unusedVariables false
theorem hide_arg {P : Program} {c : Code} {Q : Exit → Act → World → Prop} {a : Act} {w w1 : World} {cs cs' : Array Value} {t t' : TypeId}
  (hb : Below (w.alloc (.cells cs t (0, 0))).heap.size (w.alloc (.cells cs t (0, 0))) w1)
  (h : ∀ W, (∀ i, W.cell? ⟨w.heap.size, i, none⟩ = cs[i]?) → (∀ i, W.cell? ⟨w1.heap.size, i, none⟩ = cs'[i]?) → w.heap.size < W.heap.size → w1.heap.size < W.heap.size → Ext w W W → c.wp P Q a W) :
  c.wp P Q a (w1.alloc (.cells cs' t' (0, 0))) := by
 have e1 : (w.alloc (.cells cs t (0, 0))).heap.size = w.heap.size + 1 := by simp
 have e2 : w.heap.size + 1 ≤ w1.heap.size := by have := hb.size; rw [e1] at this; exact this
 refine h _ (fun i => ?_) (fun i => ?_) (by simp; omega) (by simp) ?_
 ·have h1 := (bcell hb).1 w.heap.size i (by rw [e1]; omega)
  have h2 := cell_of_row (w.alloc (.cells cs t (0, 0))) _ i cs t (0, 0) (heap_alloc_new w _)
  rw [h2] at h1
  rw [← h1]
  exact (bcell (Below.refl w1.heap.size w1 |> fun hb => below_alloc0 hb _)).1 w.heap.size i (by omega)
 ·rw [cell_of_row _ _ i cs' t' (0, 0) (heap_alloc_new w1 _)]
 ·refine Ext.refl ?_
  exact below_alloc0 ((below_alloc0 (Below.refl _ _) _).trans (hb.mono (by rw [e1]; omega))) _
def mostN : Bool → Int
 | true => 104
 | false => 971
def signN : Bool → Nat
 | true => 2147483648
 | false => 9223372036854775808
def nanN : Bool → Nat
 | true => 2143289344
 | false => 9221120237041090560
def PP.ok (s : Bool) (p : PP) : Prop := p.kind = 0 ∨ p.kind = 2 ∨ p.kind = 3 ∨ p.kind = 1 ∧ p.sig < 2 * lowN s ∧ (lowN s ≤ p.sig → leastN s ≤ p.exp ∧ p.exp ≤ mostN s)
def bitsR (s : Bool) (p : PP) : Nat :=
 if p.kind = 3 then nanN s else (if p.neg then signN s else 0) + (if p.kind = 0 then 0 else if p.kind = 2 then lowN s * (fieldN s - 1) else if p.sig < lowN s then p.sig else lowN s * (p.exp - leastN s + 1).toNat + p.sig - lowN s)
theorem ret_eq {x y : Int} (h : x = y) : Ending.returned (.int .u64 x) = .returned (.int .u64 y) := by rw [h]
def sgnN (s neg : Bool) : Nat := if neg then signN s else 0
theorem bits_leaf {s : Bool} {p : PP} (hp : p.ok s) : (p.kind = 0 ∧ bitsR s p = sgnN s p.neg) ∨ (p.kind = 2 ∧ bitsR s p = sgnN s p.neg + lowN s * (fieldN s - 1)) ∨ (p.kind = 3 ∧ bitsR s p = nanN s) ∨ (p.kind = 1 ∧ p.sig < lowN s ∧ bitsR s p = sgnN s p.neg + p.sig) ∨
  (p.kind = 1 ∧ lowN s ≤ p.sig ∧ p.sig < 2 * lowN s ∧ ∃ q : Nat, p.exp = (q : Int) + leastN s ∧ (q : Int) ≤ mostN s - leastN s ∧ bitsR s p = sgnN s p.neg + (lowN s * (q + 1) + p.sig - lowN s)) := by
 unfold bitsR sgnN
 rcases hp with h | h | h | ⟨h, h1, h2⟩
 ·left; simp [h]
 ·right; left; simp [h]
 ·right; right; left; simp [h]
 ·right; right; right
  by_cases hlt : p.sig < lowN s
  ·left; simp [h, hlt]
  ·right
   obtain ⟨h3, h4⟩ := h2 (by omega)
   refine ⟨h, by omega, h1, (p.exp - leastN s).toNat, by omega, by omega, ?_⟩
   simp only [h, hlt, if_false]
   rw [show (p.exp - leastN s + 1).toNat = (p.exp - leastN s).toNat + 1 from by omega]
   simp
set_option maxHeartbeats 8000000 in
theorem bits_c (s : Bool) (p : PP) (w : World) (hp : p.ok s) : Calls Tryz.prog 69 #[.int .i64 (tv s), p.v] w (Ret (.int .u64 (bitsR s p : Int)) w) := by
 have c1 := formatOf_c s
 have c2 := nanR_c s
 have hL := bits_leaf hp
 clear hp
 obtain ⟨R, hR⟩ : ∃ R : Nat, bitsR s p = R := ⟨_, rfl⟩
 rw [hR]
 rw [hR] at hL
 clear hR
 obtain ⟨kind, neg, sig, exp⟩ := p
 unfold PP.v
 simp only at hL ⊢
 cases s
 ·unfold fmtV at c1
  replace c1 : ∀ w, Calls Tryz.prog 68 #[.int .i64 2] w _ := c1
  replace c2 : ∀ w, Calls Tryz.prog 67 #[.int .i64 2] w (Ret (.int .u64 9221120237041090560) w) := c2
  simp only [lowN, fieldN, leastN, mostN, signN, nanN, sgnN] at hL
  show Calls Tryz.prog 69 #[.int .i64 2, _] w _
  go_enter Tryz.func69, Tryz.ntmps69
  go_upto_region 2 with (go_at_call 68; refine (c1 _).mono ?_; rintro e w1 ⟨rfl, hb1⟩)
  refine hide_arg hb1 (fun W kp kf hs0 hs HE => ?_)
  clear hb1 c1
  generalize w1.heap.size = g at *
  rcases hL with ⟨rfl, hR⟩ | ⟨rfl, hR⟩ | ⟨rfl, hR⟩ | ⟨rfl, h1, hR⟩ | ⟨rfl, h1, h2, q, rfl, h3, hR⟩
  ·cases neg
   ·replace hR : R = 0 := by first | exact hR | (rw [hR]; rfl)
    go_wp2_with (go_at_call 67; refine (c2 _).mono ?_; rintro e w1 ⟨rfl, hb1⟩; have HE1 := Ext.next (w0 := w) (W := W) hb1)
    go_ret
    refine ⟨?_, Ext.end⟩
    clear kp kf hs0 hs
    refine ret_eq ?_
    subst hR; rfl
   ·replace hR : R = 9223372036854775808 := by first | exact hR | (rw [hR]; rfl)
    go_wp2_with (go_at_call 67; refine (c2 _).mono ?_; rintro e w1 ⟨rfl, hb1⟩; have HE1 := Ext.next (w0 := w) (W := W) hb1)
    go_ret
    refine ⟨?_, Ext.end⟩
    clear kp kf hs0 hs
    refine ret_eq ?_
    subst hR; rfl
  ·cases neg
   ·replace hR : R = 9218868437227405312 := by first | exact hR | (rw [hR]; rfl)
    go_wp2_with (go_at_call 67; refine (c2 _).mono ?_; rintro e w1 ⟨rfl, hb1⟩; have HE1 := Ext.next (w0 := w) (W := W) hb1)
    go_ret
    refine ⟨?_, Ext.end⟩
    clear kp kf hs0 hs
    refine ret_eq ?_
    subst hR; rfl
   ·replace hR : R = 18442240474082181120 := by first | exact hR | (rw [hR]; rfl)
    go_wp2_with (go_at_call 67; refine (c2 _).mono ?_; rintro e w1 ⟨rfl, hb1⟩; have HE1 := Ext.next (w0 := w) (W := W) hb1)
    go_ret
    refine ⟨?_, Ext.end⟩
    clear kp kf hs0 hs
    refine ret_eq ?_
    subst hR; rfl
  ·cases neg
   ·replace hR : R = 9221120237041090560 := by first | exact hR | (rw [hR]; rfl)
    go_wp2_with (go_at_call 67; refine (c2 _).mono ?_; rintro e w1 ⟨rfl, hb1⟩; have HE1 := Ext.next (w0 := w) (W := W) hb1)
    go_ret
    refine ⟨?_, Ext.end⟩
    clear kp kf hs0 hs
    refine ret_eq ?_
    subst hR; rfl
   ·replace hR : R = 9221120237041090560 := by first | exact hR | (rw [hR]; rfl)
    go_wp2_with (go_at_call 67; refine (c2 _).mono ?_; rintro e w1 ⟨rfl, hb1⟩; have HE1 := Ext.next (w0 := w) (W := W) hb1)
    go_ret
    refine ⟨?_, Ext.end⟩
    clear kp kf hs0 hs
    refine ret_eq ?_
    subst hR; rfl
  ·cases neg
   ·replace hR : R = 0 + sig := by first | exact hR | (rw [hR]; rfl)
    have f1 : IntKind.u64.wrap (sig : Int) = (sig : Int) := kuwrap (by omega)
    have f2 : (sig : Int) < 4503599627370496 := by omega
    go_wp2_with (go_at_call 67; refine (c2 _).mono ?_; rintro e w1 ⟨rfl, hb1⟩; have HE1 := Ext.next (w0 := w) (W := W) hb1)
    go_ret
    refine ⟨?_, Ext.end⟩
    clear kp kf hs0 hs
    refine ret_eq ?_
    (try rw [hR]); (try rw [f1]); (try rw [f3]); first | rfl | omega | (trace_state; omega)
   ·replace hR : R = 9223372036854775808 + sig := by first | exact hR | (rw [hR]; rfl)
    have f1 : IntKind.u64.wrap (sig : Int) = (sig : Int) := kuwrap (by omega)
    have f2 : (sig : Int) < 4503599627370496 := by omega
    have f3 : IntKind.u64.wrap (9223372036854775808 + (sig : Int)) = ((9223372036854775808 + sig : Nat) : Int) := kuwrap (n := 9223372036854775808 + sig) (by omega)
    go_wp2_with (go_at_call 67; refine (c2 _).mono ?_; rintro e w1 ⟨rfl, hb1⟩; have HE1 := Ext.next (w0 := w) (W := W) hb1)
    go_ret
    refine ⟨?_, Ext.end⟩
    clear kp kf hs0 hs
    refine ret_eq ?_
    (try rw [hR]); (try rw [f1]); (try rw [f3]); first | rfl | omega | (trace_state; omega)
  ·cases neg
   ·replace hR : R = 0 + (4503599627370496 * (q + 1) + sig - 4503599627370496) := by first | exact hR | (rw [hR]; rfl)
    have f1 : IntKind.u64.wrap (sig : Int) = (sig : Int) := kuwrap (by omega)
    have f2 : ¬ (sig : Int) < 4503599627370496 := by omega
    have f4 : (q : Int) + (-1074) - (-1074) = (q : Int) := by omega
    go_wp2_with (go_at_call 67; refine (c2 _).mono ?_; rintro e w1 ⟨rfl, hb1⟩; have HE1 := Ext.next (w0 := w) (W := W) hb1)
    go_ret
    refine ⟨?_, Ext.end⟩
    clear kp kf hs0 hs
    refine ret_eq ?_
    (try rw [hR]); (try rw [f1]); (try rw [f3]); first | rfl | omega | (trace_state; omega)
   ·replace hR : R = 9223372036854775808 + (4503599627370496 * (q + 1) + sig - 4503599627370496) := by first | exact hR | (rw [hR]; rfl)
    have f1 : IntKind.u64.wrap (sig : Int) = (sig : Int) := kuwrap (by omega)
    have f2 : ¬ (sig : Int) < 4503599627370496 := by omega
    have f4 : (q : Int) + (-1074) - (-1074) = (q : Int) := by omega
    go_wp2_with (go_at_call 67; refine (c2 _).mono ?_; rintro e w1 ⟨rfl, hb1⟩; have HE1 := Ext.next (w0 := w) (W := W) hb1)
    go_ret
    refine ⟨?_, Ext.end⟩
    clear kp kf hs0 hs
    refine ret_eq ?_
    (try rw [hR]); (try rw [f1]); (try rw [f3]); first | rfl | omega | (trace_state; omega)
 ·unfold fmtV at c1
  replace c1 : ∀ w, Calls Tryz.prog 68 #[.int .i64 1] w _ := c1
  replace c2 : ∀ w, Calls Tryz.prog 67 #[.int .i64 1] w (Ret (.int .u64 2143289344) w) := c2
  simp only [lowN, fieldN, leastN, mostN, signN, nanN, sgnN] at hL
  show Calls Tryz.prog 69 #[.int .i64 1, _] w _
  go_enter Tryz.func69, Tryz.ntmps69
  go_upto_region 2 with (go_at_call 68; refine (c1 _).mono ?_; rintro e w1 ⟨rfl, hb1⟩)
  refine hide_arg hb1 (fun W kp kf hs0 hs HE => ?_)
  clear hb1 c1
  generalize w1.heap.size = g at *
  rcases hL with ⟨rfl, hR⟩ | ⟨rfl, hR⟩ | ⟨rfl, hR⟩ | ⟨rfl, h1, hR⟩ | ⟨rfl, h1, h2, q, rfl, h3, hR⟩
  ·cases neg
   ·replace hR : R = 0 := by first | exact hR | (rw [hR]; rfl)
    go_wp2_with (go_at_call 67; refine (c2 _).mono ?_; rintro e w1 ⟨rfl, hb1⟩; have HE1 := Ext.next (w0 := w) (W := W) hb1)
    go_ret
    refine ⟨?_, Ext.end⟩
    clear kp kf hs0 hs
    refine ret_eq ?_
    subst hR; rfl
   ·replace hR : R = 2147483648 := by first | exact hR | (rw [hR]; rfl)
    go_wp2_with (go_at_call 67; refine (c2 _).mono ?_; rintro e w1 ⟨rfl, hb1⟩; have HE1 := Ext.next (w0 := w) (W := W) hb1)
    go_ret
    refine ⟨?_, Ext.end⟩
    clear kp kf hs0 hs
    refine ret_eq ?_
    subst hR; rfl
  ·cases neg
   ·replace hR : R = 2139095040 := by first | exact hR | (rw [hR]; rfl)
    go_wp2_with (go_at_call 67; refine (c2 _).mono ?_; rintro e w1 ⟨rfl, hb1⟩; have HE1 := Ext.next (w0 := w) (W := W) hb1)
    go_ret
    refine ⟨?_, Ext.end⟩
    clear kp kf hs0 hs
    refine ret_eq ?_
    subst hR; rfl
   ·replace hR : R = 4286578688 := by first | exact hR | (rw [hR]; rfl)
    go_wp2_with (go_at_call 67; refine (c2 _).mono ?_; rintro e w1 ⟨rfl, hb1⟩; have HE1 := Ext.next (w0 := w) (W := W) hb1)
    go_ret
    refine ⟨?_, Ext.end⟩
    clear kp kf hs0 hs
    refine ret_eq ?_
    subst hR; rfl
  ·cases neg
   ·replace hR : R = 2143289344 := by first | exact hR | (rw [hR]; rfl)
    go_wp2_with (go_at_call 67; refine (c2 _).mono ?_; rintro e w1 ⟨rfl, hb1⟩; have HE1 := Ext.next (w0 := w) (W := W) hb1)
    go_ret
    refine ⟨?_, Ext.end⟩
    clear kp kf hs0 hs
    refine ret_eq ?_
    subst hR; rfl
   ·replace hR : R = 2143289344 := by first | exact hR | (rw [hR]; rfl)
    go_wp2_with (go_at_call 67; refine (c2 _).mono ?_; rintro e w1 ⟨rfl, hb1⟩; have HE1 := Ext.next (w0 := w) (W := W) hb1)
    go_ret
    refine ⟨?_, Ext.end⟩
    clear kp kf hs0 hs
    refine ret_eq ?_
    subst hR; rfl
  ·cases neg
   ·replace hR : R = 0 + sig := by first | exact hR | (rw [hR]; rfl)
    have f1 : IntKind.u64.wrap (sig : Int) = (sig : Int) := kuwrap (by omega)
    have f2 : (sig : Int) < 8388608 := by omega
    go_wp2_with (go_at_call 67; refine (c2 _).mono ?_; rintro e w1 ⟨rfl, hb1⟩; have HE1 := Ext.next (w0 := w) (W := W) hb1)
    go_ret
    refine ⟨?_, Ext.end⟩
    clear kp kf hs0 hs
    refine ret_eq ?_
    (try rw [hR]); (try rw [f1]); (try rw [f3]); first | rfl | omega | (trace_state; omega)
   ·replace hR : R = 2147483648 + sig := by first | exact hR | (rw [hR]; rfl)
    have f1 : IntKind.u64.wrap (sig : Int) = (sig : Int) := kuwrap (by omega)
    have f2 : (sig : Int) < 8388608 := by omega
    have f3 : IntKind.u64.wrap (2147483648 + (sig : Int)) = ((2147483648 + sig : Nat) : Int) := kuwrap (n := 2147483648 + sig) (by omega)
    go_wp2_with (go_at_call 67; refine (c2 _).mono ?_; rintro e w1 ⟨rfl, hb1⟩; have HE1 := Ext.next (w0 := w) (W := W) hb1)
    go_ret
    refine ⟨?_, Ext.end⟩
    clear kp kf hs0 hs
    refine ret_eq ?_
    (try rw [hR]); (try rw [f1]); (try rw [f3]); first | rfl | omega | (trace_state; omega)
  ·cases neg
   ·replace hR : R = 0 + (8388608 * (q + 1) + sig - 8388608) := by first | exact hR | (rw [hR]; rfl)
    have f1 : IntKind.u64.wrap (sig : Int) = (sig : Int) := kuwrap (by omega)
    have f2 : ¬ (sig : Int) < 8388608 := by omega
    have f4 : (q : Int) + (-149) - (-149) = (q : Int) := by omega
    go_wp2_with (go_at_call 67; refine (c2 _).mono ?_; rintro e w1 ⟨rfl, hb1⟩; have HE1 := Ext.next (w0 := w) (W := W) hb1)
    go_ret
    refine ⟨?_, Ext.end⟩
    clear kp kf hs0 hs
    refine ret_eq ?_
    (try rw [hR]); (try rw [f1]); (try rw [f3]); first | rfl | omega | (trace_state; omega)
   ·replace hR : R = 2147483648 + (8388608 * (q + 1) + sig - 8388608) := by first | exact hR | (rw [hR]; rfl)
    have f1 : IntKind.u64.wrap (sig : Int) = (sig : Int) := kuwrap (by omega)
    have f2 : ¬ (sig : Int) < 8388608 := by omega
    have f4 : (q : Int) + (-149) - (-149) = (q : Int) := by omega
    go_wp2_with (go_at_call 67; refine (c2 _).mono ?_; rintro e w1 ⟨rfl, hb1⟩; have HE1 := Ext.next (w0 := w) (W := W) hb1)
    go_ret
    refine ⟨?_, Ext.end⟩
    clear kp kf hs0 hs
    refine ret_eq ?_
    (try rw [hR]); (try rw [f1]); (try rw [f3]); first | rfl | omega | (trace_state; omega)
end Go.Proofs.YtmoimcblmmcffaaGreat.NC
