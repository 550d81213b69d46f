/- Contracts and plain laws that the law RealsWhole leans on (texts joined by program; what it does not come to is left out). -/
import Derived.Test.YtmoimcblmmcffaaGreatDoorQRealsWholeA
import Derived.Test.YtmoimcblmmcffaaGreatDoorQRealsWholeC

namespace Go.Proofs.YtmoimcblmmcffaaGreatDoor.PN
open Go.RowKit Go.Proofs.YtmoimcblmmcffaaGreatDoorW.PrintWords Go.Proofs.YtmoimcblmmcffaaGreatDoorW.PrintLast Go.Proofs.YtmoimcblmmcffaaGreatDoorW.PrintMore Go.Proofs.YtmoimcblmmcffaaGreatDoorW.PrintZ
attribute [local go_sem] max2_int min2_int max_two min_two max_three min_three max_four min_four   -- for this text's walks alone
set_option linter.unusedVariables false
set_option linter.unusedSimpArgs false
def r8_Order.l0 : Nat → List Int → List Int → Int → Option (Int)
 | 0, _, _, _ => none
 | k + 1, x0, x1, x5 => if x5 ≥ 0 then (if 0 ≤ x5 then (if x5 < (x0.length : Int) then (if x5 < (x1.length : Int) then (if (rd x0 x5) = (rd x1 x5) then (r8_Order.l0 k x0 x1 (wrap64 (x5 - 1))) else ((bs_Bit.f (decide ((rd x0 x5) < (rd x1 x5)))).bind fun t137 => (some (wrap64 (1 - (wrap64 (2 * t137))))))) else (none)) else (none)) else (none)) else (some 0)
def r8_Order.f (k : Nat) (l0 : List Int) (l1 : List Int) : Option (Int) := if (l0.length : Int) = (l1.length : Int) then (r8_Order.l0 k l0 l1 (wrap64 ((l0.length : Int) - 1))) else ((bs_Bit.f (decide ((l0.length : Int) < (l1.length : Int)))).bind fun t132 => (some (wrap64 (1 - (wrap64 (2 * t132))))))
set_option maxHeartbeats 8000000 in
set_option maxRecDepth 100000 in
theorem r8_Order.calls (k : Nat) (A0 : Option Addr) (c0 : Nat) (l0 : List Int) (A1 : Option Addr) (c1 : Nat) (l1 : List Int) (r : Int) (w : World) (hr0 : Kd.C (Kd.int .i64) w A0 l0.length l0) (hc0 : l0.length ≤ c0) (hr1 : Kd.C (Kd.int .i64) w A1 l1.length l1) (hc1 : l1.length ≤ c1) (h : r8_Order.f k l0 l1 = some r) :
  Calls Tryz.prog 80 #[.slice A0 l0.length c0, .slice A1 l1.length c1] w fun e w' => e = .returned (.int .i64 r) ∧ Drawn0 w w' := by
 have HR0 := Zs.mk hr0
 have HC0 := Zs.mk hc0
 clear hr0 hc0
 have HR1 := Zs.mk hr1
 have HC1 := Zs.mk hc1
 clear hr1 hc1
 have H : (if (l0.length : Int) = (l1.length : Int) then (r8_Order.l0 k l0 l1 (wrap64 ((l0.length : Int) - 1))) else ((bs_Bit.f (decide ((l0.length : Int) < (l1.length : Int)))).bind fun t132 => (some (wrap64 (1 - (wrap64 (2 * t132))))))) = some r := h
 clear h
 by_cases c3 : (l0.length : Int) = (l1.length : Int)
 ·rw [if_pos c3] at H
  have c3b0 : ((l0.length : Int) == (l1.length : Int)) = true := beq_iff_eq.mpr c3
  have c3b1 : ((l0.length : Int) != (l1.length : Int)) = false := bne_eq_false_iff_eq.mpr c3
  have c3b2 : (l0.length == l1.length) = true := by first | simpa using c3 | (simp at c3 ⊢; omega)
  clear c3
  have H' := Zs.mk H
  clear H
  go_enter Tryz.func80, Tryz.ntmps80
  go_wp2
  repeat (go_quiet (fail); try go_wp2)
  go_loopg [5] k (fun kq v5 w' => ∃ (x5_1 : Int), v5 = .int .i64 x5_1 ∧ Zs (r8_Order.l0 kq l0 l1 x5_1 = some r) ∧ Zs (kq ≤ k) ∧ Drawn0 w w')
  case atStart => exact ⟨(wrap64 ((l0.length : Int) - 1)), (by first | rfl | (simp; done) | (simp [*]; done)), H', ⟨Nat.le_refl _⟩, by repeat (first | exact Drawn0.refl _ | apply Drawn0.step)⟩
  case round =>
   clear H'
   try clear c1
   try clear p2
   try clear c3
   try clear c3b0
   try clear c3b1
   try clear c3b2
   obtain ⟨x5_1, rfl, HA, HK1, ⟨m1, rfl⟩⟩ := hrel
   cases gk with
   | zero => exact absurd HA.out (by simp [r8_Order.l0])
   | succ k1 =>
    have H := HA.out
    clear HA
    simp only [r8_Order.l0] at H
    by_cases c4 : x5_1 ≥ 0
    ·rw [if_pos c4] at H
     have c4b0 : decide (0 ≤ x5_1) = true := decide_eq_true c4
     clear c4
     by_cases c5 : 0 ≤ x5_1
     ·rw [if_pos c5] at H
      have c5b0 : decide (0 ≤ x5_1) = true := decide_eq_true c5
      clear c5
      by_cases c6 : x5_1 < (l0.length : Int)
      ·rw [if_pos c6] at H
       have c6b0 : decide (x5_1 < (l0.length : Int)) = true := decide_eq_true c6
       clear c6
       by_cases c7 : x5_1 < (l1.length : Int)
       ·rw [if_pos c7] at H
        have c7b0 : decide (x5_1 < (l1.length : Int)) = true := decide_eq_true c7
        clear c7
        by_cases c8 : (rd l0 x5_1) = (rd l1 x5_1)
        ·rw [if_pos c8] at H
         have c8b0 : ((rd l0 x5_1) == (rd l1 x5_1)) = true := beq_iff_eq.mpr c8
         have c8b1 : ((rd l0 x5_1) != (rd l1 x5_1)) = false := bne_eq_false_iff_eq.mpr c8
         clear c8
         have H' := Zs.mk H
         clear H
         have p133 : 0 ≤ (x5_1 : Int) := of_decide_eq_true (by first | (with_reducible assumption) | assumption)
         have q133 : x5_1 < (l0.length : Int) := of_decide_eq_true (by first | (with_reducible assumption) | assumption)
         obtain ⟨ad133, e133, hx133_0⟩ := Kd.at_int HR0.out x5_1 p133 q133
         cases e133
         replace p133 := eq_true p133
         replace q133 := eq_true q133
         have p134 : 0 ≤ (x5_1 : Int) := of_decide_eq_true (by first | (with_reducible assumption) | assumption)
         have q134 : x5_1 < (l1.length : Int) := of_decide_eq_true (by first | (with_reducible assumption) | assumption)
         obtain ⟨ad134, e134, hx134_0⟩ := Kd.at_int HR1.out x5_1 p134 q134
         cases e134
         replace p134 := eq_true p134
         replace q134 := eq_true q134
         go_wp2
         repeat (go_quiet (fail); try go_wp2)
         go_roundg k1
         case measure => have := HK1.out; omega
         case rel => exact ⟨(wrap64 (x5_1 - 1)), (by first | rfl | (simp; done) | (simp [*]; done)), H', ⟨by have := HK1.out; omega⟩, by repeat (first | exact Drawn0.refl _ | apply Drawn0.step)⟩
        ·rw [if_neg c8] at H
         have c8b0 : ((rd l0 x5_1) == (rd l1 x5_1)) = false := beq_eq_false_iff_ne.mpr c8
         have c8b1 : ((rd l0 x5_1) != (rd l1 x5_1)) = true := bne_iff_ne.mpr c8
         replace H := Option.bind_eq_some_iff.mp H
         obtain ⟨t137, A9, H⟩ := H
         try dsimp only at H
         replace A9 := Zs.mk A9
         obtain rfl := Option.some.inj H
         have p133 : 0 ≤ (x5_1 : Int) := of_decide_eq_true (by first | (with_reducible assumption) | assumption)
         have q133 : x5_1 < (l0.length : Int) := of_decide_eq_true (by first | (with_reducible assumption) | assumption)
         obtain ⟨ad133, e133, hx133_0⟩ := Kd.at_int HR0.out x5_1 p133 q133
         cases e133
         replace p133 := eq_true p133
         replace q133 := eq_true q133
         have p134 : 0 ≤ (x5_1 : Int) := of_decide_eq_true (by first | (with_reducible assumption) | assumption)
         have q134 : x5_1 < (l1.length : Int) := of_decide_eq_true (by first | (with_reducible assumption) | assumption)
         obtain ⟨ad134, e134, hx134_0⟩ := Kd.at_int HR1.out x5_1 p134 q134
         cases e134
         replace p134 := eq_true p134
         replace q134 := eq_true q134
         have p135 : 0 ≤ (x5_1 : Int) := of_decide_eq_true (by first | (with_reducible assumption) | assumption)
         have q135 : x5_1 < (l0.length : Int) := of_decide_eq_true (by first | (with_reducible assumption) | assumption)
         obtain ⟨ad135, e135, hx135_0⟩ := Kd.at_int HR0.out x5_1 p135 q135
         obtain rfl : ad133 = ad135 := (by injection e135)
         replace p135 := eq_true p135
         replace q135 := eq_true q135
         have p136 : 0 ≤ (x5_1 : Int) := of_decide_eq_true (by first | (with_reducible assumption) | assumption)
         have q136 : x5_1 < (l1.length : Int) := of_decide_eq_true (by first | (with_reducible assumption) | assumption)
         obtain ⟨ad136, e136, hx136_0⟩ := Kd.at_int HR1.out x5_1 p136 q136
         obtain rfl : ad134 = ad136 := (by injection e136)
         replace p136 := eq_true p136
         replace q136 := eq_true q136
         go_wp2_with (first | (go_at_call 39; (with_reducible refine (bs_Bit.calls (decide ((rd l0 x5_1) < (rd l1 x5_1))) t137 _ A9.out).mono ?_); rintro e w' ⟨rfl, ⟨nd, rfl⟩⟩; (try first | exact ⟨rfl, _, World.drewN_drewN _ _ _⟩ | exact ⟨rfl, _, Eq.trans (World.drewN_drewN _ _ _) (congrArg (World.drewN _) (Nat.add_assoc _ _ _))⟩)))
         repeat (go_quiet (first | (go_at_call 39; (with_reducible refine (bs_Bit.calls (decide ((rd l0 x5_1) < (rd l1 x5_1))) t137 _ A9.out).mono ?_); rintro e w' ⟨rfl, ⟨nd, rfl⟩⟩; (try first | exact ⟨rfl, _, World.drewN_drewN _ _ _⟩ | exact ⟨rfl, _, Eq.trans (World.drewN_drewN _ _ _) (congrArg (World.drewN _) (Nat.add_assoc _ _ _))⟩))); try go_wp2_with (first | (go_at_call 39; (with_reducible refine (bs_Bit.calls (decide ((rd l0 x5_1) < (rd l1 x5_1))) t137 _ A9.out).mono ?_); rintro e w' ⟨rfl, ⟨nd, rfl⟩⟩; (try first | exact ⟨rfl, _, World.drewN_drewN _ _ _⟩ | exact ⟨rfl, _, Eq.trans (World.drewN_drewN _ _ _) (congrArg (World.drewN _) (Nat.add_assoc _ _ _))⟩))))
         go_ret
         exact ⟨by first | rfl | (simp; done) | (simp [*]; done), by repeat (first | exact Drawn0.refl _ | apply Drawn0.step)⟩
       ·rw [if_neg c7] at H
        exact absurd H (by simp)
      ·rw [if_neg c6] at H
       exact absurd H (by simp)
     ·rw [if_neg c5] at H
      exact absurd H (by simp)
    ·rw [if_neg c4] at H
     have c4b0 : decide (0 ≤ x5_1) = false := decide_eq_false c4
     clear c4
     obtain rfl := Option.some.inj H
     go_wp2
     repeat (go_quiet (fail); try go_wp2)
     go_ret
     exact ⟨by first | rfl | (simp; done) | (simp [*]; done), by repeat (first | exact Drawn0.refl _ | apply Drawn0.step)⟩
 ·rw [if_neg c3] at H
  have c3b0 : ((l0.length : Int) == (l1.length : Int)) = false := beq_eq_false_iff_ne.mpr c3
  have c3b1 : ((l0.length : Int) != (l1.length : Int)) = true := bne_iff_ne.mpr c3
  have c3b2 : (l0.length == l1.length) = false := by first | simpa using c3 | (simp at c3 ⊢; omega)
  replace H := Option.bind_eq_some_iff.mp H
  obtain ⟨t132, A10, H⟩ := H
  try dsimp only at H
  replace A10 := Zs.mk A10
  have hlen_ : decide ((l0.length : Int) < (l1.length : Int)) = decide (l0.length < l1.length) := decide_eq_decide.2 Int.ofNat_lt
  rw [hlen_] at A10
  clear hlen_
  obtain rfl := Option.some.inj H
  go_enter Tryz.func80, Tryz.ntmps80
  go_wp2_with (first | (go_at_call 39; (with_reducible refine (bs_Bit.calls (decide (l0.length < l1.length)) t132 _ A10.out).mono ?_); rintro e w' ⟨rfl, ⟨nd, rfl⟩⟩; (try first | exact ⟨rfl, _, World.drewN_drewN _ _ _⟩ | exact ⟨rfl, _, Eq.trans (World.drewN_drewN _ _ _) (congrArg (World.drewN _) (Nat.add_assoc _ _ _))⟩)))
  repeat (go_quiet (first | (go_at_call 39; (with_reducible refine (bs_Bit.calls (decide (l0.length < l1.length)) t132 _ A10.out).mono ?_); rintro e w' ⟨rfl, ⟨nd, rfl⟩⟩; (try first | exact ⟨rfl, _, World.drewN_drewN _ _ _⟩ | exact ⟨rfl, _, Eq.trans (World.drewN_drewN _ _ _) (congrArg (World.drewN _) (Nat.add_assoc _ _ _))⟩))); try go_wp2_with (first | (go_at_call 39; (with_reducible refine (bs_Bit.calls (decide (l0.length < l1.length)) t132 _ A10.out).mono ?_); rintro e w' ⟨rfl, ⟨nd, rfl⟩⟩; (try first | exact ⟨rfl, _, World.drewN_drewN _ _ _⟩ | exact ⟨rfl, _, Eq.trans (World.drewN_drewN _ _ _) (congrArg (World.drewN _) (Nat.add_assoc _ _ _))⟩))))
  go_ret
  exact ⟨by first | rfl | (simp; done) | (simp [*]; done), by repeat (first | exact Drawn0.refl _ | apply Drawn0.step)⟩
def r8_Length.l0 : Nat → List Int → Int → Option (Int)
 | 0, _, _ => none
 | k + 1, x0, x3 => if 0 ≤ (wrap64 ((x0.length : Int) - 1)) then (if (wrap64 ((x0.length : Int) - 1)) < (x0.length : Int) then ((bs_Power.f k x3).bind fun t139 => (if (rd x0 (wrap64 ((x0.length : Int) - 1))) ≥ t139 then (r8_Length.l0 k x0 (wrap64 (x3 + 1))) else (some (wrap64 ((wrap64 (16 * (wrap64 ((x0.length : Int) - 1)))) + x3))))) else (none)) else (none)
def r8_Length.f (k : Nat) (l0 : List Int) : Option (Int) := if (l0.length : Int) = 0 then (some 0) else (r8_Length.l0 k l0 0)
set_option maxHeartbeats 8000000 in
set_option maxRecDepth 100000 in
theorem r8_Length.calls (k : Nat) (A0 : Option Addr) (c0 : Nat) (l0 : List Int) (r : Int) (w : World) (hr0 : Kd.C (Kd.int .i64) w A0 l0.length l0) (hc0 : l0.length ≤ c0) (h : r8_Length.f k l0 = some r) :
  Calls Tryz.prog 52 #[.slice A0 l0.length c0] w fun e w' => e = .returned (.int .i64 r) ∧ Drawn0 w w' := by
 have HR0 := Zs.mk hr0
 have HC0 := Zs.mk hc0
 clear hr0 hc0
 have H : (if (l0.length : Int) = 0 then (some 0) else (r8_Length.l0 k l0 0)) = some r := h
 clear h
 by_cases c2 : (l0.length : Int) = 0
 ·rw [if_pos c2] at H
  have c2b0 : ((l0.length : Int) == 0) = true := beq_iff_eq.mpr c2
  have c2b1 : ((l0.length : Int) != 0) = false := bne_eq_false_iff_eq.mpr c2
  clear c2
  obtain rfl := Option.some.inj H
  go_enter Tryz.func52, Tryz.ntmps52
  go_wp2
  repeat (go_quiet (fail); try go_wp2)
  go_ret
  exact ⟨by first | rfl | (simp; done) | (simp [*]; done), by repeat (first | exact Drawn0.refl _ | apply Drawn0.step)⟩
 ·rw [if_neg c2] at H
  have c2b0 : ((l0.length : Int) == 0) = false := beq_eq_false_iff_ne.mpr c2
  have c2b1 : ((l0.length : Int) != 0) = true := bne_iff_ne.mpr c2
  have c2b2 : ¬ (l0 = []) := fun h_ => c2 (by rw [h_]; rfl)
  have H' := Zs.mk H
  clear H
  go_enter Tryz.func52, Tryz.ntmps52
  go_wp2
  repeat (go_quiet (fail); try go_wp2)
  go_loopg [3] k (fun kq v3 w' => ∃ (x3_1 : Int), v3 = .int .i64 x3_1 ∧ Zs (r8_Length.l0 kq l0 x3_1 = some r) ∧ Zs (kq ≤ k) ∧ Drawn0 w w')
  case atStart => exact ⟨(0), (by first | rfl | (simp; done) | (simp [*]; done)), H', ⟨Nat.le_refl _⟩, by repeat (first | exact Drawn0.refl _ | apply Drawn0.step)⟩
  case round =>
   clear H'
   try clear c2
   try clear c2b0
   try clear c2b1
   try clear c2b2
   try clear p2
   obtain ⟨x3_1, rfl, HA, HK1, ⟨m1, rfl⟩⟩ := hrel
   cases gk with
   | zero => exact absurd HA.out (by simp [r8_Length.l0])
   | succ k1 =>
    have H := HA.out
    clear HA
    simp only [r8_Length.l0] at H
    obtain ⟨ji3, hji3⟩ : ∃ j_ : Int, (wrap64 ((l0.length : Int) - 1)) = j_ := ⟨_, rfl⟩
    replace H : (if 0 ≤ (ji3) then (if (ji3) < (l0.length : Int) then ((bs_Power.f k1 x3_1).bind fun t139 => (if (rd l0 (ji3)) ≥ t139 then (r8_Length.l0 k1 l0 (wrap64 (x3_1 + 1))) else (some (wrap64 ((wrap64 (16 * (ji3))) + x3_1))))) else (none)) else (none)) = some r := by first | (rw [hji3] at H; exact H) | (simp only [hji3] at H ⊢; exact H)
    have hji3w : (IntKind.i64.wrap ((l0.length : Int) - 1)) = ji3 := (i64_w _).trans hji3
    by_cases c4 : 0 ≤ (ji3)
    ·rw [if_pos c4] at H
     have c4b0 : decide (0 ≤ (ji3)) = true := decide_eq_true c4
     clear c4
     by_cases c5 : (ji3) < (l0.length : Int)
     ·rw [if_pos c5] at H
      have c5b0 : decide ((ji3) < (l0.length : Int)) = true := decide_eq_true c5
      clear c5
      replace H := Option.bind_eq_some_iff.mp H
      obtain ⟨t139, A6, H⟩ := H
      try dsimp only at H
      replace A6 := Zs.mk A6
      by_cases c7 : (rd l0 (ji3)) ≥ t139
      ·rw [if_pos c7] at H
       have c7b0 : decide (t139 ≤ (rd l0 (ji3))) = true := decide_eq_true c7
       clear c7
       have H' := Zs.mk H
       clear H
       have p138 : 0 ≤ ((ji3) : Int) := of_decide_eq_true (by first | (with_reducible assumption) | assumption)
       have q138 : (ji3) < (l0.length : Int) := of_decide_eq_true (by first | (with_reducible assumption) | assumption)
       obtain ⟨ad138, e138, hx138_0⟩ := Kd.at_int HR0.out (ji3) p138 q138
       cases e138
       replace p138 := eq_true p138
       replace q138 := eq_true q138
       go_wp2_with (first | (go_at_call 72; (with_reducible refine (bs_Power.calls k1 x3_1 t139 _ A6.out).mono ?_); rintro e w' ⟨rfl, ⟨nd, rfl⟩⟩; (try first | exact ⟨rfl, _, World.drewN_drewN _ _ _⟩ | exact ⟨rfl, _, Eq.trans (World.drewN_drewN _ _ _) (congrArg (World.drewN _) (Nat.add_assoc _ _ _))⟩)))
       repeat (go_quiet (first | (go_at_call 72; (with_reducible refine (bs_Power.calls k1 x3_1 t139 _ A6.out).mono ?_); rintro e w' ⟨rfl, ⟨nd, rfl⟩⟩; (try first | exact ⟨rfl, _, World.drewN_drewN _ _ _⟩ | exact ⟨rfl, _, Eq.trans (World.drewN_drewN _ _ _) (congrArg (World.drewN _) (Nat.add_assoc _ _ _))⟩))); try go_wp2_with (first | (go_at_call 72; (with_reducible refine (bs_Power.calls k1 x3_1 t139 _ A6.out).mono ?_); rintro e w' ⟨rfl, ⟨nd, rfl⟩⟩; (try first | exact ⟨rfl, _, World.drewN_drewN _ _ _⟩ | exact ⟨rfl, _, Eq.trans (World.drewN_drewN _ _ _) (congrArg (World.drewN _) (Nat.add_assoc _ _ _))⟩))))
       go_roundg k1
       case measure => have := HK1.out; omega
       case rel => exact ⟨(wrap64 (x3_1 + 1)), (by first | rfl | (simp; done) | (simp [*]; done)), H', ⟨by have := HK1.out; omega⟩, by repeat (first | exact Drawn0.refl _ | apply Drawn0.step)⟩
      ·rw [if_neg c7] at H
       have c7b0 : decide (t139 ≤ (rd l0 (ji3))) = false := decide_eq_false c7
       clear c7
       obtain rfl := Option.some.inj H
       have p138 : 0 ≤ ((ji3) : Int) := of_decide_eq_true (by first | (with_reducible assumption) | assumption)
       have q138 : (ji3) < (l0.length : Int) := of_decide_eq_true (by first | (with_reducible assumption) | assumption)
       obtain ⟨ad138, e138, hx138_0⟩ := Kd.at_int HR0.out (ji3) p138 q138
       cases e138
       replace p138 := eq_true p138
       replace q138 := eq_true q138
       go_wp2_with (first | (go_at_call 72; (with_reducible refine (bs_Power.calls k1 x3_1 t139 _ A6.out).mono ?_); rintro e w' ⟨rfl, ⟨nd, rfl⟩⟩; (try first | exact ⟨rfl, _, World.drewN_drewN _ _ _⟩ | exact ⟨rfl, _, Eq.trans (World.drewN_drewN _ _ _) (congrArg (World.drewN _) (Nat.add_assoc _ _ _))⟩)))
       repeat (go_quiet (first | (go_at_call 72; (with_reducible refine (bs_Power.calls k1 x3_1 t139 _ A6.out).mono ?_); rintro e w' ⟨rfl, ⟨nd, rfl⟩⟩; (try first | exact ⟨rfl, _, World.drewN_drewN _ _ _⟩ | exact ⟨rfl, _, Eq.trans (World.drewN_drewN _ _ _) (congrArg (World.drewN _) (Nat.add_assoc _ _ _))⟩))); try go_wp2_with (first | (go_at_call 72; (with_reducible refine (bs_Power.calls k1 x3_1 t139 _ A6.out).mono ?_); rintro e w' ⟨rfl, ⟨nd, rfl⟩⟩; (try first | exact ⟨rfl, _, World.drewN_drewN _ _ _⟩ | exact ⟨rfl, _, Eq.trans (World.drewN_drewN _ _ _) (congrArg (World.drewN _) (Nat.add_assoc _ _ _))⟩))))
       go_ret
       exact ⟨by first | rfl | (simp; done) | (simp only [← hji3] <;> (first | rfl | simp)) | (simp [*]; done), by repeat (first | exact Drawn0.refl _ | apply Drawn0.step)⟩
     ·rw [if_neg c5] at H
      exact absurd H (by simp)
    ·rw [if_neg c4] at H
     exact absurd H (by simp)
end Go.Proofs.YtmoimcblmmcffaaGreatDoor.PN

namespace Go.Proofs.YtmoimcblmmcffaaGreatDoor.PN
open Go.RowKit Go.Proofs.YtmoimcblmmcffaaGreatDoorW.PrintWords Go.Proofs.YtmoimcblmmcffaaGreatDoorW.PrintLast Go.Proofs.YtmoimcblmmcffaaGreatDoorW.PrintMore Go.Proofs.YtmoimcblmmcffaaGreatDoorW.PrintZ
attribute [local go_sem] max2_int min2_int max_two min_two max_three min_three max_four min_four   -- for this text's walks alone
set_option linter.unusedVariables false
set_option linter.unusedSimpArgs false


mutual
def r8_Times.l0 : Nat → List Int → List Int → List Int → Int → Option (List Int)
 | 0, _, _, _, _ => none
 | k + 1, x0, x1, x5, x6 => if x6 < (x0.length : Int) then (r8_Times.l1 k x0 x1 x5 x6 0 0) else ((r8_trim.f k x5).bind fun t143 => (some t143))
def r8_Times.l1 : Nat → List Int → List Int → List Int → Int → Int → Int → Option (List Int)
 | 0, _, _, _, _, _, _ => none
 | k + 1, x0, x1, x5, x6, x7, x8 => if x8 < (x1.length : Int) then (if 0 ≤ (wrap64 (x6 + x8)) then (if (wrap64 (x6 + x8)) < (x5.length : Int) then (if 0 ≤ x6 then (if x6 < (x0.length : Int) then ((r8_digit.f x1 x8).bind fun t148 => (r8_Times.l1 k x0 x1 (x5.set ((wrap64 (x6 + x8)) : Int).toNat (Int.tmod (wrap64 ((wrap64 ((rd x5 (wrap64 (x6 + x8))) + (wrap64 ((rd x0 x6) * t148)))) + x7)) 65536)) x6 (wrap64 (Int.tdiv (wrap64 ((wrap64 ((rd x5 (wrap64 (x6 + x8))) + (wrap64 ((rd x0 x6) * t148)))) + x7)) 65536)) (wrap64 (x8 + 1)))) else (none)) else (none)) else (none)) else (none)) else (if x7 > 0 then (if 0 ≤ (wrap64 (x6 + x8)) then (if (wrap64 (x6 + x8)) < (x5.length : Int) then (if 0 ≤ x6 then (if x6 < (x0.length : Int) then ((r8_digit.f x1 x8).bind fun t152 => (r8_Times.l1 k x0 x1 (x5.set ((wrap64 (x6 + x8)) : Int).toNat (Int.tmod (wrap64 ((wrap64 ((rd x5 (wrap64 (x6 + x8))) + (wrap64 ((rd x0 x6) * t152)))) + x7)) 65536)) x6 (wrap64 (Int.tdiv (wrap64 ((wrap64 ((rd x5 (wrap64 (x6 + x8))) + (wrap64 ((rd x0 x6) * t152)))) + x7)) 65536)) (wrap64 (x8 + 1)))) else (none)) else (none)) else (none)) else (none)) else (r8_Times.l0 k x0 x1 x5 (wrap64 (x6 + 1))))
end
def r8_Times.f (k : Nat) (l0 : List Int) (l1 : List Int) : Option (List Int) := if 0 ≤ (wrap64 ((l0.length : Int) + (l1.length : Int))) then (if (wrap64 ((l0.length : Int) + (l1.length : Int)) : Int).toNat ≤ 35184372088832 then (r8_Times.l0 k l0 l1 (List.replicate (wrap64 ((l0.length : Int) + (l1.length : Int)) : Int).toNat 0) 0) else (none)) else (none)
set_option maxHeartbeats 8000000 in
set_option maxRecDepth 100000 in
theorem r8_Times.calls (k : Nat) (A0 : Option Addr) (c0 : Nat) (l0 : List Int) (A1 : Option Addr) (c1 : Nat) (l1 : List Int) (r : List Int) (w : World) (hr0 : Kd.C (Kd.int .i64) w A0 l0.length l0) (hc0 : l0.length ≤ c0) (hr1 : Kd.C (Kd.int .i64) w A1 l1.length l1) (hc1 : l1.length ≤ c1) (h : r8_Times.f k l0 l1 = some r) :
  Calls Tryz.prog 105 #[.slice A0 l0.length c0, .slice A1 l1.length c1] w fun e w' => ∃ v0_ : Value, e = .returned (v0_) ∧ Kd.R (Kd.int .i64) 3 w' w.heap.size (fun _ => True) v0_ r ∧ Below w.heap.size w w' := by
 have HR0 := Zs.mk hr0
 have HC0 := Zs.mk hc0
 clear hr0 hc0
 have HR1 := Zs.mk hr1
 have HC1 := Zs.mk hc1
 clear hr1 hc1
 have HB := Zs.mk (Below.refl w.heap.size w)
 have H : (if 0 ≤ (wrap64 ((l0.length : Int) + (l1.length : Int))) then (if (wrap64 ((l0.length : Int) + (l1.length : Int)) : Int).toNat ≤ 35184372088832 then (r8_Times.l0 k l0 l1 (List.replicate (wrap64 ((l0.length : Int) + (l1.length : Int)) : Int).toNat 0) 0) else (none)) else (none)) = some r := h
 clear h
 obtain ⟨ji3, hji3⟩ : ∃ j_ : Int, (wrap64 ((l0.length : Int) + (l1.length : Int))) = j_ := ⟨_, rfl⟩
 replace H : (if 0 ≤ (ji3) then (if (ji3 : Int).toNat ≤ 35184372088832 then (r8_Times.l0 k l0 l1 (List.replicate (ji3 : Int).toNat 0) 0) else (none)) else (none)) = some r := by first | (rw [hji3] at H; exact H) | (simp only [hji3] at H ⊢; exact H)
 have hji3w : (IntKind.i64.wrap ((l0.length : Int) + (l1.length : Int))) = ji3 := (i64_w _).trans hji3
 by_cases c4 : 0 ≤ (ji3)
 ·rw [if_pos c4] at H
  have c4b0 := eq_true c4
  have c4b1 : decide (0 ≤ (ji3)) = true := decide_eq_true c4
  clear c4
  by_cases c5 : (ji3 : Int).toNat ≤ 35184372088832
  ·rw [if_pos c5] at H
   have c5b0 := eq_true c5
   have c5b1 : decide ((ji3 : Int).toNat ≤ 35184372088832) = true := decide_eq_true c5
   clear c5
   obtain ⟨y140, hy140⟩ : ∃ y_ : List Int, y_ = (List.replicate (ji3 : Int).toNat 0) := ⟨_, rfl⟩
   replace H : (r8_Times.l0 k l0 l1 y140 0) = some r := by first | (rw [hy140]; with_reducible exact H) | (have H2_ := (Option.bind_some _ _).symm.trans H; rw [hy140]; with_reducible exact H2_) | (have H2_ := (Option.bind_some _ _).symm.trans H; with_reducible exact H2_) | with_reducible exact H | (rw [hy140]; exact H) | exact H
   have Ny140 := Zs.mk hy140
   clear hy140
   have H' := Zs.mk H
   clear H
   go_enter Tryz.func105, Tryz.ntmps105
   go_wp2_with (first | ((with_reducible refine gd_ (N := 15) rfl ?_); refine Kd.R_make (Kd.int .i64) _ 3 rfl (N := 15) rfl 69 _ _ rfl ji3 rfl rfl Tryz.underlying69 (.int .i64 0) 8 info3 rfl (by decide) (by omega) 0 (ok := fun _ => True) (okp := fun _ => True) rfl (fun _ hk => hk) trivial (of_decide_eq_true (by first | (with_reducible assumption) | assumption)) (Nat.le_trans (Nat.mul_le_mul_right _ (of_decide_eq_true (by first | (with_reducible assumption) | assumption) : ji3.toNat ≤ 35184372088832)) (by omega)) (Below.refl _ _) (Nat.le_refl _) ?_; intro v141 w6 ho7 hb hg_ hnew_; clear hg_ hnew_; (first | rw [← Ny140.out] at ho7 | (simp only [Int.reduceToNat] at ho7; rw [← Ny140.out] at ho7)); have HO142 := Zs.mk (Kd.R_lower ho7 (below_size (blt HB).out)); replace HB := bls HB hb; clear hb ho7))
   repeat (go_quiet (first | ((with_reducible refine gd_ (N := 15) rfl ?_); refine Kd.R_make (Kd.int .i64) _ 3 rfl (N := 15) rfl 69 _ _ rfl ji3 rfl rfl Tryz.underlying69 (.int .i64 0) 8 info3 rfl (by decide) (by omega) 0 (ok := fun _ => True) (okp := fun _ => True) rfl (fun _ hk => hk) trivial (of_decide_eq_true (by first | (with_reducible assumption) | assumption)) (Nat.le_trans (Nat.mul_le_mul_right _ (of_decide_eq_true (by first | (with_reducible assumption) | assumption) : ji3.toNat ≤ 35184372088832)) (by omega)) (Below.refl _ _) (Nat.le_refl _) ?_; intro v141 w6 ho7 hb hg_ hnew_; clear hg_ hnew_; (first | rw [← Ny140.out] at ho7 | (simp only [Int.reduceToNat] at ho7; rw [← Ny140.out] at ho7)); have HO142 := Zs.mk (Kd.R_lower ho7 (below_size (blt HB).out)); replace HB := bls HB hb; clear hb ho7)); try go_wp2_with (first | ((with_reducible refine gd_ (N := 15) rfl ?_); refine Kd.R_make (Kd.int .i64) _ 3 rfl (N := 15) rfl 69 _ _ rfl ji3 rfl rfl Tryz.underlying69 (.int .i64 0) 8 info3 rfl (by decide) (by omega) 0 (ok := fun _ => True) (okp := fun _ => True) rfl (fun _ hk => hk) trivial (of_decide_eq_true (by first | (with_reducible assumption) | assumption)) (Nat.le_trans (Nat.mul_le_mul_right _ (of_decide_eq_true (by first | (with_reducible assumption) | assumption) : ji3.toNat ≤ 35184372088832)) (by omega)) (Below.refl _ _) (Nat.le_refl _) ?_; intro v141 w6 ho7 hb hg_ hnew_; clear hg_ hnew_; (first | rw [← Ny140.out] at ho7 | (simp only [Int.reduceToNat] at ho7; rw [← Ny140.out] at ho7)); have HO142 := Zs.mk (Kd.R_lower ho7 (below_size (blt HB).out)); replace HB := bls HB hb; clear hb ho7)))
   go_loopg [6] k (fun kq v6 w' => ∃ (x5_1 : List Int) (x6_1 : Int), v6 = .int .i64 x6_1 ∧ Zs (r8_Times.l0 kq l0 l1 x5_1 x6_1 = some r) ∧ Zs (kq ≤ k) ∧ Zs (Kd.R (Kd.int .i64) 3 w' w.heap.size (fun _ => True) v141 x5_1) ∧ Zs (Below w.heap.size w w'))
   case atStart => exact ⟨(y140), (0), (by first | rfl | (simp; done) | (simp [*]; done)), H', ⟨Nat.le_refl _⟩, ⟨by (with_reducible repeat (first | apply Kd.R_alloc | apply Kd.R_drewN | apply Kd.R_drew)); exact HO142.out⟩, blt HB⟩
   case round =>
    clear H'
    try clear c1
    try clear p2
    try clear c4
    try clear c4b0
    try clear c4b1
    try clear c5
    try clear c5b0
    try clear c5b1
    try clear p6
    obtain ⟨x5_1, x6_1, rfl, HA, HK1, HO_5, HB⟩ := hrel
    cases gk with
    | zero => exact absurd HA.out (by simp [r8_Times.l0])
    | succ k1 =>
     have H := HA.out
     clear HA
     simp only [r8_Times.l0] at H
     by_cases c8 : x6_1 < (l0.length : Int)
     ·rw [if_pos c8] at H
      have c8b0 : decide (x6_1 < (l0.length : Int)) = true := decide_eq_true c8
      clear c8
      have H' := Zs.mk H
      clear H
      go_wp2
      repeat (go_quiet (fail); try go_wp2)
      go_loopg [7, 8] k1 (fun kq v7 v8 w' => ∃ (x5_2 : List Int) (x7_2 : Int) (x8_2 : Int), v7 = .int .i64 x7_2 ∧ v8 = .int .i64 x8_2 ∧ Zs (r8_Times.l1 kq l0 l1 x5_2 x6_1 x7_2 x8_2 = some r) ∧ Zs (kq ≤ k1) ∧ Zs (Kd.R (Kd.int .i64) 3 w' w.heap.size (fun _ => True) v141 x5_2) ∧ Zs (Below w.heap.size w w'))
      case atStart => exact ⟨(x5_1), (0), (0), (by first | rfl | (simp; done) | (simp [*]; done)), (by first | rfl | (simp; done) | (simp [*]; done)), H', ⟨Nat.le_refl _⟩, ⟨by (with_reducible repeat (first | apply Kd.R_alloc | apply Kd.R_drewN | apply Kd.R_drew)); exact HO_5.out⟩, blt HB⟩
      case round =>
       clear H'
       try clear c1
       try clear p2
       try clear c4
       try clear c4b0
       try clear c4b1
       try clear c5
       try clear c5b0
       try clear c5b1
       try clear p6
       try clear c8
       try clear c8b0
       try clear p2
       try clear p6
       obtain ⟨x5_2, x7_2, x8_2, rfl, rfl, HA, HK2, HO_5, HB⟩ := hrel
       cases gk with
       | zero => exact absurd HA.out (by simp [r8_Times.l1])
       | succ k2 =>
        have H := HA.out
        clear HA
        simp only [r8_Times.l1] at H
        by_cases c9 : x8_2 < (l1.length : Int)
        ·rw [if_pos c9] at H
         have c9b0 : decide (x8_2 < (l1.length : Int)) = true := decide_eq_true c9
         clear c9
         obtain ⟨ji10, hji10⟩ : ∃ j_ : Int, (wrap64 (x6_1 + x8_2)) = j_ := ⟨_, rfl⟩
         replace H : (if 0 ≤ (ji10) then (if (ji10) < (x5_2.length : Int) then (if 0 ≤ x6_1 then (if x6_1 < (l0.length : Int) then ((r8_digit.f l1 x8_2).bind fun t148 => (r8_Times.l1 k2 l0 l1 (x5_2.set ((ji10) : Int).toNat (Int.tmod (wrap64 ((wrap64 ((rd x5_2 (ji10)) + (wrap64 ((rd l0 x6_1) * t148)))) + x7_2)) 65536)) x6_1 (wrap64 (Int.tdiv (wrap64 ((wrap64 ((rd x5_2 (ji10)) + (wrap64 ((rd l0 x6_1) * t148)))) + x7_2)) 65536)) (wrap64 (x8_2 + 1)))) else (none)) else (none)) else (none)) else (none)) = some r := by first | (rw [hji10] at H; exact H) | (simp only [hji10] at H ⊢; exact H)
         have hji10w : (IntKind.i64.wrap (x6_1 + x8_2)) = ji10 := (i64_w _).trans hji10
         by_cases c11 : 0 ≤ (ji10)
         ·rw [if_pos c11] at H
          have c11b0 : decide (0 ≤ (ji10)) = true := decide_eq_true c11
          clear c11
          by_cases c12 : (ji10) < (x5_2.length : Int)
          ·rw [if_pos c12] at H
           have c12b0 : decide ((ji10) < (x5_2.length : Int)) = true := decide_eq_true c12
           clear c12
           by_cases c13 : 0 ≤ x6_1
           ·rw [if_pos c13] at H
            have c13b0 : decide (0 ≤ x6_1) = true := decide_eq_true c13
            clear c13
            by_cases c14 : x6_1 < (l0.length : Int)
            ·rw [if_pos c14] at H
             have c14b0 : decide (x6_1 < (l0.length : Int)) = true := decide_eq_true c14
             clear c14
             replace H := Option.bind_eq_some_iff.mp H
             obtain ⟨t148, A15, H⟩ := H
             try dsimp only at H
             replace A15 := Zs.mk A15
             obtain ⟨y149, hy149⟩ : ∃ y_ : List Int, y_ = (x5_2.set ((ji10) : Int).toNat (Int.tmod (wrap64 ((wrap64 ((rd x5_2 (ji10)) + (wrap64 ((rd l0 x6_1) * t148)))) + x7_2)) 65536)) := ⟨_, rfl⟩
             replace H : (r8_Times.l1 k2 l0 l1 y149 x6_1 (wrap64 (Int.tdiv (wrap64 ((wrap64 ((rd x5_2 (ji10)) + (wrap64 ((rd l0 x6_1) * t148)))) + x7_2)) 65536)) (wrap64 (x8_2 + 1))) = some r := by first | (rw [hy149]; with_reducible exact H) | (have H2_ := (Option.bind_some _ _).symm.trans H; rw [hy149]; with_reducible exact H2_) | (have H2_ := (Option.bind_some _ _).symm.trans H; with_reducible exact H2_) | with_reducible exact H | (rw [hy149]; exact H) | exact H
             have Ny149 := Zs.mk hy149
             clear hy149
             have H' := Zs.mk H
             clear H
             obtain ⟨Ao17, co17, eo17⟩ := Kd.R_slice HO_5.out
             subst eo17
             have p146 : 0 ≤ ((ji10) : Int) := of_decide_eq_true (by first | (with_reducible assumption) | assumption)
             have q146 : (ji10) < (x5_2.length : Int) := of_decide_eq_true (by first | (with_reducible assumption) | assumption)
             obtain ⟨ad146, e146, hx146_0⟩ := Kd.at_int (Kd.R_reads' HO_5.out).2.2 (ji10) p146 q146
             cases e146
             replace p146 := eq_true p146
             replace q146 := eq_true q146
             have p147 : 0 ≤ (x6_1 : Int) := of_decide_eq_true (by first | (with_reducible assumption) | assumption)
             have q147 : x6_1 < (l0.length : Int) := of_decide_eq_true (by first | (with_reducible assumption) | assumption)
             obtain ⟨ad147, e147, hx147_0⟩ := Kd.at_int HR0.out x6_1 p147 q147
             cases e147
             replace hx147_0 := (HB.out.cell (World.block_lt_of_cell? w _ hx147_0)).trans hx147_0
             replace p147 := eq_true p147
             replace q147 := eq_true q147
             go_wp2_with (first | (go_at_call 81; (with_reducible refine (r8_digit.calls _ _ l1 x8_2 t148 _ ?side1 ?side2 A15.out).mono ?_); (case side1 => repeat (first | exact (Kd.C_below HR1.out HB.out) | (with_reducible refine Kd.C_alloc ?_ _) | (with_reducible refine Kd.C_drewN ?_ _) | (with_reducible refine Kd.C_drew ?_))); (case side2 => exact HC1.out); rintro e w' ⟨rfl, ⟨nd, rfl⟩⟩; (try first | exact ⟨rfl, _, World.drewN_drewN _ _ _⟩ | exact ⟨rfl, _, Eq.trans (World.drewN_drewN _ _ _) (congrArg (World.drewN _) (Nat.add_assoc _ _ _))⟩); have p16 : 0 ≤ ((ji10) : Int) := of_decide_eq_true (by first | (with_reducible assumption) | assumption); have q16 : ((ji10) : Int) < ((x5_2.length : Int) : Int) := of_decide_eq_true (by first | (with_reducible assumption) | assumption); obtain ⟨go16, co16, eo16, gb16, gl16, cl16, HG16⟩ := Kd.R_form HO_5.out (by omega); (first | cases eo16 | (injection eo16 with ea_ en_ ec_; (first | subst ea_ | (injection ea_ with ea_; subst ea_)); subst ec_; clear en_)); have GB16 := Zs.mk gb16; have GG16 := Zs.mk HG16; clear gb16 gl16 HG16; (first | simp only [add_plain] at hx146_0 | skip); obtain ⟨hx16_0, hf16_0⟩ := Kd.R_celln 0 HO_5.out ((ji10) : Int) p16 q16; replace p16 := eq_true p16; replace q16 := eq_true q16; obtain ⟨hy18_, hz18_⟩ := Kd.R_celln 0 HO_5.out ((ji10) : Int) (of_decide_eq_true (by first | (with_reducible assumption) | assumption)) (of_decide_eq_true (by first | (with_reducible assumption) | assumption)); have HP18 := Kd.R_putg HO_5.out ((ji10) : Int) (Int.tmod (wrap64 ((wrap64 ((rd x5_2 (ji10)) + (wrap64 ((rd l0 x6_1) * t148)))) + x7_2)) 65536)) | ((with_reducible refine gate_store (t := 3) (p := 55) rfl ?_); (try (rw [drewN_self wr]; generalize hq_ : World.drewN wr _ = wr; have n0_ := Zs.mk (Kd.R_at hq_ HO_5.out); have n1_ := Zs.mk (below_at hq_ HB.out); clear hq_ HO_5 HB; have HO_5 := n0_; have HB := n1_; clear n0_ n1_; (try (obtain ⟨hy18_, hz18_⟩ := Kd.R_celln 0 HO_5.out ((ji10) : Int) (of_decide_eq_true (by first | (with_reducible assumption) | assumption)) (of_decide_eq_true (by first | (with_reducible assumption) | assumption)))); (try (have HP18 := Kd.R_putg HO_5.out ((ji10) : Int) (Int.tmod (wrap64 ((wrap64 ((rd x5_2 (ji10)) + (wrap64 ((rd l0 x6_1) * t148)))) + x7_2)) 65536))))); refine store_event (t := 3) (p := 55) (v := ?vo_w19) (w1 := (wr.setCell ⟨go16, ((ji10) : Int).toNat, none⟩ (.int .i64 (Int.tmod (wrap64 ((wrap64 ((rd x5_2 (ji10)) + (wrap64 ((rd l0 x6_1) * t148)))) + x7_2)) 65536)))) ?hg ?ho ?hn ?hr ?_; (case ho => rfl); (case hg => rfl); (case hn => rfl); (case hr => first | (go_simp; done) | (go_simp; rfl)); intro w19 hw; have hg : wr.grownBy w19 (some go16) := (by rw [hw]; exact HP18.2); have hp_ : Kd.R (Kd.int .i64) 3 w19 w.heap.size (fun _ => True) (.slice (some ⟨go16, 0, none⟩) x5_2.length co17) y149 := (by rw [hw, Ny149.out]; exact HP18.1); clear HP18; replace HO_5 := Zs.mk (hp_); replace HB := Zs.mk ((by rw [hw]; exact below_set (HB.out) GB16.out : Below w.heap.size w w19)); clear hg hw hp_))
             repeat (go_quiet (first | (go_at_call 81; (with_reducible refine (r8_digit.calls _ _ l1 x8_2 t148 _ ?side1 ?side2 A15.out).mono ?_); (case side1 => repeat (first | exact (Kd.C_below HR1.out HB.out) | (with_reducible refine Kd.C_alloc ?_ _) | (with_reducible refine Kd.C_drewN ?_ _) | (with_reducible refine Kd.C_drew ?_))); (case side2 => exact HC1.out); rintro e w' ⟨rfl, ⟨nd, rfl⟩⟩; (try first | exact ⟨rfl, _, World.drewN_drewN _ _ _⟩ | exact ⟨rfl, _, Eq.trans (World.drewN_drewN _ _ _) (congrArg (World.drewN _) (Nat.add_assoc _ _ _))⟩); have p16 : 0 ≤ ((ji10) : Int) := of_decide_eq_true (by first | (with_reducible assumption) | assumption); have q16 : ((ji10) : Int) < ((x5_2.length : Int) : Int) := of_decide_eq_true (by first | (with_reducible assumption) | assumption); obtain ⟨go16, co16, eo16, gb16, gl16, cl16, HG16⟩ := Kd.R_form HO_5.out (by omega); (first | cases eo16 | (injection eo16 with ea_ en_ ec_; (first | subst ea_ | (injection ea_ with ea_; subst ea_)); subst ec_; clear en_)); have GB16 := Zs.mk gb16; have GG16 := Zs.mk HG16; clear gb16 gl16 HG16; (first | simp only [add_plain] at hx146_0 | skip); obtain ⟨hx16_0, hf16_0⟩ := Kd.R_celln 0 HO_5.out ((ji10) : Int) p16 q16; replace p16 := eq_true p16; replace q16 := eq_true q16; obtain ⟨hy18_, hz18_⟩ := Kd.R_celln 0 HO_5.out ((ji10) : Int) (of_decide_eq_true (by first | (with_reducible assumption) | assumption)) (of_decide_eq_true (by first | (with_reducible assumption) | assumption)); have HP18 := Kd.R_putg HO_5.out ((ji10) : Int) (Int.tmod (wrap64 ((wrap64 ((rd x5_2 (ji10)) + (wrap64 ((rd l0 x6_1) * t148)))) + x7_2)) 65536)) | ((with_reducible refine gate_store (t := 3) (p := 55) rfl ?_); (try (rw [drewN_self wr]; generalize hq_ : World.drewN wr _ = wr; have n0_ := Zs.mk (Kd.R_at hq_ HO_5.out); have n1_ := Zs.mk (below_at hq_ HB.out); clear hq_ HO_5 HB; have HO_5 := n0_; have HB := n1_; clear n0_ n1_; (try (obtain ⟨hy18_, hz18_⟩ := Kd.R_celln 0 HO_5.out ((ji10) : Int) (of_decide_eq_true (by first | (with_reducible assumption) | assumption)) (of_decide_eq_true (by first | (with_reducible assumption) | assumption)))); (try (have HP18 := Kd.R_putg HO_5.out ((ji10) : Int) (Int.tmod (wrap64 ((wrap64 ((rd x5_2 (ji10)) + (wrap64 ((rd l0 x6_1) * t148)))) + x7_2)) 65536))))); refine store_event (t := 3) (p := 55) (v := ?vo_w19) (w1 := (wr.setCell ⟨go16, ((ji10) : Int).toNat, none⟩ (.int .i64 (Int.tmod (wrap64 ((wrap64 ((rd x5_2 (ji10)) + (wrap64 ((rd l0 x6_1) * t148)))) + x7_2)) 65536)))) ?hg ?ho ?hn ?hr ?_; (case ho => rfl); (case hg => rfl); (case hn => rfl); (case hr => first | (go_simp; done) | (go_simp; rfl)); intro w19 hw; have hg : wr.grownBy w19 (some go16) := (by rw [hw]; exact HP18.2); have hp_ : Kd.R (Kd.int .i64) 3 w19 w.heap.size (fun _ => True) (.slice (some ⟨go16, 0, none⟩) x5_2.length co17) y149 := (by rw [hw, Ny149.out]; exact HP18.1); clear HP18; replace HO_5 := Zs.mk (hp_); replace HB := Zs.mk ((by rw [hw]; exact below_set (HB.out) GB16.out : Below w.heap.size w w19)); clear hg hw hp_)); try go_wp2_with (first | (go_at_call 81; (with_reducible refine (r8_digit.calls _ _ l1 x8_2 t148 _ ?side1 ?side2 A15.out).mono ?_); (case side1 => repeat (first | exact (Kd.C_below HR1.out HB.out) | (with_reducible refine Kd.C_alloc ?_ _) | (with_reducible refine Kd.C_drewN ?_ _) | (with_reducible refine Kd.C_drew ?_))); (case side2 => exact HC1.out); rintro e w' ⟨rfl, ⟨nd, rfl⟩⟩; (try first | exact ⟨rfl, _, World.drewN_drewN _ _ _⟩ | exact ⟨rfl, _, Eq.trans (World.drewN_drewN _ _ _) (congrArg (World.drewN _) (Nat.add_assoc _ _ _))⟩); have p16 : 0 ≤ ((ji10) : Int) := of_decide_eq_true (by first | (with_reducible assumption) | assumption); have q16 : ((ji10) : Int) < ((x5_2.length : Int) : Int) := of_decide_eq_true (by first | (with_reducible assumption) | assumption); obtain ⟨go16, co16, eo16, gb16, gl16, cl16, HG16⟩ := Kd.R_form HO_5.out (by omega); (first | cases eo16 | (injection eo16 with ea_ en_ ec_; (first | subst ea_ | (injection ea_ with ea_; subst ea_)); subst ec_; clear en_)); have GB16 := Zs.mk gb16; have GG16 := Zs.mk HG16; clear gb16 gl16 HG16; (first | simp only [add_plain] at hx146_0 | skip); obtain ⟨hx16_0, hf16_0⟩ := Kd.R_celln 0 HO_5.out ((ji10) : Int) p16 q16; replace p16 := eq_true p16; replace q16 := eq_true q16; obtain ⟨hy18_, hz18_⟩ := Kd.R_celln 0 HO_5.out ((ji10) : Int) (of_decide_eq_true (by first | (with_reducible assumption) | assumption)) (of_decide_eq_true (by first | (with_reducible assumption) | assumption)); have HP18 := Kd.R_putg HO_5.out ((ji10) : Int) (Int.tmod (wrap64 ((wrap64 ((rd x5_2 (ji10)) + (wrap64 ((rd l0 x6_1) * t148)))) + x7_2)) 65536)) | ((with_reducible refine gate_store (t := 3) (p := 55) rfl ?_); (try (rw [drewN_self wr]; generalize hq_ : World.drewN wr _ = wr; have n0_ := Zs.mk (Kd.R_at hq_ HO_5.out); have n1_ := Zs.mk (below_at hq_ HB.out); clear hq_ HO_5 HB; have HO_5 := n0_; have HB := n1_; clear n0_ n1_; (try (obtain ⟨hy18_, hz18_⟩ := Kd.R_celln 0 HO_5.out ((ji10) : Int) (of_decide_eq_true (by first | (with_reducible assumption) | assumption)) (of_decide_eq_true (by first | (with_reducible assumption) | assumption)))); (try (have HP18 := Kd.R_putg HO_5.out ((ji10) : Int) (Int.tmod (wrap64 ((wrap64 ((rd x5_2 (ji10)) + (wrap64 ((rd l0 x6_1) * t148)))) + x7_2)) 65536))))); refine store_event (t := 3) (p := 55) (v := ?vo_w19) (w1 := (wr.setCell ⟨go16, ((ji10) : Int).toNat, none⟩ (.int .i64 (Int.tmod (wrap64 ((wrap64 ((rd x5_2 (ji10)) + (wrap64 ((rd l0 x6_1) * t148)))) + x7_2)) 65536)))) ?hg ?ho ?hn ?hr ?_; (case ho => rfl); (case hg => rfl); (case hn => rfl); (case hr => first | (go_simp; done) | (go_simp; rfl)); intro w19 hw; have hg : wr.grownBy w19 (some go16) := (by rw [hw]; exact HP18.2); have hp_ : Kd.R (Kd.int .i64) 3 w19 w.heap.size (fun _ => True) (.slice (some ⟨go16, 0, none⟩) x5_2.length co17) y149 := (by rw [hw, Ny149.out]; exact HP18.1); clear HP18; replace HO_5 := Zs.mk (hp_); replace HB := Zs.mk ((by rw [hw]; exact below_set (HB.out) GB16.out : Below w.heap.size w w19)); clear hg hw hp_)))
             go_roundg k2
             case measure => have := HK1.out; have := HK2.out; omega
             case rel => exact ⟨(y149), (wrap64 (Int.tdiv (wrap64 ((wrap64 ((rd x5_2 (ji10)) + (wrap64 ((rd l0 x6_1) * t148)))) + x7_2)) 65536)), (wrap64 (x8_2 + 1)), (by first | rfl | (simp; done) | (simp only [← hji10] <;> (first | rfl | simp)) | (simp [*]; done)), (by first | rfl | (simp; done) | (simp [*]; done)), H', ⟨by have := HK1.out; have := HK2.out; omega⟩, ⟨by (with_reducible repeat (first | apply Kd.R_alloc | apply Kd.R_drewN | apply Kd.R_drew)); exact HO_5.out⟩, blt HB⟩
            ·rw [if_neg c14] at H
             exact absurd H (by simp)
           ·rw [if_neg c13] at H
            exact absurd H (by simp)
          ·rw [if_neg c12] at H
           exact absurd H (by simp)
         ·rw [if_neg c11] at H
          exact absurd H (by simp)
        ·rw [if_neg c9] at H
         have c9b0 : decide (x8_2 < (l1.length : Int)) = false := decide_eq_false c9
         clear c9
         by_cases c20 : x7_2 > 0
         ·rw [if_pos c20] at H
          have c20b0 : decide (0 < x7_2) = true := decide_eq_true c20
          clear c20
          obtain ⟨ji21, hji21⟩ : ∃ j_ : Int, (wrap64 (x6_1 + x8_2)) = j_ := ⟨_, rfl⟩
          replace H : (if 0 ≤ (ji21) then (if (ji21) < (x5_2.length : Int) then (if 0 ≤ x6_1 then (if x6_1 < (l0.length : Int) then ((r8_digit.f l1 x8_2).bind fun t152 => (r8_Times.l1 k2 l0 l1 (x5_2.set ((ji21) : Int).toNat (Int.tmod (wrap64 ((wrap64 ((rd x5_2 (ji21)) + (wrap64 ((rd l0 x6_1) * t152)))) + x7_2)) 65536)) x6_1 (wrap64 (Int.tdiv (wrap64 ((wrap64 ((rd x5_2 (ji21)) + (wrap64 ((rd l0 x6_1) * t152)))) + x7_2)) 65536)) (wrap64 (x8_2 + 1)))) else (none)) else (none)) else (none)) else (none)) = some r := by first | (rw [hji21] at H; exact H) | (simp only [hji21] at H ⊢; exact H)
          have hji21w : (IntKind.i64.wrap (x6_1 + x8_2)) = ji21 := (i64_w _).trans hji21
          by_cases c22 : 0 ≤ (ji21)
          ·rw [if_pos c22] at H
           have c22b0 : decide (0 ≤ (ji21)) = true := decide_eq_true c22
           clear c22
           by_cases c23 : (ji21) < (x5_2.length : Int)
           ·rw [if_pos c23] at H
            have c23b0 : decide ((ji21) < (x5_2.length : Int)) = true := decide_eq_true c23
            clear c23
            by_cases c24 : 0 ≤ x6_1
            ·rw [if_pos c24] at H
             have c24b0 : decide (0 ≤ x6_1) = true := decide_eq_true c24
             clear c24
             by_cases c25 : x6_1 < (l0.length : Int)
             ·rw [if_pos c25] at H
              have c25b0 : decide (x6_1 < (l0.length : Int)) = true := decide_eq_true c25
              clear c25
              replace H := Option.bind_eq_some_iff.mp H
              obtain ⟨t152, A26, H⟩ := H
              try dsimp only at H
              replace A26 := Zs.mk A26
              obtain ⟨y153, hy153⟩ : ∃ y_ : List Int, y_ = (x5_2.set ((ji21) : Int).toNat (Int.tmod (wrap64 ((wrap64 ((rd x5_2 (ji21)) + (wrap64 ((rd l0 x6_1) * t152)))) + x7_2)) 65536)) := ⟨_, rfl⟩
              replace H : (r8_Times.l1 k2 l0 l1 y153 x6_1 (wrap64 (Int.tdiv (wrap64 ((wrap64 ((rd x5_2 (ji21)) + (wrap64 ((rd l0 x6_1) * t152)))) + x7_2)) 65536)) (wrap64 (x8_2 + 1))) = some r := by first | (rw [hy153]; with_reducible exact H) | (have H2_ := (Option.bind_some _ _).symm.trans H; rw [hy153]; with_reducible exact H2_) | (have H2_ := (Option.bind_some _ _).symm.trans H; with_reducible exact H2_) | with_reducible exact H | (rw [hy153]; exact H) | exact H
              have Ny153 := Zs.mk hy153
              clear hy153
              have H' := Zs.mk H
              clear H
              obtain ⟨Ao28, co28, eo28⟩ := Kd.R_slice HO_5.out
              subst eo28
              have p150 : 0 ≤ ((ji21) : Int) := of_decide_eq_true (by first | (with_reducible assumption) | assumption)
              have q150 : (ji21) < (x5_2.length : Int) := of_decide_eq_true (by first | (with_reducible assumption) | assumption)
              obtain ⟨ad150, e150, hx150_0⟩ := Kd.at_int (Kd.R_reads' HO_5.out).2.2 (ji21) p150 q150
              cases e150
              replace p150 := eq_true p150
              replace q150 := eq_true q150
              have p151 : 0 ≤ (x6_1 : Int) := of_decide_eq_true (by first | (with_reducible assumption) | assumption)
              have q151 : x6_1 < (l0.length : Int) := of_decide_eq_true (by first | (with_reducible assumption) | assumption)
              obtain ⟨ad151, e151, hx151_0⟩ := Kd.at_int HR0.out x6_1 p151 q151
              cases e151
              replace hx151_0 := (HB.out.cell (World.block_lt_of_cell? w _ hx151_0)).trans hx151_0
              replace p151 := eq_true p151
              replace q151 := eq_true q151
              go_wp2_with (first | (go_at_call 81; (with_reducible refine (r8_digit.calls _ _ l1 x8_2 t152 _ ?side1 ?side2 A26.out).mono ?_); (case side1 => repeat (first | exact (Kd.C_below HR1.out HB.out) | (with_reducible refine Kd.C_alloc ?_ _) | (with_reducible refine Kd.C_drewN ?_ _) | (with_reducible refine Kd.C_drew ?_))); (case side2 => exact HC1.out); rintro e w' ⟨rfl, ⟨nd, rfl⟩⟩; (try first | exact ⟨rfl, _, World.drewN_drewN _ _ _⟩ | exact ⟨rfl, _, Eq.trans (World.drewN_drewN _ _ _) (congrArg (World.drewN _) (Nat.add_assoc _ _ _))⟩); have p27 : 0 ≤ ((ji21) : Int) := of_decide_eq_true (by first | (with_reducible assumption) | assumption); have q27 : ((ji21) : Int) < ((x5_2.length : Int) : Int) := of_decide_eq_true (by first | (with_reducible assumption) | assumption); obtain ⟨go27, co27, eo27, gb27, gl27, cl27, HG27⟩ := Kd.R_form HO_5.out (by omega); (first | cases eo27 | (injection eo27 with ea_ en_ ec_; (first | subst ea_ | (injection ea_ with ea_; subst ea_)); subst ec_; clear en_)); have GB27 := Zs.mk gb27; have GG27 := Zs.mk HG27; clear gb27 gl27 HG27; (first | simp only [add_plain] at hx150_0 | skip); obtain ⟨hx27_0, hf27_0⟩ := Kd.R_celln 0 HO_5.out ((ji21) : Int) p27 q27; replace p27 := eq_true p27; replace q27 := eq_true q27; obtain ⟨hy29_, hz29_⟩ := Kd.R_celln 0 HO_5.out ((ji21) : Int) (of_decide_eq_true (by first | (with_reducible assumption) | assumption)) (of_decide_eq_true (by first | (with_reducible assumption) | assumption)); have HP29 := Kd.R_putg HO_5.out ((ji21) : Int) (Int.tmod (wrap64 ((wrap64 ((rd x5_2 (ji21)) + (wrap64 ((rd l0 x6_1) * t152)))) + x7_2)) 65536)) | ((with_reducible refine gate_store (t := 3) (p := 55) rfl ?_); (try (rw [drewN_self wr]; generalize hq_ : World.drewN wr _ = wr; have n0_ := Zs.mk (Kd.R_at hq_ HO_5.out); have n1_ := Zs.mk (below_at hq_ HB.out); clear hq_ HO_5 HB; have HO_5 := n0_; have HB := n1_; clear n0_ n1_; (try (obtain ⟨hy29_, hz29_⟩ := Kd.R_celln 0 HO_5.out ((ji21) : Int) (of_decide_eq_true (by first | (with_reducible assumption) | assumption)) (of_decide_eq_true (by first | (with_reducible assumption) | assumption)))); (try (have HP29 := Kd.R_putg HO_5.out ((ji21) : Int) (Int.tmod (wrap64 ((wrap64 ((rd x5_2 (ji21)) + (wrap64 ((rd l0 x6_1) * t152)))) + x7_2)) 65536))))); refine store_event (t := 3) (p := 55) (v := ?vo_w30) (w1 := (wr.setCell ⟨go27, ((ji21) : Int).toNat, none⟩ (.int .i64 (Int.tmod (wrap64 ((wrap64 ((rd x5_2 (ji21)) + (wrap64 ((rd l0 x6_1) * t152)))) + x7_2)) 65536)))) ?hg ?ho ?hn ?hr ?_; (case ho => rfl); (case hg => rfl); (case hn => rfl); (case hr => first | (go_simp; done) | (go_simp; rfl)); intro w30 hw; have hg : wr.grownBy w30 (some go27) := (by rw [hw]; exact HP29.2); have hp_ : Kd.R (Kd.int .i64) 3 w30 w.heap.size (fun _ => True) (.slice (some ⟨go27, 0, none⟩) x5_2.length co28) y153 := (by rw [hw, Ny153.out]; exact HP29.1); clear HP29; replace HO_5 := Zs.mk (hp_); replace HB := Zs.mk ((by rw [hw]; exact below_set (HB.out) GB27.out : Below w.heap.size w w30)); clear hg hw hp_))
              repeat (go_quiet (first | (go_at_call 81; (with_reducible refine (r8_digit.calls _ _ l1 x8_2 t152 _ ?side1 ?side2 A26.out).mono ?_); (case side1 => repeat (first | exact (Kd.C_below HR1.out HB.out) | (with_reducible refine Kd.C_alloc ?_ _) | (with_reducible refine Kd.C_drewN ?_ _) | (with_reducible refine Kd.C_drew ?_))); (case side2 => exact HC1.out); rintro e w' ⟨rfl, ⟨nd, rfl⟩⟩; (try first | exact ⟨rfl, _, World.drewN_drewN _ _ _⟩ | exact ⟨rfl, _, Eq.trans (World.drewN_drewN _ _ _) (congrArg (World.drewN _) (Nat.add_assoc _ _ _))⟩); have p27 : 0 ≤ ((ji21) : Int) := of_decide_eq_true (by first | (with_reducible assumption) | assumption); have q27 : ((ji21) : Int) < ((x5_2.length : Int) : Int) := of_decide_eq_true (by first | (with_reducible assumption) | assumption); obtain ⟨go27, co27, eo27, gb27, gl27, cl27, HG27⟩ := Kd.R_form HO_5.out (by omega); (first | cases eo27 | (injection eo27 with ea_ en_ ec_; (first | subst ea_ | (injection ea_ with ea_; subst ea_)); subst ec_; clear en_)); have GB27 := Zs.mk gb27; have GG27 := Zs.mk HG27; clear gb27 gl27 HG27; (first | simp only [add_plain] at hx150_0 | skip); obtain ⟨hx27_0, hf27_0⟩ := Kd.R_celln 0 HO_5.out ((ji21) : Int) p27 q27; replace p27 := eq_true p27; replace q27 := eq_true q27; obtain ⟨hy29_, hz29_⟩ := Kd.R_celln 0 HO_5.out ((ji21) : Int) (of_decide_eq_true (by first | (with_reducible assumption) | assumption)) (of_decide_eq_true (by first | (with_reducible assumption) | assumption)); have HP29 := Kd.R_putg HO_5.out ((ji21) : Int) (Int.tmod (wrap64 ((wrap64 ((rd x5_2 (ji21)) + (wrap64 ((rd l0 x6_1) * t152)))) + x7_2)) 65536)) | ((with_reducible refine gate_store (t := 3) (p := 55) rfl ?_); (try (rw [drewN_self wr]; generalize hq_ : World.drewN wr _ = wr; have n0_ := Zs.mk (Kd.R_at hq_ HO_5.out); have n1_ := Zs.mk (below_at hq_ HB.out); clear hq_ HO_5 HB; have HO_5 := n0_; have HB := n1_; clear n0_ n1_; (try (obtain ⟨hy29_, hz29_⟩ := Kd.R_celln 0 HO_5.out ((ji21) : Int) (of_decide_eq_true (by first | (with_reducible assumption) | assumption)) (of_decide_eq_true (by first | (with_reducible assumption) | assumption)))); (try (have HP29 := Kd.R_putg HO_5.out ((ji21) : Int) (Int.tmod (wrap64 ((wrap64 ((rd x5_2 (ji21)) + (wrap64 ((rd l0 x6_1) * t152)))) + x7_2)) 65536))))); refine store_event (t := 3) (p := 55) (v := ?vo_w30) (w1 := (wr.setCell ⟨go27, ((ji21) : Int).toNat, none⟩ (.int .i64 (Int.tmod (wrap64 ((wrap64 ((rd x5_2 (ji21)) + (wrap64 ((rd l0 x6_1) * t152)))) + x7_2)) 65536)))) ?hg ?ho ?hn ?hr ?_; (case ho => rfl); (case hg => rfl); (case hn => rfl); (case hr => first | (go_simp; done) | (go_simp; rfl)); intro w30 hw; have hg : wr.grownBy w30 (some go27) := (by rw [hw]; exact HP29.2); have hp_ : Kd.R (Kd.int .i64) 3 w30 w.heap.size (fun _ => True) (.slice (some ⟨go27, 0, none⟩) x5_2.length co28) y153 := (by rw [hw, Ny153.out]; exact HP29.1); clear HP29; replace HO_5 := Zs.mk (hp_); replace HB := Zs.mk ((by rw [hw]; exact below_set (HB.out) GB27.out : Below w.heap.size w w30)); clear hg hw hp_)); try go_wp2_with (first | (go_at_call 81; (with_reducible refine (r8_digit.calls _ _ l1 x8_2 t152 _ ?side1 ?side2 A26.out).mono ?_); (case side1 => repeat (first | exact (Kd.C_below HR1.out HB.out) | (with_reducible refine Kd.C_alloc ?_ _) | (with_reducible refine Kd.C_drewN ?_ _) | (with_reducible refine Kd.C_drew ?_))); (case side2 => exact HC1.out); rintro e w' ⟨rfl, ⟨nd, rfl⟩⟩; (try first | exact ⟨rfl, _, World.drewN_drewN _ _ _⟩ | exact ⟨rfl, _, Eq.trans (World.drewN_drewN _ _ _) (congrArg (World.drewN _) (Nat.add_assoc _ _ _))⟩); have p27 : 0 ≤ ((ji21) : Int) := of_decide_eq_true (by first | (with_reducible assumption) | assumption); have q27 : ((ji21) : Int) < ((x5_2.length : Int) : Int) := of_decide_eq_true (by first | (with_reducible assumption) | assumption); obtain ⟨go27, co27, eo27, gb27, gl27, cl27, HG27⟩ := Kd.R_form HO_5.out (by omega); (first | cases eo27 | (injection eo27 with ea_ en_ ec_; (first | subst ea_ | (injection ea_ with ea_; subst ea_)); subst ec_; clear en_)); have GB27 := Zs.mk gb27; have GG27 := Zs.mk HG27; clear gb27 gl27 HG27; (first | simp only [add_plain] at hx150_0 | skip); obtain ⟨hx27_0, hf27_0⟩ := Kd.R_celln 0 HO_5.out ((ji21) : Int) p27 q27; replace p27 := eq_true p27; replace q27 := eq_true q27; obtain ⟨hy29_, hz29_⟩ := Kd.R_celln 0 HO_5.out ((ji21) : Int) (of_decide_eq_true (by first | (with_reducible assumption) | assumption)) (of_decide_eq_true (by first | (with_reducible assumption) | assumption)); have HP29 := Kd.R_putg HO_5.out ((ji21) : Int) (Int.tmod (wrap64 ((wrap64 ((rd x5_2 (ji21)) + (wrap64 ((rd l0 x6_1) * t152)))) + x7_2)) 65536)) | ((with_reducible refine gate_store (t := 3) (p := 55) rfl ?_); (try (rw [drewN_self wr]; generalize hq_ : World.drewN wr _ = wr; have n0_ := Zs.mk (Kd.R_at hq_ HO_5.out); have n1_ := Zs.mk (below_at hq_ HB.out); clear hq_ HO_5 HB; have HO_5 := n0_; have HB := n1_; clear n0_ n1_; (try (obtain ⟨hy29_, hz29_⟩ := Kd.R_celln 0 HO_5.out ((ji21) : Int) (of_decide_eq_true (by first | (with_reducible assumption) | assumption)) (of_decide_eq_true (by first | (with_reducible assumption) | assumption)))); (try (have HP29 := Kd.R_putg HO_5.out ((ji21) : Int) (Int.tmod (wrap64 ((wrap64 ((rd x5_2 (ji21)) + (wrap64 ((rd l0 x6_1) * t152)))) + x7_2)) 65536))))); refine store_event (t := 3) (p := 55) (v := ?vo_w30) (w1 := (wr.setCell ⟨go27, ((ji21) : Int).toNat, none⟩ (.int .i64 (Int.tmod (wrap64 ((wrap64 ((rd x5_2 (ji21)) + (wrap64 ((rd l0 x6_1) * t152)))) + x7_2)) 65536)))) ?hg ?ho ?hn ?hr ?_; (case ho => rfl); (case hg => rfl); (case hn => rfl); (case hr => first | (go_simp; done) | (go_simp; rfl)); intro w30 hw; have hg : wr.grownBy w30 (some go27) := (by rw [hw]; exact HP29.2); have hp_ : Kd.R (Kd.int .i64) 3 w30 w.heap.size (fun _ => True) (.slice (some ⟨go27, 0, none⟩) x5_2.length co28) y153 := (by rw [hw, Ny153.out]; exact HP29.1); clear HP29; replace HO_5 := Zs.mk (hp_); replace HB := Zs.mk ((by rw [hw]; exact below_set (HB.out) GB27.out : Below w.heap.size w w30)); clear hg hw hp_)))
              go_roundg k2
              case measure => have := HK1.out; have := HK2.out; omega
              case rel => exact ⟨(y153), (wrap64 (Int.tdiv (wrap64 ((wrap64 ((rd x5_2 (ji21)) + (wrap64 ((rd l0 x6_1) * t152)))) + x7_2)) 65536)), (wrap64 (x8_2 + 1)), (by first | rfl | (simp; done) | (simp only [← hji21] <;> (first | rfl | simp)) | (simp [*]; done)), (by first | rfl | (simp; done) | (simp [*]; done)), H', ⟨by have := HK1.out; have := HK2.out; omega⟩, ⟨by (with_reducible repeat (first | apply Kd.R_alloc | apply Kd.R_drewN | apply Kd.R_drew)); exact HO_5.out⟩, blt HB⟩
             ·rw [if_neg c25] at H
              exact absurd H (by simp)
            ·rw [if_neg c24] at H
             exact absurd H (by simp)
           ·rw [if_neg c23] at H
            exact absurd H (by simp)
          ·rw [if_neg c22] at H
           exact absurd H (by simp)
         ·rw [if_neg c20] at H
          have c20b0 : decide (0 < x7_2) = false := decide_eq_false c20
          clear c20
          have H' := Zs.mk H
          clear H
          go_wp2
          repeat (go_quiet (fail); try go_wp2)
          go_roundg k2
          case measure => have := HK1.out; have := HK2.out; omega
          case rel => exact ⟨(x5_2), (wrap64 (x6_1 + 1)), (by first | rfl | (simp; done) | (simp [*]; done)), H', ⟨by have := HK1.out; have := HK2.out; omega⟩, ⟨by (with_reducible repeat (first | apply Kd.R_alloc | apply Kd.R_drewN | apply Kd.R_drew)); exact HO_5.out⟩, blt HB⟩
     ·rw [if_neg c8] at H
      have c8b0 : decide (x6_1 < (l0.length : Int)) = false := decide_eq_false c8
      clear c8
      replace H := Option.bind_eq_some_iff.mp H
      obtain ⟨t143, A31, H⟩ := H
      try dsimp only at H
      replace A31 := Zs.mk A31
      obtain rfl := Option.some.inj H
      obtain ⟨Ao32, co32, eo32⟩ := Kd.R_slice HO_5.out
      subst eo32
      go_wp2_with (first | (go_at_call 104; (with_reducible refine (r8_trim.calls k1 (fun k_ => some k_ = (.slice Ao32 x5_1.length co32 : Value).ownBlock) (.slice Ao32 x5_1.length co32) x5_1 t143 w _ ?side1 ?side2 A31.out).mono ?_); (case side1 => repeat (first | (with_reducible first | exact HB.out | apply below_alloc | apply pw_below_drewN | apply below_drew1) | exact HB.out)); (case side2 => exact Kd.R_tight rfl HO_5.out); rintro e w33 ⟨v144, rfl, ho0, hb, hkp⟩; have n0_ := Zs.mk (Kd.R_mono (ok' := fun k_ => True) ho0 (fun k_ hk_ => trivial)); have n1_ := Zs.mk (hb); clear HB; clear HO_5; have HO145 := n0_; have HB := n1_; clear n0_ n1_; (try clear hb); (try clear hkp); (try clear ho0)))
      repeat (go_quiet (first | (go_at_call 104; (with_reducible refine (r8_trim.calls k1 (fun k_ => some k_ = (.slice Ao32 x5_1.length co32 : Value).ownBlock) (.slice Ao32 x5_1.length co32) x5_1 t143 w _ ?side1 ?side2 A31.out).mono ?_); (case side1 => repeat (first | (with_reducible first | exact HB.out | apply below_alloc | apply pw_below_drewN | apply below_drew1) | exact HB.out)); (case side2 => exact Kd.R_tight rfl HO_5.out); rintro e w33 ⟨v144, rfl, ho0, hb, hkp⟩; have n0_ := Zs.mk (Kd.R_mono (ok' := fun k_ => True) ho0 (fun k_ hk_ => trivial)); have n1_ := Zs.mk (hb); clear HB; clear HO_5; have HO145 := n0_; have HB := n1_; clear n0_ n1_; (try clear hb); (try clear hkp); (try clear ho0))); try go_wp2_with (first | (go_at_call 104; (with_reducible refine (r8_trim.calls k1 (fun k_ => some k_ = (.slice Ao32 x5_1.length co32 : Value).ownBlock) (.slice Ao32 x5_1.length co32) x5_1 t143 w _ ?side1 ?side2 A31.out).mono ?_); (case side1 => repeat (first | (with_reducible first | exact HB.out | apply below_alloc | apply pw_below_drewN | apply below_drew1) | exact HB.out)); (case side2 => exact Kd.R_tight rfl HO_5.out); rintro e w33 ⟨v144, rfl, ho0, hb, hkp⟩; have n0_ := Zs.mk (Kd.R_mono (ok' := fun k_ => True) ho0 (fun k_ hk_ => trivial)); have n1_ := Zs.mk (hb); clear HB; clear HO_5; have HO145 := n0_; have HB := n1_; clear n0_ n1_; (try clear hb); (try clear hkp); (try clear ho0))))
      go_ret
      exact ⟨_, by first | rfl | (simp [errW_none, errW_some] <;> rfl) | (simp only [← hji3]; first | rfl | (simp [errW_none, errW_some] <;> rfl)) | (simp [*, errW_none, errW_some] <;> rfl), by (with_reducible repeat (first | apply Kd.R_alloc | apply Kd.R_drewN | apply Kd.R_drew)); exact HO145.out, (blt HB).out⟩
  ·rw [if_neg c5] at H
   exact absurd H (by simp)
 ·rw [if_neg c4] at H
  exact absurd H (by simp)
def r8_Left.f (k : Nat) (l0 : List Int) (a1 : Int) : Option (List Int) := if 0 ≤ (wrap64 (Int.tdiv a1 16)) then (if (wrap64 (Int.tdiv a1 16) : Int).toNat ≤ 35184372088832 then ((some (List.replicate (wrap64 (Int.tdiv a1 16) : Int).toNat 0 : List Int)).bind fun y154 => ((bs_Power.f k (Int.tmod a1 16)).bind fun t157 => ((r8_Times.f k l0 (([t157] : List Int))).bind fun t161 => (if y154.length + t161.length < 17592186044416 then ((r8_trim.f k (y154 ++ t161)).bind fun t167 => (some t167)) else (none))))) else (none)) else (none)
set_option maxHeartbeats 8000000 in
set_option maxRecDepth 100000 in
theorem r8_Left.calls (k : Nat) (A0 : Option Addr) (c0 : Nat) (l0 : List Int) (a1 : Int) (r : List Int) (w : World) (hr0 : Kd.C (Kd.int .i64) w A0 l0.length l0) (hc0 : l0.length ≤ c0) (h : r8_Left.f k l0 a1 = some r) :
  Calls Tryz.prog 76 #[.slice A0 l0.length c0, .int .i64 a1] w fun e w' => ∃ v0_ : Value, e = .returned (v0_) ∧ Kd.R (Kd.int .i64) 3 w' w.heap.size (fun _ => True) v0_ r ∧ Below w.heap.size w w' := by
 have HR0 := Zs.mk hr0
 have HC0 := Zs.mk hc0
 clear hr0 hc0
 have HB := Zs.mk (Below.refl w.heap.size w)
 have H : (if 0 ≤ (wrap64 (Int.tdiv a1 16)) then (if (wrap64 (Int.tdiv a1 16) : Int).toNat ≤ 35184372088832 then ((some (List.replicate (wrap64 (Int.tdiv a1 16) : Int).toNat 0 : List Int)).bind fun y154 => ((bs_Power.f k (Int.tmod a1 16)).bind fun t157 => ((r8_Times.f k l0 (([t157] : List Int))).bind fun t161 => (if y154.length + t161.length < 17592186044416 then ((r8_trim.f k (y154 ++ t161)).bind fun t167 => (some t167)) else (none))))) else (none)) else (none)) = some r := h
 clear h
 obtain ⟨ji3, hji3⟩ : ∃ j_ : Int, (wrap64 (Int.tdiv a1 16)) = j_ := ⟨_, rfl⟩
 replace H : (if 0 ≤ (ji3) then (if (ji3 : Int).toNat ≤ 35184372088832 then ((some (List.replicate (ji3 : Int).toNat 0 : List Int)).bind fun y154 => ((bs_Power.f k (Int.tmod a1 16)).bind fun t157 => ((r8_Times.f k l0 (([t157] : List Int))).bind fun t161 => (if y154.length + t161.length < 17592186044416 then ((r8_trim.f k (y154 ++ t161)).bind fun t167 => (some t167)) else (none))))) else (none)) else (none)) = some r := by first | (rw [hji3] at H; exact H) | (simp only [hji3] at H ⊢; exact H)
 have hji3w : (IntKind.i64.wrap (Int.tdiv a1 16)) = ji3 := (i64_w _).trans hji3
 by_cases c4 : 0 ≤ (ji3)
 ·rw [if_pos c4] at H
  have c4b0 := eq_true c4
  have c4b1 : decide (0 ≤ (ji3)) = true := decide_eq_true c4
  clear c4
  by_cases c5 : (ji3 : Int).toNat ≤ 35184372088832
  ·rw [if_pos c5] at H
   have c5b0 := eq_true c5
   have c5b1 : decide ((ji3 : Int).toNat ≤ 35184372088832) = true := decide_eq_true c5
   clear c5
   obtain ⟨y154, hy154⟩ : ∃ y_ : List Int, y_ = (List.replicate (ji3 : Int).toNat 0) := ⟨_, rfl⟩
   replace H : ((bs_Power.f k (Int.tmod a1 16)).bind fun t157 => ((r8_Times.f k l0 (([t157] : List Int))).bind fun t161 => (if y154.length + t161.length < 17592186044416 then ((r8_trim.f k (y154 ++ t161)).bind fun t167 => (some t167)) else (none)))) = some r := by first | (rw [hy154]; with_reducible exact H) | (have H2_ := (Option.bind_some _ _).symm.trans H; rw [hy154]; with_reducible exact H2_) | (have H2_ := (Option.bind_some _ _).symm.trans H; with_reducible exact H2_) | with_reducible exact H | (rw [hy154]; exact H) | exact H
   have Ny154 := Zs.mk hy154
   clear hy154
   replace H := Option.bind_eq_some_iff.mp H
   obtain ⟨t157, A6, H⟩ := H
   try dsimp only at H
   replace A6 := Zs.mk A6
   obtain ⟨y158, hy158⟩ : ∃ y_ : List Int, y_ = (([t157] : List Int)) := ⟨_, rfl⟩
   replace H : ((r8_Times.f k l0 y158).bind fun t161 => (if y154.length + t161.length < 17592186044416 then ((r8_trim.f k (y154 ++ t161)).bind fun t167 => (some t167)) else (none))) = some r := by first | (rw [hy158]; with_reducible exact H) | (have H2_ := (Option.bind_some _ _).symm.trans H; rw [hy158]; with_reducible exact H2_) | (have H2_ := (Option.bind_some _ _).symm.trans H; with_reducible exact H2_) | with_reducible exact H | (rw [hy158]; exact H) | exact H
   have Ny158 := Zs.mk hy158
   clear hy158
   replace H := Option.bind_eq_some_iff.mp H
   obtain ⟨t161, A7, H⟩ := H
   try dsimp only at H
   replace A7 := Zs.mk A7
   by_cases c8 : y154.length + t161.length < 17592186044416
   ·rw [if_pos c8] at H
    have LMc8 := Zs.mk c8
    clear c8
    obtain ⟨y164, hy164⟩ : ∃ y_ : List Int, y_ = (y154 ++ t161) := ⟨_, rfl⟩
    replace H : ((r8_trim.f k y164).bind fun t167 => (some t167)) = some r := by first | (rw [hy164]; with_reducible exact H) | (have H2_ := (Option.bind_some _ _).symm.trans H; rw [hy164]; with_reducible exact H2_) | (have H2_ := (Option.bind_some _ _).symm.trans H; with_reducible exact H2_) | with_reducible exact H | (rw [hy164]; exact H) | exact H
    have Ny164 := Zs.mk hy164
    clear hy164
    replace H := Option.bind_eq_some_iff.mp H
    obtain ⟨t167, A9, H⟩ := H
    try dsimp only at H
    replace A9 := Zs.mk A9
    obtain rfl := Option.some.inj H
    go_enter Tryz.func76, Tryz.ntmps76
    go_wp2_with (first | ((with_reducible refine gd_ (N := 8) rfl ?_); refine Kd.R_make (Kd.int .i64) _ 3 rfl (N := 8) rfl 69 _ _ rfl ji3 rfl rfl Tryz.underlying69 (.int .i64 0) 8 info3 rfl (by decide) (by omega) 0 (ok := fun _ => True) (okp := fun _ => True) rfl (fun _ hk => hk) trivial (of_decide_eq_true (by first | (with_reducible assumption) | assumption)) (Nat.le_trans (Nat.mul_le_mul_right _ (of_decide_eq_true (by first | (with_reducible assumption) | assumption) : ji3.toNat ≤ 35184372088832)) (by omega)) (Below.refl _ _) (Nat.le_refl _) ?_; intro v155 w10 ho11 hb hg_ hnew_; clear hg_ hnew_; (first | rw [← Ny154.out] at ho11 | (simp only [Int.reduceToNat] at ho11; rw [← Ny154.out] at ho11)); have HO156 := Zs.mk (Kd.R_lower ho11 (below_size (blt HB).out)); replace HB := bls HB hb; clear hb ho11) | ((with_reducible refine gc_ (f := 72) rfl ?_); refine gLc 13 Tryz.func72 (bs_Power.calls k (Int.tmod a1 16) t157 _ A6.out) (fun _ h_ => ?_); obtain ⟨nd, rfl⟩ := h_) | ((with_reducible refine gd_ (N := 14) rfl ?_); refine Kd.R_lit (Kd.int .i64) _ 3 ?hg (N := 14) ?hd (xs := ([t157] : List Int)) (inner := [.int .i64 t157]) (ok := fun _ => True) (okp := fun _ => True) ?hr ?hp (fun _ hk => hk) trivial (Below.refl _ _) (Nat.le_refl _) (by simp) ?_; (case hd => rfl); (case hg => rfl); (case hr => first | (go_simp; done) | (go_simp; rfl)); (case hp => exact (Reps.one (show Kd.M (Kd.int .i64) _ _ _ t157 [.int .i64 t157] from rfl) (Reps.none _ _))); intro v159 w12 ho13 hb hg_ hnew_; clear hg_ hnew_; (first | rw [← Ny158.out] at ho13 | (simp only [Int.reduceToNat] at ho13; rw [← Ny158.out] at ho13)); have HO160 := Zs.mk (Kd.R_lower (Kd.R_new' ho13 (Kd.R_lt (by (with_reducible repeat (first | apply Kd.R_alloc | apply Kd.R_drewN | apply Kd.R_drew)); exact HO156.out))) (below_size (blt HB).out)); replace HO156 := Zs.mk (Kd.R_elder' (by (with_reducible repeat (first | apply Kd.R_alloc | apply Kd.R_drewN | apply Kd.R_drew)); exact HO156.out) (Kd.R_base ho13) hb); replace HB := bls HB hb; clear hb ho13; obtain ⟨Ao14, co14, eo14⟩ := Kd.R_slice HO160.out; subst eo14) | ((with_reducible refine gc_ (f := 105) rfl ?_); refine gL 15 Tryz.func105 #[.slice A0 l0.length c0, .slice Ao14 y158.length co14] ?_; (with_reducible refine (r8_Times.calls k _ _ l0 _ _ y158 t161 _ ?side1 ?side2 ?side3 ?side4 A7.out).mono ?_); (case side1 => repeat (first | exact (Kd.C_below HR0.out HB.out) | (with_reducible refine Kd.C_alloc ?_ _) | (with_reducible refine Kd.C_drewN ?_ _) | (with_reducible refine Kd.C_drew ?_))); (case side2 => exact HC0.out); (case side3 => repeat (first | exact (Kd.R_reads' HO160.out).2.2 | (with_reducible refine Kd.C_alloc ?_ _) | (with_reducible refine Kd.C_drewN ?_ _) | (with_reducible refine Kd.C_drew ?_))); (case side4 => exact (Kd.R_reads' HO160.out).2.1); rintro e w15 ⟨v162, rfl, ho0, hb⟩; refine ⟨_, rfl, ?_⟩; have HO163 := Zs.mk (Kd.R_lower (Kd.R_new' (Kd.R_new' ho0 (Kd.R_lt (by (with_reducible repeat (first | apply Kd.R_alloc | apply Kd.R_drewN | apply Kd.R_drew)); exact HO156.out))) (Kd.R_lt (by (with_reducible repeat (first | apply Kd.R_alloc | apply Kd.R_drewN | apply Kd.R_drew)); exact HO160.out))) (below_size (blt HB).out)); replace HO156 := Zs.mk (Kd.R_elder' (by (with_reducible repeat (first | apply Kd.R_alloc | apply Kd.R_drewN | apply Kd.R_drew)); exact HO156.out) (Kd.R_base ho0) hb); replace HO160 := Zs.mk (Kd.R_elder' (by (with_reducible repeat (first | apply Kd.R_alloc | apply Kd.R_drewN | apply Kd.R_drew)); exact HO160.out) (Kd.R_base ho0) hb); replace HB := bls HB hb; (try clear hb); (try clear hb2); (try clear hk); (try clear hi); (try clear ho0); obtain ⟨Ao17, co17, eo17⟩ := Kd.R_slice HO163.out; subst eo17) | ((with_reducible refine gate_builtin (b := .append) (xs := #[.tmp 9, .tmp 15]) rfl ?_); at_builtin; refine Kd.R_append_rows (Kd.int .i64) (w0 := w) w.heap.size rfl (.tmp 9) (.tmp 15) 69 3 (.int .i64 0) 8 rfl Tryz.underlying69 info3 rfl (by decide) (by omega) v155 y154 t161 _ _ _ (fun k_ => some k_ ≠ (.slice Ao14 y158.length co14 : Value).ownBlock ∧ some k_ ≠ (.slice Ao17 t161.length co17 : Value).ownBlock) (fun _ => False) rfl rfl ?aO ?aR (fun _ _ h => h) (fun _ h => h.elim) ?aF ?aB ?aS ?aL ?_; (case aR => repeat (first | exact (Kd.R_reads' HO163.out).2.2 | (with_reducible refine Kd.C_alloc ?_ _) | (with_reducible refine Kd.C_drewN ?_ _) | (with_reducible refine Kd.C_drew ?_))); (case aB => exact (blt HB).out); (case aF => exact (fun k_ hk => ⟨Kd.fresh' (Kd.R_lt (by (with_reducible repeat (first | apply Kd.R_alloc | apply Kd.R_drewN | apply Kd.R_drew)); exact HO160.out)) k_ hk, Kd.fresh' (Kd.R_lt (by (with_reducible repeat (first | apply Kd.R_alloc | apply Kd.R_drewN | apply Kd.R_drew)); exact HO163.out)) k_ hk⟩)); (case aO => exact (by (with_reducible repeat (first | apply Kd.R_alloc | apply Kd.R_drewN | apply Kd.R_drew)); exact Kd.R_mono HO156.out (fun _ hk => ⟨hk.1.2, hk.2⟩))); (case aS => exact (below_size (blt HB).out)); (case aL => have := LMc8.out; omega); intro v165 w16 ho hb hg hat; rw [← Ny164.out] at ho; have n0_ := Zs.mk (Kd.R_after (ok := (fun k_ => some k_ ≠ (.slice Ao17 t161.length co17 : Value).ownBlock)) (by (with_reducible repeat (first | apply Kd.R_alloc | apply Kd.R_drewN | apply Kd.R_drew)); exact Kd.R_mono HO160.out (fun _ hk => ⟨hk.2, hk.1.2⟩)) hg hat); have n1_ := Zs.mk (Kd.R_after (ok := (fun k_ => some k_ ≠ (.slice Ao14 y158.length co14 : Value).ownBlock)) (by (with_reducible repeat (first | apply Kd.R_alloc | apply Kd.R_drewN | apply Kd.R_drew)); exact Kd.R_mono HO163.out (fun _ hk => ⟨hk.2, hk.1.2⟩)) hg hat); have n2_ := Zs.mk (hb); have n3_ := Zs.mk (ho); clear HO160; clear HO163; clear HB; clear HO156; have HO160 := n0_; have HO163 := n1_; have HB := n2_; have HO166 := n3_; clear n0_ n1_ n2_ n3_; clear ho hb hg hat; obtain ⟨Ao18, co18, eo18⟩ := Kd.R_slice HO166.out; subst eo18) | ((with_reducible refine gc_ (f := 104) rfl ?_); refine gL 17 Tryz.func104 #[.slice Ao18 y164.length co18] ?_; (with_reducible refine (r8_trim.calls k (fun k_ => some k_ = (.slice Ao18 y164.length co18 : Value).ownBlock) (.slice Ao18 y164.length co18) y164 t167 w _ ?side1 ?side2 A9.out).mono ?_); (case side1 => repeat (first | (with_reducible first | exact HB.out | apply below_alloc | apply pw_below_drewN | apply below_drew1) | exact HB.out)); (case side2 => exact Kd.R_tight rfl HO166.out); rintro e w19 ⟨v168, rfl, ho0, hb, hkp⟩; refine ⟨_, rfl, ?_⟩; have n0_ := Zs.mk (Kd.R_mono (ok' := fun k_ => some k_ ≠ (.slice Ao17 t161.length co17 : Value).ownBlock ∧ some k_ ≠ (v168 : Value).ownBlock) (Kd.R_keptB (HO160.out) hkp (fun k_ hk_ hs_ => (hk_.2) hs_)) (fun k_ hk_ => ⟨hk_.1.1, fun e_ => Or.elim (ho0.1 k_ e_.symm) (fun hs_ => hk_.2.1 hs_) (fun hn_ => Nat.not_le.2 hk_.2.2 hn_)⟩)); have n1_ := Zs.mk (Kd.R_mono (ok' := fun k_ => some k_ ≠ (.slice Ao14 y158.length co14 : Value).ownBlock ∧ some k_ ≠ (v168 : Value).ownBlock) (Kd.R_keptB (HO163.out) hkp (fun k_ hk_ hs_ => (hk_.2) hs_)) (fun k_ hk_ => ⟨hk_.1.1, fun e_ => Or.elim (ho0.1 k_ e_.symm) (fun hs_ => hk_.2.1 hs_) (fun hn_ => Nat.not_le.2 hk_.2.2 hn_)⟩)); have n2_ := Zs.mk (Kd.R_mono (ok' := fun k_ => some k_ ≠ (.slice Ao14 y158.length co14 : Value).ownBlock ∧ some k_ ≠ (.slice Ao17 t161.length co17 : Value).ownBlock) ho0 (fun k_ hk_ => ⟨Or.elim hk_ (fun hs_ => fun e_ => (((HO160.out).1 k_ e_.symm).2) hs_) (fun hn_ => (Kd.fresh' (Kd.R_lt (by (with_reducible repeat (first | apply Kd.R_alloc | apply Kd.R_drewN | apply Kd.R_drew)); exact HO160.out)) k_ hn_)), Or.elim hk_ (fun hs_ => fun e_ => (((HO163.out).1 k_ e_.symm).2) hs_) (fun hn_ => (Kd.fresh' (Kd.R_lt (by (with_reducible repeat (first | apply Kd.R_alloc | apply Kd.R_drewN | apply Kd.R_drew)); exact HO163.out)) k_ hn_))⟩)); have n3_ := Zs.mk (hb); clear HO160; clear HO163; clear HB; clear HO166; have HO160 := n0_; have HO163 := n1_; have HO169 := n2_; have HB := n3_; clear n0_ n1_ n2_ n3_; (try clear hb); (try clear hkp); (try clear ho0)))
    go_ret
    exact ⟨_, by first | rfl | (simp [errW_none, errW_some] <;> rfl) | (simp only [← hji3]; first | rfl | (simp [errW_none, errW_some] <;> rfl)) | (simp [*, errW_none, errW_some] <;> rfl), by (with_reducible repeat (first | apply Kd.R_alloc | apply Kd.R_drewN | apply Kd.R_drew)); exact Kd.R_mono HO169.out (fun _ hk => trivial), (blt HB).out⟩
   ·rw [if_neg c8] at H
    exact absurd H (by simp)
  ·rw [if_neg c5] at H
   exact absurd H (by simp)
 ·rw [if_neg c4] at H
  exact absurd H (by simp)
end Go.Proofs.YtmoimcblmmcffaaGreatDoor.PN

namespace Go.Proofs.YtmoimcblmmcffaaGreatDoor.PN
open Go.RowKit Go.Proofs.YtmoimcblmmcffaaGreatDoorW.PrintWords Go.Proofs.YtmoimcblmmcffaaGreatDoorW.PrintLast Go.Proofs.YtmoimcblmmcffaaGreatDoorW.PrintMore Go.Proofs.YtmoimcblmmcffaaGreatDoorW.PrintZ
attribute [local go_sem] max2_int min2_int max_two min_two max_three min_three max_four min_four   -- for this text's walks alone
set_option linter.unusedVariables false
set_option linter.unusedSimpArgs false


mutual
def r8_Plus.l0 : Nat → List Int → List Int → List Int → Int → Int → Option (List Int)
 | 0, _, _, _, _, _ => none
 | k + 1, x0, x1, x5, x6, x7 => if x7 < (mx (x0.length : Int) (x1.length : Int)) then (r8_Plus.j1 k x0 x1 x5 x6 x7 true) else (r8_Plus.j1 k x0 x1 x5 x6 x7 (decide (x6 > 0)))
def r8_Plus.j1 : Nat → List Int → List Int → List Int → Int → Int → Bool → Option (List Int)
 | 0, _, _, _, _, _, _ => none
 | k + 1, x0, x1, x5, x6, x7, x19 => if x19 = true then ((r8_digit.f x0 x7).bind fun t170 => ((r8_digit.f x1 x7).bind fun t171 => (if x5.length < 17592186044416 then (r8_Plus.l0 k x0 x1 (x5 ++ [Int.tmod (wrap64 ((wrap64 (t170 + t171)) + x6)) 65536]) (wrap64 (Int.tdiv (wrap64 ((wrap64 (t170 + t171)) + x6)) 65536)) (wrap64 (x7 + 1))) else (none)))) else ((r8_trim.f k x5).bind fun t175 => (some t175))
end
def r8_Plus.f (k : Nat) (l0 : List Int) (l1 : List Int) : Option (List Int) := r8_Plus.l0 k l0 l1 ([] : List Int) 0 0
set_option maxHeartbeats 8000000 in
set_option maxRecDepth 100000 in
theorem r8_Plus.calls (k : Nat) (A0 : Option Addr) (c0 : Nat) (l0 : List Int) (A1 : Option Addr) (c1 : Nat) (l1 : List Int) (r : List Int) (w : World) (hr0 : Kd.C (Kd.int .i64) w A0 l0.length l0) (hc0 : l0.length ≤ c0) (hr1 : Kd.C (Kd.int .i64) w A1 l1.length l1) (hc1 : l1.length ≤ c1) (h : r8_Plus.f k l0 l1 = some r) :
  Calls Tryz.prog 77 #[.slice A0 l0.length c0, .slice A1 l1.length c1] w fun e w' => ∃ v0_ : Value, e = .returned (v0_) ∧ Kd.R (Kd.int .i64) 3 w' w.heap.size (fun _ => True) v0_ r ∧ Below w.heap.size w w' := by
 have HR0 := Zs.mk hr0
 have HC0 := Zs.mk hc0
 clear hr0 hc0
 have HR1 := Zs.mk hr1
 have HC1 := Zs.mk hc1
 clear hr1 hc1
 have HB := Zs.mk (Below.refl w.heap.size w)
 have H : (r8_Plus.l0 k l0 l1 ([] : List Int) 0 0) = some r := h
 clear h
 have H' := Zs.mk H
 clear H
 go_enter Tryz.func77, Tryz.ntmps77
 go_wp2
 go_loopg [5, 6, 7] k (fun kq v5 v6 v7 w' => ∃ (x5_1 : List Int) (x6_1 : Int) (x7_1 : Int), v6 = .int .i64 x6_1 ∧ v7 = .int .i64 x7_1 ∧ Zs (r8_Plus.l0 kq l0 l1 x5_1 x6_1 x7_1 = some r) ∧ Zs (kq ≤ k) ∧ Zs (Kd.R (Kd.int .i64) 3 w' w.heap.size (fun _ => True) v5 x5_1) ∧ Zs (Below w.heap.size w w'))
 case atStart => exact ⟨(([] : List Int)), (0), (0), (by first | rfl | (simp; done) | (simp [*]; done)), (by first | rfl | (simp; done) | (simp [*]; done)), H', ⟨Nat.le_refl _⟩, ⟨by first | exact Kd.R_nil _ _ _ _ _ | exact Kd.N_nil _ _ _ _ _ | exact Kd.V_nil _ _ _ _ _ | exact Kd.Q_nil _ _ _ _ _ | exact Kd.S_nil _ _ _ _ _⟩, blt HB⟩
 case round =>
  clear H'
  try clear c1
  try clear p2
  obtain ⟨x5_1, x6_1, x7_1, rfl, rfl, HA, HK1, HO_5, HB⟩ := hrel
  cases gk with
  | zero => exact absurd HA.out (by simp [r8_Plus.l0])
  | succ k1 =>
   have H := HA.out
   clear HA
   simp only [r8_Plus.l0] at H
   have HC3 := Zs.mk H
   clear H
   go_upto_region 4 with (fail)
   go_cut [19] (fun v19 wc => ∃ (kq : Nat) (x19_2 : Bool), v19 = .bool x19_2 ∧ Zs (r8_Plus.j1 kq l0 l1 x5_1 x6_1 x7_1 x19_2 = some r) ∧ Zs (kq ≤ k1) ∧ Zs (Kd.R (Kd.int .i64) 3 wc w.heap.size (fun _ => True) u5 x5_1) ∧ Zs (Below w.heap.size w wc))
   case first =>
    have H := HC3.out
    clear HC3
    obtain ⟨ji4, hji4⟩ : ∃ j_ : Int, (mx (l0.length : Int) (l1.length : Int)) = j_ := ⟨_, rfl⟩
    replace H : (if x7_1 < (ji4) then (r8_Plus.j1 k1 l0 l1 x5_1 x6_1 x7_1 true) else (r8_Plus.j1 k1 l0 l1 x5_1 x6_1 x7_1 (decide (x6_1 > 0)))) = some r := by first | (rw [hji4] at H; exact H) | (simp only [hji4] at H ⊢; exact H)
    have hji4_ : (if (l0.length : Int) < (l1.length : Int) then (l1.length : Int) else (l0.length : Int)) = ji4 := hji4
    by_cases c5 : x7_1 < (ji4)
    ·rw [if_pos c5] at H
     have c5b0 : decide (x7_1 < (ji4)) = true := decide_eq_true c5
     clear c5
     (first | rw [c5b0] | (simp only [i64_w, i32_w]; rw [c5b0]) | skip)
     have H' := Zs.mk H
     clear H
     by_cases hmx_ : (l0.length : Int) < (l1.length : Int)
     all_goals
      (first | (rw [if_pos hmx_] at hji4_) | (rw [if_neg hmx_] at hji4_))
      subst hji4_
      clear hji4
      go_wp2
      go_meet
      case rel => exact ⟨_, (true), (by first | rfl | (simp; done) | (simp [*]; done)), H', ⟨by have := HK1.out; first | omega | exact Nat.le_refl _⟩, ⟨by (with_reducible repeat (first | apply Kd.R_alloc | apply Kd.R_drewN | apply Kd.R_drew)); exact HO_5.out⟩, blt HB⟩
    ·rw [if_neg c5] at H
     have c5b0 : decide (x7_1 < (ji4)) = false := decide_eq_false c5
     clear c5
     (first | rw [c5b0] | (simp only [i64_w, i32_w]; rw [c5b0]) | skip)
     have H' := Zs.mk H
     clear H
     by_cases hmx_ : (l0.length : Int) < (l1.length : Int)
     all_goals
      (first | (rw [if_pos hmx_] at hji4_) | (rw [if_neg hmx_] at hji4_))
      subst hji4_
      clear hji4
      go_wp2
      go_meet
      case rel => exact ⟨_, (decide (x6_1 > 0)), (by first | rfl | (simp; done) | (simp [*]; done)), H', ⟨by have := HK1.out; first | omega | exact Nat.le_refl _⟩, ⟨by (with_reducible repeat (first | apply Kd.R_alloc | apply Kd.R_drewN | apply Kd.R_drew)); exact HO_5.out⟩, blt HB⟩
   case rest =>
    clear HC3
    try clear c1
    try clear p2
    try clear c5
    try clear c5b0
    try clear p2
    obtain ⟨kq, x19_2, rfl, HA, HJ2, HO_5, HB⟩ := hcut
    cases kq with
    | zero => exact absurd HA.out (by simp [r8_Plus.j1])
    | succ kj2 =>
     have H := HA.out
     clear HA
     simp only [r8_Plus.j1] at H
     by_cases c6 : x19_2 = true
     ·subst c6
      rw [if_pos rfl] at H
      replace H := Option.bind_eq_some_iff.mp H
      obtain ⟨t170, A7, H⟩ := H
      try dsimp only at H
      replace A7 := Zs.mk A7
      replace H := Option.bind_eq_some_iff.mp H
      obtain ⟨t171, A8, H⟩ := H
      try dsimp only at H
      replace A8 := Zs.mk A8
      by_cases c9 : x5_1.length < 17592186044416
      ·rw [if_pos c9] at H
       have LMc9 := Zs.mk c9
       clear c9
       obtain ⟨y172, hy172⟩ : ∃ y_ : List Int, y_ = (x5_1 ++ [Int.tmod (wrap64 ((wrap64 (t170 + t171)) + x6_1)) 65536]) := ⟨_, rfl⟩
       replace H : (r8_Plus.l0 kj2 l0 l1 y172 (wrap64 (Int.tdiv (wrap64 ((wrap64 (t170 + t171)) + x6_1)) 65536)) (wrap64 (x7_1 + 1))) = some r := by first | (rw [hy172]; with_reducible exact H) | (have H2_ := (Option.bind_some _ _).symm.trans H; rw [hy172]; with_reducible exact H2_) | (have H2_ := (Option.bind_some _ _).symm.trans H; with_reducible exact H2_) | with_reducible exact H | (rw [hy172]; exact H) | exact H
       have Ny172 := Zs.mk hy172
       clear hy172
       have H' := Zs.mk H
       clear H
       go_wp2_with (first | ((with_reducible refine gc_ (f := 81) rfl ?_); refine gL 24 Tryz.func81 #[.slice A0 l0.length c0, .int .i64 x7_1] ?_; (with_reducible refine (r8_digit.calls _ _ l0 x7_1 t170 _ ?side1 ?side2 A7.out).mono ?_); (case side1 => repeat (first | exact (Kd.C_below HR0.out HB.out) | (with_reducible refine Kd.C_alloc ?_ _) | (with_reducible refine Kd.C_drewN ?_ _) | (with_reducible refine Kd.C_drew ?_))); (case side2 => exact HC0.out); rintro e w' ⟨rfl, ⟨nd, rfl⟩⟩; refine ⟨_, rfl, ?_⟩) | ((with_reducible refine gc_ (f := 81) rfl ?_); refine gL 27 Tryz.func81 #[.slice A1 l1.length c1, .int .i64 x7_1] ?_; (with_reducible refine (r8_digit.calls _ _ l1 x7_1 t171 _ ?side1 ?side2 A8.out).mono ?_); (case side1 => repeat (first | exact (Kd.C_below HR1.out (blt HB).out) | (with_reducible refine Kd.C_alloc ?_ _) | (with_reducible refine Kd.C_drewN ?_ _) | (with_reducible refine Kd.C_drew ?_))); (case side2 => exact HC1.out); rintro e w' ⟨rfl, ⟨nd, rfl⟩⟩; refine ⟨_, rfl, ?_⟩) | ((with_reducible refine gate_builtin (b := .append) (xs := #[.tmp 31, .tmp 34]) rfl ?_); at_builtin; refine Kd.R_append (Kd.int .i64) (w0 := w) w.heap.size rfl (.tmp 31) (.tmp 34) 69 3 (.int .i64 0) 8 rfl Tryz.underlying69 info3 rfl (by decide) (by omega) u5 x5_1 (Int.tmod (wrap64 ((wrap64 (t170 + t171)) + x6_1)) 65536) [.int .i64 (Int.tmod (wrap64 ((wrap64 (t170 + t171)) + x6_1)) 65536)] (fun _ => True) (fun _ => False) rfl rfl ?aP (fun _ hk => hk.elim) ?aF ?aO ?aB ?aS ?aL ?_; (case aP => exact rfl); (case aB => exact (blt HB).out); (case aF => exact (fun _ _ => trivial)); (case aO => exact (by (with_reducible repeat (first | apply Kd.R_alloc | apply Kd.R_drewN | apply Kd.R_drew)); exact HO_5.out)); (case aS => exact (below_size (blt HB).out)); (case aL => have := LMc9.out; omega); intro v173 w10 ho hb hg hat; rw [← Ny172.out] at ho; have n0_ := Zs.mk (hb); have n1_ := Zs.mk (ho); clear HB; clear HO_5; have HB := n0_; have HO174 := n1_; clear n0_ n1_; clear ho hb hg hat))
       go_roundg kj2
       case measure => have := HK1.out; have := HJ2.out; omega
       case rel => exact ⟨(y172), (wrap64 (Int.tdiv (wrap64 ((wrap64 (t170 + t171)) + x6_1)) 65536)), (wrap64 (x7_1 + 1)), (by first | rfl | (simp; done) | (simp [*]; done)), (by first | rfl | (simp; done) | (simp [*]; done)), H', ⟨by have := HK1.out; have := HJ2.out; omega⟩, ⟨by (with_reducible repeat (first | apply Kd.R_alloc | apply Kd.R_drewN | apply Kd.R_drew)); exact HO174.out⟩, blt HB⟩
      ·rw [if_neg c9] at H
       exact absurd H (by simp)
     ·replace c6 := Bool.eq_false_iff.mpr c6
      subst c6
      rw [if_neg (show ¬ (false = true) by decide)] at H
      replace H := Option.bind_eq_some_iff.mp H
      obtain ⟨t175, A11, H⟩ := H
      try dsimp only at H
      replace A11 := Zs.mk A11
      obtain rfl := Option.some.inj H
      obtain ⟨Ao12, co12, eo12⟩ := Kd.R_slice HO_5.out
      subst eo12
      go_wp2_with (first | ((with_reducible refine gc_ (f := 104) rfl ?_); refine gL 39 Tryz.func104 #[.slice Ao12 x5_1.length co12] ?_; (with_reducible refine (r8_trim.calls kj2 (fun k_ => some k_ = (.slice Ao12 x5_1.length co12 : Value).ownBlock) (.slice Ao12 x5_1.length co12) x5_1 t175 w _ ?side1 ?side2 A11.out).mono ?_); (case side1 => repeat (first | (with_reducible first | exact HB.out | apply below_alloc | apply pw_below_drewN | apply below_drew1) | exact HB.out)); (case side2 => exact Kd.R_tight rfl HO_5.out); rintro e w13 ⟨v176, rfl, ho0, hb, hkp⟩; refine ⟨_, rfl, ?_⟩; have n0_ := Zs.mk (Kd.R_mono (ok' := fun k_ => True) ho0 (fun k_ hk_ => trivial)); have n1_ := Zs.mk (hb); clear HB; clear HO_5; have HO177 := n0_; have HB := n1_; clear n0_ n1_; (try clear hb); (try clear hkp); (try clear ho0)))
      go_ret
      exact ⟨_, by first | rfl | (simp [errW_none, errW_some] <;> rfl) | (simp [*, errW_none, errW_some] <;> rfl), by (with_reducible repeat (first | apply Kd.R_alloc | apply Kd.R_drewN | apply Kd.R_drew)); exact HO177.out, (blt HB).out⟩
end Go.Proofs.YtmoimcblmmcffaaGreatDoor.PN

namespace Go.Proofs.YtmoimcblmmcffaaGreatDoor.N
open Go.RowKit Go.Proofs.YtmoimcblmmcffaaGreatDoorW.PrintWords Go.Proofs.YtmoimcblmmcffaaGreatDoorW.PrintLast Go.Proofs.YtmoimcblmmcffaaGreatDoorW.PrintMore Go.Proofs.YtmoimcblmmcffaaGreatDoor.PN
set_option linter.unusedSimpArgs false
set_option linter.unusedVariables false
theorem wr {n : Int} (h0 : -9223372036854775808 ≤ n) (h1 : n ≤ 9223372036854775807) : wrap64 n = n := by unfold wrap64; omega
def val : List Int → Nat
 | [] => 0
 | d :: l => d.toNat + 65536 * val l
def Dig (l : List Int) : Prop := ∀ d ∈ l, 0 ≤ d ∧ d < 65536
def digs (n : Nat) : List Int := if n = 0 then [] else ((n % 65536 : Nat) : Int) :: digs (n / 65536)
termination_by n
decreasing_by omega
theorem digs_zero : digs 0 = [] := by rw [digs]; simp
theorem digs_pos {n : Nat} (h : n ≠ 0) : digs n = ((n % 65536 : Nat) : Int) :: digs (n / 65536) := by rw [digs]; simp [h]
theorem digs_one : digs 1 = [1] := by rw [digs_pos (by decide)]; simp [digs_zero]
theorem val_digs : ∀ n, val (digs n) = n := by
 intro n
 induction n using Nat.strongRecOn with
 | ind n ih =>
  by_cases h : n = 0
  ·subst h; simp [digs_zero, val]
  ·rw [digs_pos h]
   simp only [val, Int.toNat_natCast]
   rw [ih _ (by omega)]
   omega
theorem dig_digs : ∀ n, Dig (digs n) := by
 intro n
 induction n using Nat.strongRecOn with
 | ind n ih =>
  by_cases h : n = 0
  ·subst h; simp [digs_zero, Dig]
  ·rw [digs_pos h]
   intro d hd
   rcases List.mem_cons.1 hd with rfl | hd
   ·omega
   ·exact ih _ (by omega) d hd
theorem Dig.tail {d : Int} {l : List Int} (h : Dig (d :: l)) : Dig l := fun x hx => h x (List.mem_cons_of_mem _ hx)
theorem Dig.getD {l : List Int} (h : Dig l) (i : Nat) : 0 ≤ l.getD i 0 ∧ l.getD i 0 < 65536 := by
 rw [List.getD_eq_getElem?_getD]
 cases e : l[i]? with
 | none => simp
 | some d => exact h d (List.mem_of_getElem? e)
theorem Dig.nat {l : List Int} (h : Dig l) (i : Nat) : ∃ d : Nat, l.getD i 0 = (d : Int) ∧ d < 65536 := by
 have := h.getD i
 exact ⟨(l.getD i 0).toNat, by omega, by omega⟩
theorem Dig.append {a b : List Int} (ha : Dig a) (hb : Dig b) : Dig (a ++ b) := fun d hd => by
 rcases List.mem_append.1 hd with h | h
 ·exact ha d h
 ·exact hb d h
theorem Dig.take {l : List Int} (h : Dig l) (n : Nat) : Dig (l.take n) := fun d hd => h d (List.mem_of_mem_take hd)
theorem Dig.set {l : List Int} (h : Dig l) (i : Nat) {d : Int} (h0 : 0 ≤ d) (h1 : d < 65536) : Dig (l.set i d) := fun x hx => by
 rcases List.mem_or_eq_of_mem_set hx with h2 | rfl
 ·exact h x h2
 ·exact ⟨h0, h1⟩
theorem dig_zeros (n : Nat) : Dig (List.replicate n 0) := fun d hd => by
 rw [List.eq_of_mem_replicate hd]; decide
theorem val_append : ∀ (a b : List Int), val (a ++ b) = val a + 65536 ^ a.length * val b
 | [], b => by simp [val]
 | d :: a, b => by
  simp only [List.cons_append, val, val_append a b, List.length_cons, Nat.pow_succ]
  rw [Nat.mul_add, Nat.mul_comm (65536 ^ a.length) 65536, Nat.mul_assoc]
  omega
theorem val_zeros : ∀ n, val (List.replicate n 0) = 0
 | 0 => rfl
 | n + 1 => by simp [List.replicate_succ, val, val_zeros n]
theorem val_lt : ∀ {l : List Int}, Dig l → val l < 65536 ^ l.length
 | [], _ => by simp [val]
 | d :: l, h => by
  have := val_lt (l := l) h.tail
  have hd := h d List.mem_cons_self
  simp only [val, List.length_cons, Nat.pow_succ]
  omega
theorem val_drop (l : List Int) (i : Nat) : val (l.drop i) = (l.getD i 0).toNat + 65536 * val (l.drop (i + 1)) := by
 by_cases h : i < l.length
 ·rw [List.drop_eq_getElem_cons h, List.getD_eq_getElem?_getD, List.getElem?_eq_getElem h]
  rfl
 ·rw [List.drop_eq_nil_of_le (by omega), List.drop_eq_nil_of_le (by omega), List.getD_eq_getElem?_getD, List.getElem?_eq_none (by omega)]
  rfl
theorem val_take_succ (l : List Int) (i : Nat) (h : i < l.length) : val (l.take (i + 1)) = val (l.take i) + 65536 ^ i * (l.getD i 0).toNat := by
 rw [List.take_succ_eq_append_getElem h, val_append, List.length_take, Nat.min_eq_left (by omega), List.getD_eq_getElem?_getD, List.getElem?_eq_getElem h]
 simp [val]
theorem val_split (l : List Int) (i : Nat) (h : i ≤ l.length) : val l = val (l.take i) + 65536 ^ i * val (l.drop i) := by
 conv => lhs; rw [← List.take_append_drop i l]
 rw [val_append, List.length_take, Nat.min_eq_left h]
theorem val_set : ∀ (l : List Int) (i : Nat) (d : Int), i < l.length → val (l.set i d) + 65536 ^ i * (l.getD i 0).toNat = val l + 65536 ^ i * d.toNat
 | [], i, d, h => by simp at h
 | x :: l, 0, d, _ => by simp [val]; omega
 | x :: l, i + 1, d, h => by
  have := val_set l i d (by simpa using h)
  simp only [List.set_cons_succ, val, List.getD_cons_succ, Nat.pow_succ]
  rw [Nat.mul_comm (65536 ^ i) 65536, Nat.mul_assoc, Nat.mul_assoc]
  omega
theorem canon : ∀ {l : List Int}, Dig l → l.getLast? ≠ some 0 → digs (val l) = l
 | [], _, _ => by simp [val, digs_zero]
 | [d], h, hl => by
  have hd := h d List.mem_cons_self
  have : d ≠ 0 := by rintro rfl; simp at hl
  have hv : val [d] = d.toNat := by simp [val]
  rw [hv, digs_pos (by omega), Nat.div_eq_of_lt (by omega), Nat.mod_eq_of_lt (by omega), digs_zero]
  congr 1
  omega
 | d :: e :: l, h, hl => by
  have ih := canon (l := e :: l) h.tail (by rwa [List.getLast?_cons_cons] at hl)
  have hd := h d List.mem_cons_self
  have hne : val (e :: l) ≠ 0 := by
   intro h0
   rw [h0, digs_zero] at ih
   cases ih
  have hv : val (d :: e :: l) = d.toNat + 65536 * val (e :: l) := rfl
  rw [hv, digs_pos (by omega), show (d.toNat + 65536 * val (e :: l)) / 65536 = val (e :: l) from by omega, show (d.toNat + 65536 * val (e :: l)) % 65536 = d.toNat from by omega, ih]
  congr 1
  omega
theorem digs_len {n m : Nat} (h : n < 65536 ^ m) : (digs n).length ≤ m := by
 induction m generalizing n with
 | zero =>
  have : n = 0 := by simpa using h
  subst this
  simp [digs_zero]
 | succ m ih =>
  by_cases h0 : n = 0
  ·subst h0; simp [digs_zero]
  ·rw [digs_pos h0]
   have := ih (n := n / 65536) (by rw [Nat.pow_succ] at h; omega)
   simp only [List.length_cons]
   omega
theorem digs_low {n : Nat} (h : n ≠ 0) : 65536 ^ ((digs n).length - 1) ≤ n := by
 induction n using Nat.strongRecOn with
 | ind n ih =>
  rw [digs_pos h]
  by_cases h1 : n / 65536 = 0
  ·rw [h1, digs_zero]
   simp
   omega
  ·have := ih (n / 65536) (by omega) h1
   have hp : 0 < (digs (n / 65536)).length := by rw [digs_pos h1]; simp
   simp only [List.length_cons]
   obtain ⟨j, hj⟩ : ∃ j, (digs (n / 65536)).length = j + 1 := ⟨_, (Nat.sub_add_cancel hp).symm⟩
   rw [hj] at this ⊢
   simp only [Nat.add_sub_cancel] at this ⊢
   rw [Nat.pow_succ]
   omega
theorem digs_nil {n : Nat} : (digs n).length = 0 ↔ n = 0 := by
 constructor
 ·intro h
  by_cases h0 : n = 0
  ·exact h0
  ·rw [digs_pos h0] at h; simp at h
 ·rintro rfl; simp [digs_zero]
def Ev {α : Type} (f : Nat → Option α) (r : α) : Prop := ∃ K, ∀ k, K ≤ k → f k = some r
theorem Ev.some {α : Type} {f : Nat → Option α} {r : α} (h : Ev f r) : ∃ k, f k = Option.some r := h.elim fun K h => ⟨K, h K (Nat.le_refl _)⟩
theorem rd_nat (l : List Int) (i : Nat) : rd l (i : Int) = l.getD i 0 := by simp [rd]
theorem digit_f (l : List Int) (i : Nat) : r8_digit.f l (i : Int) = some (l.getD i 0) := by
 unfold r8_digit.f
 by_cases h : i < l.length
 ·rw [if_pos (by omega), if_pos (by omega), rd_nat]
 ·rw [if_neg (by omega), List.getD_eq_getElem?_getD, List.getElem?_eq_none (by omega)]
  rfl
theorem bit_f (b : Bool) : bs_Bit.f b = some (if b then 1 else 0) := by cases b <;> rfl
theorem trim_l0 (x : List Int) (hx : Dig x) (hl : x.length < 9223372036854775807) : ∀ j k, j ≤ x.length → j < k → r8_trim.l0 k x (j : Int) = some (digs (val (x.take j))) := by
 intro j
 induction j with
 | zero =>
  intro k _ hk
  obtain ⟨k, rfl⟩ : ∃ k', k = k' + 1 := ⟨k - 1, by omega⟩
  simp [r8_trim.l0, val, digs_zero]
 | succ j ih =>
  intro k hj hk
  obtain ⟨k, rfl⟩ : ∃ k', k = k' + 1 := ⟨k - 1, by omega⟩
  have e : wrap64 (((j + 1 : Nat) : Int) - 1) = (j : Int) := by rw [wr (by omega) (by omega)]; omega
  simp only [r8_trim.l0, e, rd_nat]
  rw [if_pos (by omega), if_pos (by omega), if_pos (by omega)]
  by_cases hz : x.getD j 0 = 0
  ·rw [if_pos hz, ih k (by omega) (by omega), val_take_succ x j (by omega), hz]
   simp
  ·rw [if_neg hz, if_pos (by omega), if_pos (by omega), Int.toNat_natCast, canon (hx.take _)]
   rw [List.getLast?_take, if_neg (by omega)]
   rw [List.getD_eq_getElem?_getD] at hz
   simp only [Nat.add_sub_cancel]
   rw [List.getElem?_eq_getElem (by omega)] at hz ⊢
   simpa using hz
theorem trim_k {x : List Int} (hx : Dig x) {k : Nat} (hk : x.length < k) (hl : x.length < 9223372036854775807) : r8_trim.f k x = some (digs (val x)) := by
 unfold r8_trim.f
 rw [trim_l0 x hx hl _ k (Nat.le_refl _) hk, List.take_length]
theorem power_l0 (n : Nat) (hn : n ≤ 62) : ∀ m i k, m + i = n → m < k → bs_Power.l0 k ((2 ^ i : Nat) : Int) (n : Int) (i : Int) = some ((2 ^ n : Nat) : Int) := by
 intro m
 induction m with
 | zero =>
  intro i k hi hk
  obtain ⟨k, rfl⟩ : ∃ k', k = k' + 1 := ⟨k - 1, by omega⟩
  rw [bs_Power.l0, if_neg (by omega), show i = n from by omega]
 | succ m ih =>
  intro i k hi hk
  obtain ⟨k, rfl⟩ : ∃ k', k = k' + 1 := ⟨k - 1, by omega⟩
  rw [bs_Power.l0, if_pos (by omega)]
  have hp : 2 ^ (i + 1) ≤ 2 ^ 62 := Nat.pow_le_pow_right (by decide) (by omega)
  rw [Nat.pow_succ] at hp
  have := ih (i + 1) k (by omega) (by omega)
  rw [Nat.pow_succ] at this
  rw [wr (by omega) (by omega), wr (by omega) (by omega), show ((2 ^ i : Nat) : Int) + ((2 ^ i : Nat) : Int) = ((2 ^ i * 2 : Nat) : Int) from by omega]
  exact this
theorem power_ev (n : Nat) (hn : n ≤ 62) : Ev (fun k => bs_Power.f k (n : Int)) ((2 ^ n : Nat) : Int) :=
 ⟨n + 1, fun k hk => power_l0 n hn n 0 k (by omega) (by omega)⟩
theorem nat_l0 : ∀ (n : Nat), n ≤ 9223372036854775807 → ∀ x k, x.length + n < 17592186044416 * 1000000 → n < k → x.length + (digs n).length < 17592186044416 → r8_Nat.l0 k (n : Int) x = some (x ++ digs n) := by
 intro n
 induction n using Nat.strongRecOn with
 | ind n ih =>
  intro hn x k hx hk hd
  obtain ⟨k, rfl⟩ : ∃ k', k = k' + 1 := ⟨k - 1, by omega⟩
  rw [r8_Nat.l0]
  by_cases h0 : n = 0
  ·subst h0; simp [digs_zero]
  ·rw [digs_pos h0] at hd ⊢
   simp only [List.length_cons] at hd
   rw [if_pos (by omega), if_pos (by omega)]
   have e1 : wrap64 (Int.tdiv (n : Int) 65536) = ((n / 65536 : Nat) : Int) := by
    rw [show Int.tdiv (n : Int) 65536 = ((n / 65536 : Nat) : Int) from rfl, wr (by omega) (by omega)]
   have e2 : Int.tmod (n : Int) 65536 = ((n % 65536 : Nat) : Int) := rfl
   rw [e1, e2, ih (n / 65536) (by omega) (by omega) _ k (by simp; omega) (by omega) (by simp; omega)]
   simp
theorem nat_ev (n : Nat) (hn : n ≤ 9223372036854775807) : Ev (fun k => r8_Nat.f k (n : Int)) (digs n) := by
 refine ⟨n + 1, fun k hk => ?_⟩
 have : (digs n).length ≤ 4 := digs_len (by omega)
 exact nat_l0 n hn [] k (by simp; omega) (by omega) (by simp; omega)
theorem int_l0 (a : Nat) (ha : a ≤ 9223372036854775807) : ∀ j k, j ≤ (digs a).length → j < k → r8_Int.l0 k (digs a) (val ((digs a).drop j) : Int) ((j : Int) - 1) = some (a : Int) := by
 have hd := dig_digs a
 intro j
 induction j with
 | zero =>
  intro k _ hk
  obtain ⟨k, rfl⟩ : ∃ k', k = k' + 1 := ⟨k - 1, by omega⟩
  rw [r8_Int.l0, if_neg (by omega), List.drop_zero, val_digs]
 | succ j ih =>
  intro k hj hk
  obtain ⟨k, rfl⟩ : ∃ k', k = k' + 1 := ⟨k - 1, by omega⟩
  rw [show ((j + 1 : Nat) : Int) - 1 = (j : Int) from by omega, r8_Int.l0, if_pos (by omega), if_pos (by omega), if_pos (by omega), rd_nat]
  have e := val_drop (digs a) j
  obtain ⟨d, hd1, hd2⟩ := hd.nat j
  rw [hd1] at e ⊢
  have hs := val_split (digs a) j (by omega)
  rw [val_digs] at hs
  have h1 : val ((digs a).drop j) ≤ a := by
   have : 1 * val ((digs a).drop j) ≤ 65536 ^ j * val ((digs a).drop j) := Nat.mul_le_mul_right _ (Nat.pow_pos (by decide))
   omega
  simp only [Int.toNat_natCast] at e
  rw [wr (n := 65536 * _) (by omega) (by omega), wr (n := _ + (d : Int)) (by omega) (by omega), show (65536 * (val ((digs a).drop (j + 1)) : Int) + (d : Int)) = (val ((digs a).drop j) : Int) from by omega, wr (by have := hj; omega) (by have : (digs a).length ≤ 4 := digs_len (by omega); omega)]
  exact ih k (by omega) (by omega)
theorem int_ev (a : Nat) (ha : a ≤ 9223372036854775807) : Ev (fun k => r8_Int.f k (digs a)) (a : Int) := by
 refine ⟨(digs a).length + 1, fun k hk => ?_⟩
 have hl : (digs a).length ≤ 4 := digs_len (by omega)
 have := int_l0 a ha (digs a).length k (Nat.le_refl _) (by omega)
 rw [List.drop_length] at this
 show r8_Int.f k (digs a) = _
 unfold r8_Int.f
 rw [wr (by omega) (by omega)]
 exact this
def ordN (a b : Nat) : Int := if a < b then -1 else if a = b then 0 else 1
theorem digs_len_lt {a b : Nat} (h : (digs a).length < (digs b).length) : a < b := by
 have h1 := val_lt (dig_digs a)
 rw [val_digs] at h1
 have hb : b ≠ 0 := by rintro rfl; simp [digs_zero] at h
 have h2 := digs_low hb
 have : 65536 ^ (digs a).length ≤ 65536 ^ ((digs b).length - 1) := Nat.pow_le_pow_right (by decide) (by omega)
 omega
theorem order_l0 (a b : Nat) (hab : (digs a).length = (digs b).length) (hl : (digs a).length < 9223372036854775807) : ∀ j k, j ≤ (digs a).length → j < k → val ((digs a).drop j) = val ((digs b).drop j) → r8_Order.l0 k (digs a) (digs b) ((j : Int) - 1) = some (ordN a b) := by
 intro j
 induction j with
 | zero =>
  intro k _ hk he
  obtain ⟨k, rfl⟩ : ∃ k', k = k' + 1 := ⟨k - 1, by omega⟩
  rw [List.drop_zero, List.drop_zero, val_digs, val_digs] at he
  rw [r8_Order.l0, if_neg (by omega)]
  simp [ordN, he]
 | succ j ih =>
  intro k hj hk he
  obtain ⟨k, rfl⟩ : ∃ k', k = k' + 1 := ⟨k - 1, by omega⟩
  rw [show ((j + 1 : Nat) : Int) - 1 = (j : Int) from by omega, r8_Order.l0, if_pos (by omega), if_pos (by omega), if_pos (by omega), if_pos (by omega), rd_nat, rd_nat]
  have e1 := val_drop (digs a) j
  have e2 := val_drop (digs b) j
  obtain ⟨x, hx1, hx2⟩ := (dig_digs a).nat j
  obtain ⟨y, hy1, hy2⟩ := (dig_digs b).nat j
  rw [hx1] at e1 ⊢
  rw [hy1] at e2 ⊢
  simp only [Int.toNat_natCast] at e1 e2
  by_cases hxy : x = y
  ·subst hxy
   rw [if_pos rfl, wr (by omega) (by omega)]
   exact ih k (by omega) (by omega) (by omega)
  ·rw [if_neg (by omega), bit_f]
   have s1 := val_split (digs a) j (by omega)
   have s2 := val_split (digs b) j (by omega)
   rw [val_digs] at s1 s2
   have l1 := val_lt ((dig_digs a).take j)
   have l2 := val_lt ((dig_digs b).take j)
   rw [List.length_take, Nat.min_eq_left (by omega)] at l1 l2
   have hp : ∀ u v P s t : Nat, s < P → u < v → s + P * u < t + P * v := by
    intro u v P s t hs huv
    have := Nat.mul_le_mul_left P (show u + 1 ≤ v from huv)
    rw [Nat.mul_succ] at this
    omega
   by_cases hlt : x < y
   ·have := hp (val ((digs a).drop j)) (val ((digs b).drop j)) (65536 ^ j) _ (val ((digs b).take j)) l1 (by omega)
    rw [show ordN a b = -1 from by unfold ordN; rw [if_pos (by omega)]]
    simp only [show ((x : Int) < (y : Int)) from by omega, decide_true, if_true, Option.bind_some]
    simp [wrap64]
   ·have := hp (val ((digs b).drop j)) (val ((digs a).drop j)) (65536 ^ j) _ (val ((digs a).take j)) l2 (by omega)
    rw [show ordN a b = 1 from by unfold ordN; rw [if_neg (by omega), if_neg (by omega)]]
    simp only [show ¬ ((x : Int) < (y : Int)) from by omega, decide_false, Option.bind_some]
    simp [wrap64]
theorem order_ev (a b : Nat) (hl : (digs a).length < 9223372036854775807) : Ev (fun k => r8_Order.f k (digs a) (digs b)) (ordN a b) := by
 refine ⟨(digs a).length + 1, fun k hk => ?_⟩
 show r8_Order.f k (digs a) (digs b) = _
 unfold r8_Order.f
 by_cases h : (digs a).length = (digs b).length
 ·rw [if_pos (by omega), wr (by omega) (by omega)]
  exact order_l0 a b h hl _ k (Nat.le_refl _) (by omega) (by rw [List.drop_length, h, List.drop_length])
 ·rw [if_neg (by omega), bit_f]
  by_cases h1 : (digs a).length < (digs b).length
  ·have := digs_len_lt h1
   rw [show ordN a b = -1 from by unfold ordN; rw [if_pos this]]
   simp only [show (((digs a).length : Int) < ((digs b).length : Int)) from by omega, decide_true, if_true, Option.bind_some]
   simp [wrap64]
  ·have := digs_len_lt (a := b) (b := a) (by omega)
   rw [show ordN a b = 1 from by unfold ordN; rw [if_neg (by omega), if_neg (by omega)]]
   simp only [show ¬ (((digs a).length : Int) < ((digs b).length : Int)) from by omega, decide_false, Option.bind_some]
   simp [wrap64]
end Go.Proofs.YtmoimcblmmcffaaGreatDoor.N

namespace Go.Proofs.YtmoimcblmmcffaaGreatDoor.N
open Go.RowKit Go.Proofs.YtmoimcblmmcffaaGreatDoorW.PrintWords Go.Proofs.YtmoimcblmmcffaaGreatDoorW.PrintLast Go.Proofs.YtmoimcblmmcffaaGreatDoorW.PrintMore Go.Proofs.YtmoimcblmmcffaaGreatDoor.PN
set_option linter.unusedSimpArgs false
set_option linter.unusedVariables false
theorem val_drop_nil {l : List Int} {i : Nat} (h : l.length ≤ i) : val (l.drop i) = 0 := by rw [List.drop_eq_nil_of_le h]; rfl
theorem mx_nat (a b : Nat) : mx (a : Int) (b : Int) = ((max a b : Nat) : Int) := by
 unfold mx
 by_cases h : a < b
 ·rw [if_pos (by omega), Nat.max_eq_right (by omega)]
 ·rw [if_neg (by omega), Nat.max_eq_left (by omega)]
theorem mn_nat (a b : Nat) : mn (a : Int) (b : Int) = ((min a b : Nat) : Int) := by
 unfold mn
 by_cases h : b < a
 ·rw [if_pos (by omega), Nat.min_eq_right (by omega)]
 ·rw [if_neg (by omega), Nat.min_eq_left (by omega)]
def Lim : Nat := 100000
theorem val_push (x : List Int) (d : Nat) : val (x ++ [(d : Int)]) = val x + 65536 ^ x.length * d := by
 rw [val_append]; simp [val]
theorem Dig.push {x : List Int} (hx : Dig x) {d : Nat} (h : d < 65536) : Dig (x ++ [(d : Int)]) :=
 hx.append (fun e he => by simp at he; subst he; omega)
theorem plus_l0 (a b : List Int) (ha : Dig a) (hb : Dig b) (la : a.length ≤ Lim) (lb : b.length ≤ Lim) (S : Nat) :
  ∀ m k x (c i : Nat), Dig x → x.length = i → c ≤ 1 → 2 * (max a.length b.length - i) + c ≤ m → i + m ≤ 4 * Lim → 3 * m + i + 5 ≤ k →
   val x + 65536 ^ i * (c + val (a.drop i) + val (b.drop i)) = S → r8_Plus.l0 k a b x (c : Int) (i : Int) = some (digs S) := by
 unfold Lim at *
 intro m
 induction m with
 | zero =>
  intro k x c i hx hl hc hm him hk hs
  obtain ⟨k, rfl⟩ : ∃ k', k = k' + 2 := ⟨k - 2, by omega⟩
  rw [r8_Plus.l0, mx_nat, if_neg (by omega), show decide ((c : Int) > 0) = false from by simp; omega, r8_Plus.j1, if_neg (by decide), trim_k hx (by omega) (by omega)]
  rw [val_drop_nil (by omega), val_drop_nil (by omega), show c = 0 from by omega] at hs
  simp at hs
  simp [hs]
 | succ m ih =>
  intro k x c i hx hl hc hm him hk hs
  obtain ⟨k, rfl⟩ : ∃ k', k = k' + 2 := ⟨k - 2, by omega⟩
  by_cases hend : ¬ (i < max a.length b.length) ∧ c = 0
  ·obtain ⟨h1, rfl⟩ := hend
   rw [r8_Plus.l0, mx_nat, if_neg (by omega), show decide (((0 : Nat) : Int) > 0) = false from by decide, r8_Plus.j1, if_neg (by decide), trim_k hx (by omega) (by omega)]
   rw [val_drop_nil (by omega), val_drop_nil (by omega)] at hs
   simp at hs
   simp [hs]
  ·have hj : r8_Plus.l0 (k + 2) a b x (c : Int) (i : Int) = r8_Plus.j1 (k + 1) a b x (c : Int) (i : Int) true := by
    rw [r8_Plus.l0, mx_nat]
    by_cases h1 : i < max a.length b.length
    ·rw [if_pos (by omega)]
    ·rw [if_neg (by omega), show decide ((c : Int) > 0) = true from by simp; omega]
   obtain ⟨d, hd1, hd2⟩ := ha.nat i
   obtain ⟨e, he1, he2⟩ := hb.nat i
   have va := val_drop a i
   have vb := val_drop b i
   rw [hd1, Int.toNat_natCast] at va
   rw [he1, Int.toNat_natCast] at vb
   rw [hj, r8_Plus.j1, if_pos rfl, digit_f, digit_f, hd1, he1]
   simp only [Option.bind_some]
   rw [if_pos (by omega), wr (n := (d : Int) + e) (by omega) (by omega), wr (n := (d : Int) + e + c) (by omega) (by omega), wr (n := (i : Int) + 1) (by omega) (by omega)]
   have e1 : Int.tmod ((d : Int) + e + c) 65536 = (((d + e + c) % 65536 : Nat) : Int) := by
    rw [show (d : Int) + e + c = ((d + e + c : Nat) : Int) from by omega]; rfl
   have e2 : Int.tdiv ((d : Int) + e + c) 65536 = (((d + e + c) / 65536 : Nat) : Int) := by
    rw [show (d : Int) + e + c = ((d + e + c : Nat) : Int) from by omega]; rfl
   rw [e1, e2, wr (by omega) (by omega)]
   have hd0 : ¬ i < a.length → d = 0 := fun h => by
    rw [List.getD_eq_getElem?_getD, List.getElem?_eq_none (by omega)] at hd1
    simp at hd1; omega
   have he0 : ¬ i < b.length → e = 0 := fun h => by
    rw [List.getD_eq_getElem?_getD, List.getElem?_eq_none (by omega)] at he1
    simp at he1; omega
   refine ih k _ ((d + e + c) / 65536) (i + 1) (hx.push (Nat.mod_lt _ (by decide))) (by simp [hl]) ?_ ?_ (by omega) (by omega) ?_
   ·by_cases h1 : i < max a.length b.length
    ·omega
    ·omega
   ·by_cases h1 : i < max a.length b.length
    ·omega
    ·have := hd0 (by omega)
     have := he0 (by omega)
     omega
   ·rw [val_push, hl, ← hs, va, vb, Nat.pow_succ, Nat.mul_assoc, Nat.add_assoc, ← Nat.mul_add]
    congr 2
    omega
theorem plus_ev (a b : Nat) (la : (digs a).length ≤ Lim) (lb : (digs b).length ≤ Lim) : Ev (fun k => r8_Plus.f k (digs a) (digs b)) (digs (a + b)) := by
 refine ⟨8 * Lim, fun k hk => ?_⟩
 show r8_Plus.f k (digs a) (digs b) = _
 unfold r8_Plus.f
 have e := plus_l0 (digs a) (digs b) (dig_digs a) (dig_digs b) la lb (a + b) (2 * Lim) k [] 0 0 (fun _ h => by cases h) rfl (by decide) (by unfold Lim at *; omega) (by unfold Lim; omega) (by unfold Lim at *; omega)
  (by simp [val, val_digs])
 exact e
theorem minus_l0 (a b : List Int) (ha : Dig a) (hb : Dig b) (la : a.length ≤ Lim) (S : Nat) :
  ∀ m k x (c i : Nat), Dig x → x.length = i → c ≤ 1 → i + m = a.length → m + a.length + 3 ≤ k →
   val x + 65536 ^ i * val (a.drop i) = S + 65536 ^ i * (c + val (b.drop i)) → r8_Minus.l0 k a b x (c : Int) (i : Int) = some (digs S) := by
 unfold Lim at *
 intro m
 induction m with
 | zero =>
  intro k x c i hx hl hc hi hk hs
  obtain ⟨k, rfl⟩ : ∃ k', k = k' + 1 := ⟨k - 1, by omega⟩
  rw [r8_Minus.l0, if_neg (by omega), trim_k hx (by omega) (by omega)]
  have hv := val_lt hx
  rw [hl] at hv
  rw [val_drop_nil (l := a) (by omega)] at hs
  have : c + val (b.drop i) = 0 := by
   by_cases h0 : c + val (b.drop i) = 0
   ·exact h0
   ·have := Nat.mul_le_mul_left (65536 ^ i) (show 1 ≤ c + val (b.drop i) from by omega)
    omega
  rw [this] at hs
  simp at hs
  simp [hs]
 | succ m ih =>
  intro k x c i hx hl hc hi hk hs
  obtain ⟨k, rfl⟩ : ∃ k', k = k' + 1 := ⟨k - 1, by omega⟩
  obtain ⟨d, hd1, hd2⟩ := ha.nat i
  obtain ⟨e, he1, he2⟩ := hb.nat i
  have va := val_drop a i
  have vb := val_drop b i
  rw [hd1, Int.toNat_natCast] at va
  rw [he1, Int.toNat_natCast] at vb
  rw [r8_Minus.l0, if_pos (by omega), if_pos (by omega), digit_f, rd_nat, hd1, he1]
  simp only [Option.bind_some]
  rw [wr (n := (d : Int) - e) (by omega) (by omega), wr (n := (d : Int) - e - c) (by omega) (by omega), wr (n := (i : Int) + 1) (by omega) (by omega), bit_f]
  simp only [Option.bind_some]
  rw [if_pos (by omega)]
  by_cases hlt : (d : Int) - e - c < 0
  ·rw [decide_eq_true hlt, if_pos rfl, wr (n := 65536 * 1) (by decide) (by decide), wr (by omega) (by omega), show (d : Int) - e - c + 65536 * 1 = ((d + 65536 - e - c : Nat) : Int) from by omega]
   refine ih k _ 1 (i + 1) (hx.push (by omega)) (by simp [hl]) (by decide) (by omega) (by omega) ?_
   rw [val_push, hl, Nat.pow_succ, Nat.mul_assoc, Nat.mul_assoc]
   rw [va, vb, ← Nat.add_assoc] at hs
   obtain ⟨t, ht⟩ : ∃ t, d + 65536 - e - c = t := ⟨_, rfl⟩
   rw [ht]
   have h1 : d + 65536 = t + (c + e) := by omega
   have h2 : 65536 ^ i * (d + 65536) = 65536 ^ i * (t + (c + e)) := by rw [h1]
   simp only [Nat.mul_add, Nat.mul_one] at hs h2 ⊢
   omega
  ·rw [decide_eq_false hlt, if_neg (by decide), wr (n := 65536 * 0) (by decide) (by decide), wr (by omega) (by omega), show (d : Int) - e - c + 65536 * 0 = ((d - e - c : Nat) : Int) from by omega]
   refine ih k _ 0 (i + 1) (hx.push (by omega)) (by simp [hl]) (by decide) (by omega) (by omega) ?_
   rw [val_push, hl, Nat.pow_succ, Nat.mul_assoc, Nat.mul_assoc]
   rw [va, vb, ← Nat.add_assoc] at hs
   obtain ⟨t, ht⟩ : ∃ t, d - e - c = t := ⟨_, rfl⟩
   rw [ht]
   have h1 : d = t + (c + e) := by omega
   have h2 : 65536 ^ i * d = 65536 ^ i * (t + (c + e)) := by rw [← h1]
   simp only [Nat.mul_add, Nat.mul_one, Nat.mul_zero, Nat.zero_add, Nat.add_zero] at hs h2 ⊢
   omega
theorem minus_ev (a b : Nat) (la : (digs a).length ≤ Lim) (h : b ≤ a) : Ev (fun k => r8_Minus.f k (digs a) (digs b)) (digs (a - b)) := by
 refine ⟨8 * Lim, fun k hk => ?_⟩
 show r8_Minus.f k (digs a) (digs b) = _
 unfold r8_Minus.f
 have e := minus_l0 (digs a) (digs b) (dig_digs a) (dig_digs b) la (a - b) (digs a).length k [] 0 0 (fun _ h => by cases h) rfl (by decide) (by omega) (by unfold Lim at *; omega)
  (by simp [val, val_digs]; omega)
 exact e
theorem length_l0 (a : Nat) (h0 : a ≠ 0) (la : (digs a).length ≤ Lim) : ∀ m n k, n + m = 17 → m + 70 ≤ k → 2 ^ (16 * ((digs a).length - 1) + n) ≤ 2 * a → r8_Length.l0 k (digs a) (n : Int) = some ((a.log2 + 1 : Nat) : Int) := by
 unfold Lim at *
 have hp : 0 < (digs a).length := by rw [digs_pos h0]; simp
 obtain ⟨j, hj⟩ : ∃ j, (digs a).length = j + 1 := ⟨_, (Nat.sub_add_cancel hp).symm⟩
 have hs := val_split (digs a) j (by omega)
 rw [val_digs, val_drop (digs a) j, val_drop_nil (i := j + 1) (by omega), Nat.mul_zero, Nat.add_zero] at hs
 obtain ⟨d, hd1, hd2⟩ := (dig_digs a).nat j
 have hlt := val_lt ((dig_digs a).take j)
 rw [List.length_take, Nat.min_eq_left (by omega), show (65536 : Nat) = 2 ^ 16 from rfl, ← Nat.pow_mul] at hlt
 rw [hd1, Int.toNat_natCast, show 65536 ^ j = 2 ^ (16 * j) from by rw [show (65536 : Nat) = 2 ^ 16 from rfl, ← Nat.pow_mul]] at hs
 intro m
 induction m with
 | zero =>
  intro n k hn hk hle
  exfalso
  rw [hj, Nat.add_sub_cancel, Nat.pow_add, show n = 17 from by omega] at hle
  have : 2 ^ (16 * j) * d ≤ 2 ^ (16 * j) * 65535 := Nat.mul_le_mul_left _ (by omega)
  omega
 | succ m ih =>
  intro n k hn hk hle
  obtain ⟨k, rfl⟩ : ∃ k', k = k' + 1 := ⟨k - 1, by omega⟩
  have hpw : bs_Power.f k (n : Int) = some ((2 ^ n : Nat) : Int) := power_l0 n (by omega) n 0 k (by omega) (by omega)
  rw [r8_Length.l0, hj, wr (n := ((j + 1 : Nat) : Int) - 1) (by omega) (by omega), show ((j + 1 : Nat) : Int) - 1 = (j : Int) from by omega, if_pos (by omega), if_pos (by omega), hpw, rd_nat, hd1]
  simp only [Option.bind_some]
  rw [hj, Nat.add_sub_cancel, Nat.pow_add] at hle
  by_cases hge : 2 ^ n ≤ d
  ·rw [if_pos (by omega), wr (by omega) (by omega)]
   refine ih (n + 1) k (by omega) (by omega) ?_
   rw [hj, Nat.add_sub_cancel, ← Nat.add_assoc, Nat.pow_succ, Nat.pow_add, Nat.mul_comm]
   refine Nat.mul_le_mul_left _ ?_
   have := Nat.mul_le_mul_left (2 ^ (16 * j)) hge
   omega
  ·rw [if_neg (by omega), wr (n := 16 * (j : Int)) (by omega) (by omega), wr (by omega) (by omega)]
   congr 1
   have hn0 : n ≠ 0 := by
    rintro rfl
    have : d = 0 := by simpa using hge
    subst this
    simp at hs
    have := digs_low h0
    rw [hj, Nat.add_sub_cancel, show (65536 : Nat) = 2 ^ 16 from rfl, ← Nat.pow_mul] at this
    omega
   obtain ⟨n, rfl⟩ : ∃ q, n = q + 1 := ⟨n - 1, by omega⟩
   have hlog : a.log2 = 16 * j + n := by
    refine (Nat.log2_eq_iff h0).2 ⟨?_, ?_⟩
    ·rw [Nat.pow_add]
     rw [Nat.pow_succ, ← Nat.mul_assoc] at hle
     omega
    ·rw [show 16 * j + n + 1 = 16 * j + (n + 1) from by omega, Nat.pow_add]
     have := Nat.mul_le_mul_left (2 ^ (16 * j)) (show d + 1 ≤ 2 ^ (n + 1) from by omega)
     rw [Nat.mul_add] at this
     omega
   rw [hlog]
   omega
def bits (a : Nat) : Nat := if a = 0 then 0 else a.log2 + 1
theorem length_ev (a : Nat) (la : (digs a).length ≤ Lim) : Ev (fun k => r8_Length.f k (digs a)) (bits a : Int) := by
 refine ⟨100, fun k hk => ?_⟩
 show r8_Length.f k (digs a) = _
 unfold r8_Length.f bits
 by_cases h0 : a = 0
 ·subst h0; simp [digs_zero]
 ·have := (not_congr digs_nil).2 h0
  rw [if_neg (by omega), if_neg h0]
  refine length_l0 a h0 la 17 0 k rfl (by omega) ?_
  have := digs_low h0
  rw [show (65536 : Nat) = 2 ^ 16 from rfl, ← Nat.pow_mul] at this
  rw [Nat.add_zero]
  omega
end Go.Proofs.YtmoimcblmmcffaaGreatDoor.N
