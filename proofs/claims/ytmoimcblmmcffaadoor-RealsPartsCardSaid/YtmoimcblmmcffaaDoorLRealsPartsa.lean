/- Lemmas of this law (texts joined by program). -/
import Derived.Test.YtmoimcblmmcffaaDoorCards
import Derived.Test.YtmoimcblmmcffaaDoorTie
import Derived.WalkKit
import Derived.ProofKit
import Derived.OpenShut
import Derived.Deep.DeepHandedRow
import Derived.Lib.LaidTab
import Derived.Lib.SmallJoins
import Derived.Laws.BitsAllLaws
import Derived.Test.YtmoimcblmmcffaaDoorProg
import Derived.Below
import Derived.Deep.Draws
import Derived.Deep.AppendLies
import Derived.Maps.AppendAt
import Derived.OwnWalk
import Derived.Laws.BytesArg
import Derived.Laws.MakeOwn
import Derived.Laws.OwnMore
import Derived.Deep.OwnRows
import Derived.Tactics
import Derived.Lib.ConvBytes
import Derived.Laws.Slices
import Derived.KernelRfl
import Derived.RowKit3
import Derived.Deep.LoopGhost
import Derived.Deep.QuietTactic
import Derived.BigQuiet
import Derived.WideLaws
import Derived.Deep.DeepCutAuto
import Derived.Deep.CutBlock
import Derived.Deep.RegionHeld3
import Derived.Laws.Rows
import Derived.Lib.AppendStr
import Derived.ArgAppend
import Derived.Laws.IdiomCopy
import Derived.OrdersHeld
import Derived.Laws.BitsLemmas
import Derived.RowKit
import Derived.Test.YtmoimcblmmcffaaDoorMW
import Derived.Test.YtmoimcblmmcffaaDoorMF

/-! A world for the witness of a row that lists the table, and what both cards ask. -/
namespace Go.Proofs.YtmoimcblmmcffaaDoor.Law
open Go.ChangeShapes Go.WideShapes Go.ChangeAt Go.RowKit

theorem own : ownKnob Tryd.prog.godebug = none := by kernel_rfl
def tab : Array Value := #[.int .u8 0, .int .u8 1, .int .u8 56, .int .u8 2, .int .u8 57, .int .u8 49, .int .u8 28, .int .u8 3, .int .u8 61, .int .u8 58, .int .u8 42, .int .u8 50, .int .u8 38, .int .u8 29, .int .u8 17, .int .u8 4, .int .u8 62, .int .u8 47, .int .u8 59, .int .u8 36, .int .u8 45, .int .u8 43, .int .u8 51, .int .u8 22, .int .u8 53, .int .u8 39, .int .u8 33, .int .u8 30, .int .u8 24, .int .u8 18, .int .u8 12, .int .u8 5, .int .u8 63, .int .u8 55, .int .u8 48, .int .u8 27, .int .u8 60, .int .u8 41, .int .u8 37, .int .u8 16, .int .u8 46, .int .u8 35, .int .u8 44, .int .u8 21, .int .u8 52, .int .u8 32, .int .u8 23, .int .u8 11, .int .u8 54, .int .u8 26, .int .u8 40, .int .u8 15, .int .u8 34, .int .u8 20, .int .u8 31, .int .u8 10, .int .u8 25, .int .u8 14, .int .u8 19, .int .u8 9, .int .u8 13, .int .u8 8, .int .u8 7, .int .u8 6]
/-- The settled world, the table holding what the program lays. -/
noncomputable def laidWorld (os : Os) : World :=
  { World.holding Tryd.prog os ⟨#[], #[], []⟩ with heap := (World.holding Tryd.prog os ⟨#[], #[], []⟩).heap.modify 1 fun
      | .cells _ t frozen => .cells tab t frozen
      | o => o }
theorem u64_wf {a : Int} (h : (Lit.int .u64 a).wf = true) : 0 ≤ a ∧ a ≤ 18446744073709551615 := by
  have h' : (decide (0 ≤ a) && decide (a ≤ 18446744073709551615)) = true := h
  simpa using h'
theorem i64_wf {a : Int} (h : (Lit.int .i64 a).wf = true) : -9223372036854775808 ≤ a ∧ a ≤ 9223372036854775807 := by
  have h' : (decide (-9223372036854775808 ≤ a) && decide (a ≤ 9223372036854775807)) = true := h
  simpa using h'
end Go.Proofs.YtmoimcblmmcffaaDoor.Law

/-! The errors of parts, the reference's and the program's, and the program's bits of parts. -/
namespace Go.Proofs.YtmoimcblmmcffaaDoor.NC
open Go.RowKit Go.Proofs.YtmoimcblmmcffaaDoor.B Go.Proofs.YtmoimcblmmcffaaDoor.N
set_option linter.unusedSimpArgs false
set_option linter.unusedVariables false

/-- The error of parts of a type. -/
def partsErrV (s : Bool) (k : Int) (neg : Bool) (m e : Int) : Int :=
  if 0 ≤ k ∧ k ≤ 3 then
    if k = 1 then
      if ¬ (1 ≤ m ∧ m ≤ topM s) then 2 else if ¬ (leastN s ≤ e ∧ e ≤ mostN s) then 2 else if m < lowI s ∧ e ≠ leastN s then 2 else 0
    else if m ≠ 0 then 3 else if e ≠ 0 then 3 else if k = 3 ∧ neg = true then 3 else 0
  else 15
inductive PartsLeaf (s : Bool) : Int → Bool → Int → Int → Int → Prop
  | kind {k neg m e} (h : decide (0 ≤ k ∧ k ≤ 3) = false) : PartsLeaf s k neg m e 15
  | m0 {k neg m e} (h : decide (0 ≤ k ∧ k ≤ 3) = true) (h1 : (k != 1) = true) (h2 : (m != 0) = true) : PartsLeaf s k neg m e 3
  | e0 {k neg e} (h : decide (0 ≤ k ∧ k ≤ 3) = true) (h1 : (k != 1) = true) (h2 : (e != 0) = true) : PartsLeaf s k neg 0 e 3
  | nneg : PartsLeaf s 3 true 0 0 3
  | nan : PartsLeaf s 3 false 0 0 0
  | zero {neg} : PartsLeaf s 0 neg 0 0 0
  | inf {neg} : PartsLeaf s 2 neg 0 0 0
  | bad1 {neg m e} (h1 : decide (1 ≤ m ∧ m ≤ topM s) = false) : PartsLeaf s 1 neg m e 2
  | bad2 {neg m e} (h1 : decide (1 ≤ m ∧ m ≤ topM s) = true) (h2 : decide (leastN s ≤ e ∧ e ≤ mostN s) = false) : PartsLeaf s 1 neg m e 2
  | bad3 {neg m e} (h1 : decide (1 ≤ m ∧ m ≤ topM s) = true) (h2 : decide (leastN s ≤ e ∧ e ≤ mostN s) = true) (h3 : m < lowI s) (h4 : (e != leastN s) = true) : PartsLeaf s 1 neg m e 2
  | low {neg m} (h1 : decide (1 ≤ m ∧ m ≤ topM s) = true) (h3 : m < lowI s) : PartsLeaf s 1 neg m (leastN s) 0
  | high {neg m e} (h1 : decide (1 ≤ m ∧ m ≤ topM s) = true) (h2 : decide (leastN s ≤ e ∧ e ≤ mostN s) = true) (h3 : lowI s ≤ m) : PartsLeaf s 1 neg m e 0
theorem parts_err_leaf (s : Bool) (k : Int) (neg : Bool) (m e : Int) : PartsLeaf s k neg m e (partsErrV s k neg m e) := by
  unfold partsErrV
  by_cases hk : 0 ≤ k ∧ k ≤ 3
  · rw [if_pos hk]
    have dk : decide (0 ≤ k ∧ k ≤ 3) = true := decide_eq_true hk
    by_cases k1 : k = 1
    · subst k1
      rw [if_pos rfl]
      by_cases h1 : 1 ≤ m ∧ m ≤ topM s
      · rw [if_neg (fun h => h h1)]
        have d1 := decide_eq_true h1
        by_cases h2 : leastN s ≤ e ∧ e ≤ mostN s
        · rw [if_neg (fun h => h h2)]
          have d2 := decide_eq_true h2
          by_cases h3 : m < lowI s
          · by_cases h4 : e = leastN s
            · rw [if_neg (fun h => h.2 h4)]
              subst h4
              exact .low d1 h3
            · rw [if_pos ⟨h3, h4⟩]
              exact .bad3 d1 d2 h3 (by simpa using h4)
          · rw [if_neg (fun h => h3 h.1)]
            exact .high d1 d2 (by omega)
        · rw [if_pos h2]; exact .bad2 d1 (decide_eq_false h2)
      · rw [if_pos h1]; exact .bad1 (decide_eq_false h1)
    · rw [if_neg k1]
      have d1 : (k != 1) = true := by simpa using k1
      by_cases hm : m = 0
      · subst hm
        rw [if_neg (fun h => h rfl)]
        by_cases he : e = 0
        · subst he
          rw [if_neg (fun h => h rfl)]
          have h4 : k = 0 ∨ k = 2 ∨ k = 3 := by omega
          rcases h4 with rfl | rfl | rfl
          · rw [if_neg (fun h => absurd h.1 (by decide))]; exact .zero
          · rw [if_neg (fun h => absurd h.1 (by decide))]; exact .inf
          · cases neg
            · rw [if_neg (fun h => absurd h.2 (by decide))]; exact .nan
            · rw [if_pos ⟨rfl, rfl⟩]; exact .nneg
        · rw [if_pos he]; exact .e0 dk d1 (by simpa using he)
      · rw [if_pos hm]; exact .m0 dk d1 (by simpa using hm)
  · rw [if_neg hk]; exact .kind (decide_eq_false hk)

set_option maxRecDepth 100000 in
set_option maxHeartbeats 8000000 in
theorem partsErr_c (s : Bool) (k : Int) (neg : Bool) (m e : Int) (w : World) : Calls Tryd.prog 39 #[.int .i64 (tv s), .agg #[.int .i64 k, .bool neg, .int .i64 m, .int .i64 e]] w (Ret (.int .i64 (partsErrV s k neg m e)) w) := by
  have hL := parts_err_leaf s k neg m e
  generalize partsErrV s k neg m e = R at *
  have c1 := formatOf_c s
  have c2 := fun w => within_c k 0 3 w
  have c3 := fun w => within_c m 1 (topM s) w
  have c4 := fun w => within_c e (leastN s) (mostN s) w
  have c5 := fun w => power_c (n := 23) w (by decide)
  have c6 := fun w => power_c (n := 52) w (by decide)
  cases s
  · unfold fmtV at c1
    replace c1 : ∀ w, Calls Tryd.prog 52 #[.int .i64 2] w _ := c1
    replace c5 : ∀ w, Calls Tryd.prog 61 #[.int .i64 52] w (Ret (.int .i64 4503599627370496) w) := c6
    clear c6
    show Calls Tryd.prog 39 #[.int .i64 2, _] w _
    cases hL with
    | kind h =>
      rw [h] at c2
      simp only [topM, leastN, mostN, lowI] at *
      go_enter Tryd.func39, Tryd.ntmps39
      go_upto_region 2 with (go_at_call 52; refine (c1 _).mono ?_; rintro e w1 ⟨rfl, hb1⟩)
      refine hide_arg hb1 (fun W kp kf hs0 hs HE => ?_)
      clear hb1 c1
      generalize w1.heap.size = g at *
      go_wp2_with (first | (go_at_call 46; (with_reducible refine (c2 _).mono ?_); rintro e w2 ⟨rfl, hb2⟩; have HE := HE.call hb2) | (go_at_call 61; (with_reducible refine (c5 _).mono ?_); rintro e w3 ⟨rfl, hb3⟩; have HE := HE.call hb3) | (go_at_call 46; (with_reducible refine (c3 _).mono ?_); rintro e w4 ⟨rfl, hb4⟩; have HE := HE.call hb4) | (go_at_call 46; (with_reducible refine (c4 _).mono ?_); rintro e w5 ⟨rfl, hb5⟩; have HE := HE.call hb5))
      go_ret
      exact ⟨rfl, Ext.end HE⟩
    | m0 h h1 h2 =>
      rw [h] at c2
      simp only [topM, leastN, mostN, lowI] at *
      go_enter Tryd.func39, Tryd.ntmps39
      go_upto_region 2 with (go_at_call 52; refine (c1 _).mono ?_; rintro e w1 ⟨rfl, hb1⟩)
      refine hide_arg hb1 (fun W kp kf hs0 hs HE => ?_)
      clear hb1 c1
      generalize w1.heap.size = g at *
      go_wp2_with (first | (go_at_call 46; (with_reducible refine (c2 _).mono ?_); rintro e w2 ⟨rfl, hb2⟩; have HE := HE.call hb2) | (go_at_call 61; (with_reducible refine (c5 _).mono ?_); rintro e w3 ⟨rfl, hb3⟩; have HE := HE.call hb3) | (go_at_call 46; (with_reducible refine (c3 _).mono ?_); rintro e w4 ⟨rfl, hb4⟩; have HE := HE.call hb4) | (go_at_call 46; (with_reducible refine (c4 _).mono ?_); rintro e w5 ⟨rfl, hb5⟩; have HE := HE.call hb5))
      go_ret
      exact ⟨rfl, Ext.end HE⟩
    | e0 h h1 h2 =>
      rw [h] at c2
      simp only [topM, leastN, mostN, lowI] at *
      go_enter Tryd.func39, Tryd.ntmps39
      go_upto_region 2 with (go_at_call 52; refine (c1 _).mono ?_; rintro e w1 ⟨rfl, hb1⟩)
      refine hide_arg hb1 (fun W kp kf hs0 hs HE => ?_)
      clear hb1 c1
      generalize w1.heap.size = g at *
      go_wp2_with (first | (go_at_call 46; (with_reducible refine (c2 _).mono ?_); rintro e w2 ⟨rfl, hb2⟩; have HE := HE.call hb2) | (go_at_call 61; (with_reducible refine (c5 _).mono ?_); rintro e w3 ⟨rfl, hb3⟩; have HE := HE.call hb3) | (go_at_call 46; (with_reducible refine (c3 _).mono ?_); rintro e w4 ⟨rfl, hb4⟩; have HE := HE.call hb4) | (go_at_call 46; (with_reducible refine (c4 _).mono ?_); rintro e w5 ⟨rfl, hb5⟩; have HE := HE.call hb5))
      go_ret
      exact ⟨rfl, Ext.end HE⟩
    | nneg =>
      rw [show decide ((0 : Int) ≤ 3 ∧ (3 : Int) ≤ 3) = true by decide] at c2
      simp only [topM, leastN, mostN, lowI] at *
      go_enter Tryd.func39, Tryd.ntmps39
      go_upto_region 2 with (go_at_call 52; refine (c1 _).mono ?_; rintro e w1 ⟨rfl, hb1⟩)
      refine hide_arg hb1 (fun W kp kf hs0 hs HE => ?_)
      clear hb1 c1
      generalize w1.heap.size = g at *
      go_wp2_with (first | (go_at_call 46; (with_reducible refine (c2 _).mono ?_); rintro e w2 ⟨rfl, hb2⟩; have HE := HE.call hb2) | (go_at_call 61; (with_reducible refine (c5 _).mono ?_); rintro e w3 ⟨rfl, hb3⟩; have HE := HE.call hb3) | (go_at_call 46; (with_reducible refine (c3 _).mono ?_); rintro e w4 ⟨rfl, hb4⟩; have HE := HE.call hb4) | (go_at_call 46; (with_reducible refine (c4 _).mono ?_); rintro e w5 ⟨rfl, hb5⟩; have HE := HE.call hb5))
      go_ret
      exact ⟨rfl, Ext.end HE⟩
    | nan =>
      rw [show decide ((0 : Int) ≤ 3 ∧ (3 : Int) ≤ 3) = true by decide] at c2
      simp only [topM, leastN, mostN, lowI] at *
      go_enter Tryd.func39, Tryd.ntmps39
      go_upto_region 2 with (go_at_call 52; refine (c1 _).mono ?_; rintro e w1 ⟨rfl, hb1⟩)
      refine hide_arg hb1 (fun W kp kf hs0 hs HE => ?_)
      clear hb1 c1
      generalize w1.heap.size = g at *
      go_wp2_with (first | (go_at_call 46; (with_reducible refine (c2 _).mono ?_); rintro e w2 ⟨rfl, hb2⟩; have HE := HE.call hb2) | (go_at_call 61; (with_reducible refine (c5 _).mono ?_); rintro e w3 ⟨rfl, hb3⟩; have HE := HE.call hb3) | (go_at_call 46; (with_reducible refine (c3 _).mono ?_); rintro e w4 ⟨rfl, hb4⟩; have HE := HE.call hb4) | (go_at_call 46; (with_reducible refine (c4 _).mono ?_); rintro e w5 ⟨rfl, hb5⟩; have HE := HE.call hb5))
      go_ret
      exact ⟨rfl, Ext.end HE⟩
    | zero =>
      rw [show decide ((0 : Int) ≤ 0 ∧ (0 : Int) ≤ 3) = true by decide] at c2
      simp only [topM, leastN, mostN, lowI] at *
      go_enter Tryd.func39, Tryd.ntmps39
      go_upto_region 2 with (go_at_call 52; refine (c1 _).mono ?_; rintro e w1 ⟨rfl, hb1⟩)
      refine hide_arg hb1 (fun W kp kf hs0 hs HE => ?_)
      clear hb1 c1
      generalize w1.heap.size = g at *
      go_wp2_with (first | (go_at_call 46; (with_reducible refine (c2 _).mono ?_); rintro e w2 ⟨rfl, hb2⟩; have HE := HE.call hb2) | (go_at_call 61; (with_reducible refine (c5 _).mono ?_); rintro e w3 ⟨rfl, hb3⟩; have HE := HE.call hb3) | (go_at_call 46; (with_reducible refine (c3 _).mono ?_); rintro e w4 ⟨rfl, hb4⟩; have HE := HE.call hb4) | (go_at_call 46; (with_reducible refine (c4 _).mono ?_); rintro e w5 ⟨rfl, hb5⟩; have HE := HE.call hb5))
      go_ret
      exact ⟨rfl, Ext.end HE⟩
    | inf =>
      rw [show decide ((0 : Int) ≤ 2 ∧ (2 : Int) ≤ 3) = true by decide] at c2
      simp only [topM, leastN, mostN, lowI] at *
      go_enter Tryd.func39, Tryd.ntmps39
      go_upto_region 2 with (go_at_call 52; refine (c1 _).mono ?_; rintro e w1 ⟨rfl, hb1⟩)
      refine hide_arg hb1 (fun W kp kf hs0 hs HE => ?_)
      clear hb1 c1
      generalize w1.heap.size = g at *
      go_wp2_with (first | (go_at_call 46; (with_reducible refine (c2 _).mono ?_); rintro e w2 ⟨rfl, hb2⟩; have HE := HE.call hb2) | (go_at_call 61; (with_reducible refine (c5 _).mono ?_); rintro e w3 ⟨rfl, hb3⟩; have HE := HE.call hb3) | (go_at_call 46; (with_reducible refine (c3 _).mono ?_); rintro e w4 ⟨rfl, hb4⟩; have HE := HE.call hb4) | (go_at_call 46; (with_reducible refine (c4 _).mono ?_); rintro e w5 ⟨rfl, hb5⟩; have HE := HE.call hb5))
      go_ret
      exact ⟨rfl, Ext.end HE⟩
    | bad1 h1 =>
      rw [h1] at c3
      rw [show decide ((0 : Int) ≤ 1 ∧ (1 : Int) ≤ 3) = true by decide] at c2
      simp only [topM, leastN, mostN, lowI] at *
      go_enter Tryd.func39, Tryd.ntmps39
      go_upto_region 2 with (go_at_call 52; refine (c1 _).mono ?_; rintro e w1 ⟨rfl, hb1⟩)
      refine hide_arg hb1 (fun W kp kf hs0 hs HE => ?_)
      clear hb1 c1
      generalize w1.heap.size = g at *
      go_wp2_with (first | (go_at_call 46; (with_reducible refine (c2 _).mono ?_); rintro e w2 ⟨rfl, hb2⟩; have HE := HE.call hb2) | (go_at_call 61; (with_reducible refine (c5 _).mono ?_); rintro e w3 ⟨rfl, hb3⟩; have HE := HE.call hb3) | (go_at_call 46; (with_reducible refine (c3 _).mono ?_); rintro e w4 ⟨rfl, hb4⟩; have HE := HE.call hb4) | (go_at_call 46; (with_reducible refine (c4 _).mono ?_); rintro e w5 ⟨rfl, hb5⟩; have HE := HE.call hb5))
      go_ret
      exact ⟨rfl, Ext.end HE⟩
    | bad2 h1 h2 =>
      rw [h1] at c3
      rw [h2] at c4
      rw [show decide ((0 : Int) ≤ 1 ∧ (1 : Int) ≤ 3) = true by decide] at c2
      simp only [topM, leastN, mostN, lowI] at *
      go_enter Tryd.func39, Tryd.ntmps39
      go_upto_region 2 with (go_at_call 52; refine (c1 _).mono ?_; rintro e w1 ⟨rfl, hb1⟩)
      refine hide_arg hb1 (fun W kp kf hs0 hs HE => ?_)
      clear hb1 c1
      generalize w1.heap.size = g at *
      go_wp2_with (first | (go_at_call 46; (with_reducible refine (c2 _).mono ?_); rintro e w2 ⟨rfl, hb2⟩; have HE := HE.call hb2) | (go_at_call 61; (with_reducible refine (c5 _).mono ?_); rintro e w3 ⟨rfl, hb3⟩; have HE := HE.call hb3) | (go_at_call 46; (with_reducible refine (c3 _).mono ?_); rintro e w4 ⟨rfl, hb4⟩; have HE := HE.call hb4) | (go_at_call 46; (with_reducible refine (c4 _).mono ?_); rintro e w5 ⟨rfl, hb5⟩; have HE := HE.call hb5))
      go_ret
      exact ⟨rfl, Ext.end HE⟩
    | bad3 h1 h2 h3 h4 =>
      rw [h1] at c3
      rw [h2] at c4
      rw [show decide ((0 : Int) ≤ 1 ∧ (1 : Int) ≤ 3) = true by decide] at c2
      simp only [topM, leastN, mostN, lowI] at *
      go_enter Tryd.func39, Tryd.ntmps39
      go_upto_region 2 with (go_at_call 52; refine (c1 _).mono ?_; rintro e w1 ⟨rfl, hb1⟩)
      refine hide_arg hb1 (fun W kp kf hs0 hs HE => ?_)
      clear hb1 c1
      generalize w1.heap.size = g at *
      go_wp2_with (first | (go_at_call 46; (with_reducible refine (c2 _).mono ?_); rintro e w2 ⟨rfl, hb2⟩; have HE := HE.call hb2) | (go_at_call 61; (with_reducible refine (c5 _).mono ?_); rintro e w3 ⟨rfl, hb3⟩; have HE := HE.call hb3) | (go_at_call 46; (with_reducible refine (c3 _).mono ?_); rintro e w4 ⟨rfl, hb4⟩; have HE := HE.call hb4) | (go_at_call 46; (with_reducible refine (c4 _).mono ?_); rintro e w5 ⟨rfl, hb5⟩; have HE := HE.call hb5))
      go_ret
      exact ⟨rfl, Ext.end HE⟩
    | low h1 h3 =>
      rw [h1] at c3
      rw [show decide ((0 : Int) ≤ 1 ∧ (1 : Int) ≤ 3) = true by decide] at c2
      rw [show decide (leastN false ≤ leastN false ∧ leastN false ≤ mostN false) = true by decide] at c4
      simp only [topM, leastN, mostN, lowI] at *
      go_enter Tryd.func39, Tryd.ntmps39
      go_upto_region 2 with (go_at_call 52; refine (c1 _).mono ?_; rintro e w1 ⟨rfl, hb1⟩)
      refine hide_arg hb1 (fun W kp kf hs0 hs HE => ?_)
      clear hb1 c1
      generalize w1.heap.size = g at *
      go_wp2_with (first | (go_at_call 46; (with_reducible refine (c2 _).mono ?_); rintro e w2 ⟨rfl, hb2⟩; have HE := HE.call hb2) | (go_at_call 61; (with_reducible refine (c5 _).mono ?_); rintro e w3 ⟨rfl, hb3⟩; have HE := HE.call hb3) | (go_at_call 46; (with_reducible refine (c3 _).mono ?_); rintro e w4 ⟨rfl, hb4⟩; have HE := HE.call hb4) | (go_at_call 46; (with_reducible refine (c4 _).mono ?_); rintro e w5 ⟨rfl, hb5⟩; have HE := HE.call hb5))
      go_ret
      exact ⟨rfl, Ext.end HE⟩
    | high h1 h2 h3 =>
      rw [h1] at c3
      rw [h2] at c4
      rw [show decide ((0 : Int) ≤ 1 ∧ (1 : Int) ≤ 3) = true by decide] at c2
      simp only [topM, leastN, mostN, lowI] at *
      go_enter Tryd.func39, Tryd.ntmps39
      go_upto_region 2 with (go_at_call 52; refine (c1 _).mono ?_; rintro e w1 ⟨rfl, hb1⟩)
      refine hide_arg hb1 (fun W kp kf hs0 hs HE => ?_)
      clear hb1 c1
      generalize w1.heap.size = g at *
      go_wp2_with (first | (go_at_call 46; (with_reducible refine (c2 _).mono ?_); rintro e w2 ⟨rfl, hb2⟩; have HE := HE.call hb2) | (go_at_call 61; (with_reducible refine (c5 _).mono ?_); rintro e w3 ⟨rfl, hb3⟩; have HE := HE.call hb3) | (go_at_call 46; (with_reducible refine (c3 _).mono ?_); rintro e w4 ⟨rfl, hb4⟩; have HE := HE.call hb4) | (go_at_call 46; (with_reducible refine (c4 _).mono ?_); rintro e w5 ⟨rfl, hb5⟩; have HE := HE.call hb5))
      go_ret
      exact ⟨rfl, Ext.end HE⟩
  · unfold fmtV at c1
    replace c1 : ∀ w, Calls Tryd.prog 52 #[.int .i64 1] w _ := c1
    replace c5 : ∀ w, Calls Tryd.prog 61 #[.int .i64 23] w (Ret (.int .i64 8388608) w) := c5
    clear c6
    show Calls Tryd.prog 39 #[.int .i64 1, _] w _
    cases hL with
    | kind h =>
      rw [h] at c2
      simp only [topM, leastN, mostN, lowI] at *
      go_enter Tryd.func39, Tryd.ntmps39
      go_upto_region 2 with (go_at_call 52; refine (c1 _).mono ?_; rintro e w1 ⟨rfl, hb1⟩)
      refine hide_arg hb1 (fun W kp kf hs0 hs HE => ?_)
      clear hb1 c1
      generalize w1.heap.size = g at *
      go_wp2_with (first | (go_at_call 46; (with_reducible refine (c2 _).mono ?_); rintro e w2 ⟨rfl, hb2⟩; have HE := HE.call hb2) | (go_at_call 61; (with_reducible refine (c5 _).mono ?_); rintro e w3 ⟨rfl, hb3⟩; have HE := HE.call hb3) | (go_at_call 46; (with_reducible refine (c3 _).mono ?_); rintro e w4 ⟨rfl, hb4⟩; have HE := HE.call hb4) | (go_at_call 46; (with_reducible refine (c4 _).mono ?_); rintro e w5 ⟨rfl, hb5⟩; have HE := HE.call hb5))
      go_ret
      exact ⟨rfl, Ext.end HE⟩
    | m0 h h1 h2 =>
      rw [h] at c2
      simp only [topM, leastN, mostN, lowI] at *
      go_enter Tryd.func39, Tryd.ntmps39
      go_upto_region 2 with (go_at_call 52; refine (c1 _).mono ?_; rintro e w1 ⟨rfl, hb1⟩)
      refine hide_arg hb1 (fun W kp kf hs0 hs HE => ?_)
      clear hb1 c1
      generalize w1.heap.size = g at *
      go_wp2_with (first | (go_at_call 46; (with_reducible refine (c2 _).mono ?_); rintro e w2 ⟨rfl, hb2⟩; have HE := HE.call hb2) | (go_at_call 61; (with_reducible refine (c5 _).mono ?_); rintro e w3 ⟨rfl, hb3⟩; have HE := HE.call hb3) | (go_at_call 46; (with_reducible refine (c3 _).mono ?_); rintro e w4 ⟨rfl, hb4⟩; have HE := HE.call hb4) | (go_at_call 46; (with_reducible refine (c4 _).mono ?_); rintro e w5 ⟨rfl, hb5⟩; have HE := HE.call hb5))
      go_ret
      exact ⟨rfl, Ext.end HE⟩
    | e0 h h1 h2 =>
      rw [h] at c2
      simp only [topM, leastN, mostN, lowI] at *
      go_enter Tryd.func39, Tryd.ntmps39
      go_upto_region 2 with (go_at_call 52; refine (c1 _).mono ?_; rintro e w1 ⟨rfl, hb1⟩)
      refine hide_arg hb1 (fun W kp kf hs0 hs HE => ?_)
      clear hb1 c1
      generalize w1.heap.size = g at *
      go_wp2_with (first | (go_at_call 46; (with_reducible refine (c2 _).mono ?_); rintro e w2 ⟨rfl, hb2⟩; have HE := HE.call hb2) | (go_at_call 61; (with_reducible refine (c5 _).mono ?_); rintro e w3 ⟨rfl, hb3⟩; have HE := HE.call hb3) | (go_at_call 46; (with_reducible refine (c3 _).mono ?_); rintro e w4 ⟨rfl, hb4⟩; have HE := HE.call hb4) | (go_at_call 46; (with_reducible refine (c4 _).mono ?_); rintro e w5 ⟨rfl, hb5⟩; have HE := HE.call hb5))
      go_ret
      exact ⟨rfl, Ext.end HE⟩
    | nneg =>
      rw [show decide ((0 : Int) ≤ 3 ∧ (3 : Int) ≤ 3) = true by decide] at c2
      simp only [topM, leastN, mostN, lowI] at *
      go_enter Tryd.func39, Tryd.ntmps39
      go_upto_region 2 with (go_at_call 52; refine (c1 _).mono ?_; rintro e w1 ⟨rfl, hb1⟩)
      refine hide_arg hb1 (fun W kp kf hs0 hs HE => ?_)
      clear hb1 c1
      generalize w1.heap.size = g at *
      go_wp2_with (first | (go_at_call 46; (with_reducible refine (c2 _).mono ?_); rintro e w2 ⟨rfl, hb2⟩; have HE := HE.call hb2) | (go_at_call 61; (with_reducible refine (c5 _).mono ?_); rintro e w3 ⟨rfl, hb3⟩; have HE := HE.call hb3) | (go_at_call 46; (with_reducible refine (c3 _).mono ?_); rintro e w4 ⟨rfl, hb4⟩; have HE := HE.call hb4) | (go_at_call 46; (with_reducible refine (c4 _).mono ?_); rintro e w5 ⟨rfl, hb5⟩; have HE := HE.call hb5))
      go_ret
      exact ⟨rfl, Ext.end HE⟩
    | nan =>
      rw [show decide ((0 : Int) ≤ 3 ∧ (3 : Int) ≤ 3) = true by decide] at c2
      simp only [topM, leastN, mostN, lowI] at *
      go_enter Tryd.func39, Tryd.ntmps39
      go_upto_region 2 with (go_at_call 52; refine (c1 _).mono ?_; rintro e w1 ⟨rfl, hb1⟩)
      refine hide_arg hb1 (fun W kp kf hs0 hs HE => ?_)
      clear hb1 c1
      generalize w1.heap.size = g at *
      go_wp2_with (first | (go_at_call 46; (with_reducible refine (c2 _).mono ?_); rintro e w2 ⟨rfl, hb2⟩; have HE := HE.call hb2) | (go_at_call 61; (with_reducible refine (c5 _).mono ?_); rintro e w3 ⟨rfl, hb3⟩; have HE := HE.call hb3) | (go_at_call 46; (with_reducible refine (c3 _).mono ?_); rintro e w4 ⟨rfl, hb4⟩; have HE := HE.call hb4) | (go_at_call 46; (with_reducible refine (c4 _).mono ?_); rintro e w5 ⟨rfl, hb5⟩; have HE := HE.call hb5))
      go_ret
      exact ⟨rfl, Ext.end HE⟩
    | zero =>
      rw [show decide ((0 : Int) ≤ 0 ∧ (0 : Int) ≤ 3) = true by decide] at c2
      simp only [topM, leastN, mostN, lowI] at *
      go_enter Tryd.func39, Tryd.ntmps39
      go_upto_region 2 with (go_at_call 52; refine (c1 _).mono ?_; rintro e w1 ⟨rfl, hb1⟩)
      refine hide_arg hb1 (fun W kp kf hs0 hs HE => ?_)
      clear hb1 c1
      generalize w1.heap.size = g at *
      go_wp2_with (first | (go_at_call 46; (with_reducible refine (c2 _).mono ?_); rintro e w2 ⟨rfl, hb2⟩; have HE := HE.call hb2) | (go_at_call 61; (with_reducible refine (c5 _).mono ?_); rintro e w3 ⟨rfl, hb3⟩; have HE := HE.call hb3) | (go_at_call 46; (with_reducible refine (c3 _).mono ?_); rintro e w4 ⟨rfl, hb4⟩; have HE := HE.call hb4) | (go_at_call 46; (with_reducible refine (c4 _).mono ?_); rintro e w5 ⟨rfl, hb5⟩; have HE := HE.call hb5))
      go_ret
      exact ⟨rfl, Ext.end HE⟩
    | inf =>
      rw [show decide ((0 : Int) ≤ 2 ∧ (2 : Int) ≤ 3) = true by decide] at c2
      simp only [topM, leastN, mostN, lowI] at *
      go_enter Tryd.func39, Tryd.ntmps39
      go_upto_region 2 with (go_at_call 52; refine (c1 _).mono ?_; rintro e w1 ⟨rfl, hb1⟩)
      refine hide_arg hb1 (fun W kp kf hs0 hs HE => ?_)
      clear hb1 c1
      generalize w1.heap.size = g at *
      go_wp2_with (first | (go_at_call 46; (with_reducible refine (c2 _).mono ?_); rintro e w2 ⟨rfl, hb2⟩; have HE := HE.call hb2) | (go_at_call 61; (with_reducible refine (c5 _).mono ?_); rintro e w3 ⟨rfl, hb3⟩; have HE := HE.call hb3) | (go_at_call 46; (with_reducible refine (c3 _).mono ?_); rintro e w4 ⟨rfl, hb4⟩; have HE := HE.call hb4) | (go_at_call 46; (with_reducible refine (c4 _).mono ?_); rintro e w5 ⟨rfl, hb5⟩; have HE := HE.call hb5))
      go_ret
      exact ⟨rfl, Ext.end HE⟩
    | bad1 h1 =>
      rw [h1] at c3
      rw [show decide ((0 : Int) ≤ 1 ∧ (1 : Int) ≤ 3) = true by decide] at c2
      simp only [topM, leastN, mostN, lowI] at *
      go_enter Tryd.func39, Tryd.ntmps39
      go_upto_region 2 with (go_at_call 52; refine (c1 _).mono ?_; rintro e w1 ⟨rfl, hb1⟩)
      refine hide_arg hb1 (fun W kp kf hs0 hs HE => ?_)
      clear hb1 c1
      generalize w1.heap.size = g at *
      go_wp2_with (first | (go_at_call 46; (with_reducible refine (c2 _).mono ?_); rintro e w2 ⟨rfl, hb2⟩; have HE := HE.call hb2) | (go_at_call 61; (with_reducible refine (c5 _).mono ?_); rintro e w3 ⟨rfl, hb3⟩; have HE := HE.call hb3) | (go_at_call 46; (with_reducible refine (c3 _).mono ?_); rintro e w4 ⟨rfl, hb4⟩; have HE := HE.call hb4) | (go_at_call 46; (with_reducible refine (c4 _).mono ?_); rintro e w5 ⟨rfl, hb5⟩; have HE := HE.call hb5))
      go_ret
      exact ⟨rfl, Ext.end HE⟩
    | bad2 h1 h2 =>
      rw [h1] at c3
      rw [h2] at c4
      rw [show decide ((0 : Int) ≤ 1 ∧ (1 : Int) ≤ 3) = true by decide] at c2
      simp only [topM, leastN, mostN, lowI] at *
      go_enter Tryd.func39, Tryd.ntmps39
      go_upto_region 2 with (go_at_call 52; refine (c1 _).mono ?_; rintro e w1 ⟨rfl, hb1⟩)
      refine hide_arg hb1 (fun W kp kf hs0 hs HE => ?_)
      clear hb1 c1
      generalize w1.heap.size = g at *
      go_wp2_with (first | (go_at_call 46; (with_reducible refine (c2 _).mono ?_); rintro e w2 ⟨rfl, hb2⟩; have HE := HE.call hb2) | (go_at_call 61; (with_reducible refine (c5 _).mono ?_); rintro e w3 ⟨rfl, hb3⟩; have HE := HE.call hb3) | (go_at_call 46; (with_reducible refine (c3 _).mono ?_); rintro e w4 ⟨rfl, hb4⟩; have HE := HE.call hb4) | (go_at_call 46; (with_reducible refine (c4 _).mono ?_); rintro e w5 ⟨rfl, hb5⟩; have HE := HE.call hb5))
      go_ret
      exact ⟨rfl, Ext.end HE⟩
    | bad3 h1 h2 h3 h4 =>
      rw [h1] at c3
      rw [h2] at c4
      rw [show decide ((0 : Int) ≤ 1 ∧ (1 : Int) ≤ 3) = true by decide] at c2
      simp only [topM, leastN, mostN, lowI] at *
      go_enter Tryd.func39, Tryd.ntmps39
      go_upto_region 2 with (go_at_call 52; refine (c1 _).mono ?_; rintro e w1 ⟨rfl, hb1⟩)
      refine hide_arg hb1 (fun W kp kf hs0 hs HE => ?_)
      clear hb1 c1
      generalize w1.heap.size = g at *
      go_wp2_with (first | (go_at_call 46; (with_reducible refine (c2 _).mono ?_); rintro e w2 ⟨rfl, hb2⟩; have HE := HE.call hb2) | (go_at_call 61; (with_reducible refine (c5 _).mono ?_); rintro e w3 ⟨rfl, hb3⟩; have HE := HE.call hb3) | (go_at_call 46; (with_reducible refine (c3 _).mono ?_); rintro e w4 ⟨rfl, hb4⟩; have HE := HE.call hb4) | (go_at_call 46; (with_reducible refine (c4 _).mono ?_); rintro e w5 ⟨rfl, hb5⟩; have HE := HE.call hb5))
      go_ret
      exact ⟨rfl, Ext.end HE⟩
    | low h1 h3 =>
      rw [h1] at c3
      rw [show decide ((0 : Int) ≤ 1 ∧ (1 : Int) ≤ 3) = true by decide] at c2
      rw [show decide (leastN true ≤ leastN true ∧ leastN true ≤ mostN true) = true by decide] at c4
      simp only [topM, leastN, mostN, lowI] at *
      go_enter Tryd.func39, Tryd.ntmps39
      go_upto_region 2 with (go_at_call 52; refine (c1 _).mono ?_; rintro e w1 ⟨rfl, hb1⟩)
      refine hide_arg hb1 (fun W kp kf hs0 hs HE => ?_)
      clear hb1 c1
      generalize w1.heap.size = g at *
      go_wp2_with (first | (go_at_call 46; (with_reducible refine (c2 _).mono ?_); rintro e w2 ⟨rfl, hb2⟩; have HE := HE.call hb2) | (go_at_call 61; (with_reducible refine (c5 _).mono ?_); rintro e w3 ⟨rfl, hb3⟩; have HE := HE.call hb3) | (go_at_call 46; (with_reducible refine (c3 _).mono ?_); rintro e w4 ⟨rfl, hb4⟩; have HE := HE.call hb4) | (go_at_call 46; (with_reducible refine (c4 _).mono ?_); rintro e w5 ⟨rfl, hb5⟩; have HE := HE.call hb5))
      go_ret
      exact ⟨rfl, Ext.end HE⟩
    | high h1 h2 h3 =>
      rw [h1] at c3
      rw [h2] at c4
      rw [show decide ((0 : Int) ≤ 1 ∧ (1 : Int) ≤ 3) = true by decide] at c2
      simp only [topM, leastN, mostN, lowI] at *
      go_enter Tryd.func39, Tryd.ntmps39
      go_upto_region 2 with (go_at_call 52; refine (c1 _).mono ?_; rintro e w1 ⟨rfl, hb1⟩)
      refine hide_arg hb1 (fun W kp kf hs0 hs HE => ?_)
      clear hb1 c1
      generalize w1.heap.size = g at *
      go_wp2_with (first | (go_at_call 46; (with_reducible refine (c2 _).mono ?_); rintro e w2 ⟨rfl, hb2⟩; have HE := HE.call hb2) | (go_at_call 61; (with_reducible refine (c5 _).mono ?_); rintro e w3 ⟨rfl, hb3⟩; have HE := HE.call hb3) | (go_at_call 46; (with_reducible refine (c3 _).mono ?_); rintro e w4 ⟨rfl, hb4⟩; have HE := HE.call hb4) | (go_at_call 46; (with_reducible refine (c4 _).mono ?_); rintro e w5 ⟨rfl, hb5⟩; have HE := HE.call hb5))
      go_ret
      exact ⟨rfl, Ext.end HE⟩
end Go.Proofs.YtmoimcblmmcffaaDoor.NC

/-! The program's bits of parts, walked. -/
namespace Go.Proofs.YtmoimcblmmcffaaDoor.NC
open Go.RowKit Go.Proofs.YtmoimcblmmcffaaDoor.B Go.Proofs.YtmoimcblmmcffaaDoor.N
set_option linter.unusedSimpArgs false
set_option linter.unusedVariables false

set_option maxRecDepth 100000 in
set_option maxHeartbeats 8000000 in
theorem bitsOf_type (t k : Int) (neg : Bool) (m e : Int) (w : World) (ht : typeErrV t ≠ 0) : Calls Tryd.prog 38 #[.int .i64 t, .agg #[.int .i64 k, .bool neg, .int .i64 m, .int .i64 e]] w (Ret (.tuple #[.int .u64 0, .int .i64 (typeErrV t)]) w) := by
  have c1 := fun w => typeErr_c t w
  have c2 := fun w => kindErr_c k 4 w
  have c3 := fun w => either_c (typeErrV t) (kindErrV k 4) w
  rw [if_neg ht] at c3
  have hq : (typeErrV t != 0) = true := by simpa using ht
  generalize typeErrV t = T at *
  generalize kindErrV k 4 = K at *
  go_enter Tryd.func38, Tryd.ntmps38
  go_upto_region 1 with (fail)
  refine hide1 w (fun W k0 s0 HE => ?_)
  go_region_held3 (fun w' => Ext w W w') (first | assumption | (with_reducible exact Ext.call (by assumption) hb1) | (with_reducible exact Ext.call (by assumption) hb2) | (with_reducible exact Ext.call (by assumption) hb3) | ((with_reducible refine Ext.drew ?_); assumption)) (first | (go_at_call 54; (with_reducible refine (c1 _).mono ?_); rintro e w1 ⟨rfl, hb1⟩; have HE1 : Ext w W w1 := Ext.call (by assumption) hb1) | (go_at_call 43; (with_reducible refine (c2 _).mono ?_); rintro e w2 ⟨rfl, hb2⟩; have HE2 : Ext w W w2 := Ext.call (by assumption) hb2) | (go_at_call 42; (with_reducible refine (c3 _).mono ?_); rintro e w3 ⟨rfl, hb3⟩; have HE3 : Ext w W w3 := Ext.call (by assumption) hb3))
  go_wp2
  exact bodyPost_ret (v := .tuple #[.int .u64 0, .int .i64 T]) (by simp [results, Tryd.results38, go_sem]) rfl ⟨rfl, Ext.end HE3⟩
end Go.Proofs.YtmoimcblmmcffaaDoor.NC

/-! The program's bits of parts, walked case by case. -/
namespace Go.Proofs.YtmoimcblmmcffaaDoor.NC
open Go.RowKit Go.Proofs.YtmoimcblmmcffaaDoor.B Go.Proofs.YtmoimcblmmcffaaDoor.N
set_option linter.unusedSimpArgs false
set_option linter.unusedVariables false

theorem wrap_u64 {m : Int} (h0 : 0 ≤ m) (h1 : m < 18446744073709551616) : IntKind.u64.wrap m = m := by
  obtain ⟨x, rfl⟩ := Int.eq_ofNat_of_zero_le h0
  exact kuwrap (by omega)

theorem bitsR_fin {s neg : Bool} {m e : Int} (h1 : 1 ≤ m) (h2 : m ≤ topM s) (he : leastN s ≤ e) (hm : e ≤ mostN s) (hl : m < lowI s → e = leastN s) :
    (bitsR s ⟨1, neg, m.toNat, e⟩ : Int) = (if neg = true then (signN s : Int) else 0) + (m + (e - leastN s) * lowI s) := by
  obtain ⟨x, rfl⟩ := Int.eq_ofNat_of_zero_le (show 0 ≤ m by omega)
  obtain ⟨q, hq⟩ := Int.eq_ofNat_of_zero_le (show 0 ≤ e - leastN s by omega)
  obtain rfl : e = (q : Int) + leastN s := by omega
  rw [Int.toNat_natCast, Int.add_sub_cancel]
  have hlow : lowI s = (lowN s : Int) := by cases s <;> rfl
  rw [hlow] at hl ⊢
  unfold bitsR
  simp only [Int.reduceEq, if_false]
  have hsg : ((if neg = true then signN s else 0 : Nat) : Int) = if neg = true then (signN s : Int) else 0 := by cases neg <;> rfl
  rw [Int.natCast_add, hsg]
  congr 1
  by_cases hx : x < lowN s
  · rw [if_pos hx]
    have h0 : (q : Int) = 0 := by have := hl (by exact_mod_cast hx); omega
    rw [h0, Int.zero_mul, Int.add_zero]
  · rw [if_neg hx]
    have e1 : ((q : Int) + leastN s - leastN s + 1).toNat = q + 1 := by omega
    rw [e1]
    have e2 : lowN s * (q + 1) + x - lowN s = x + q * lowN s := by rw [Nat.mul_add, Nat.mul_one, Nat.mul_comm]; omega
    rw [e2]
    push_cast
    rfl
theorem tup_eq {x y : Int} (h : x = y) : Ending.returned (.tuple #[.int .u64 x, .int .i64 0]) = .returned (.tuple #[.int .u64 y, .int .i64 0]) := by rw [h]

set_option maxRecDepth 100000 in
set_option maxHeartbeats 8000000 in
theorem bitsOf_c (s : Bool) (k : Int) (neg : Bool) (m e : Int) (w : World) : Calls Tryd.prog 38 #[.int .i64 (tv s), .agg #[.int .i64 k, .bool neg, .int .i64 m, .int .i64 e]] w (Ret (.tuple #[.int .u64 (if partsErrV s k neg m e = 0 then (bitsR s ⟨k, neg, m.toNat, e⟩ : Int) else 0), .int .i64 (partsErrV s k neg m e)]) w) := by
  have hL := parts_err_leaf s k neg m e
  generalize partsErrV s k neg m e = R at *
  have c1 := fun w => typeErr_c (tv s) w
  have c2 := fun w => kindErr_c k 4 w
  have c3 := fun w => either_c 0 (kindErrV k 4) w
  rw [if_pos rfl] at c3
  have c4 := fun w => layoutOf_c (tv s) w
  have c5 := fun hi (hh : hi = topM s) w => show Calls Tryd.prog 62 #[.int .i64 m, .int .i64 1, .int .i64 hi] w (Ret (.int .i64 (rangedV m 1 (topM s))) w) from hh ▸ ranged_c m 1 hi w
  have c6 := fun w => ranged_c e (leastN s) (mostN s) w
  have c7 := fun w => either_c (rangedV m 1 (topM s)) (rangedV e (leastN s) (mostN s)) w
  have c8 := fun w => infinite_c s w
  have c9 := fun w => sign_c s w
  have hte : typeErrV (tv s) = 0 := by cases s <;> rfl
  rw [hte] at c1
  rw [tv_eq] at c4
  clear hte
  have hK : ∀ b, decide (0 ≤ k ∧ k ≤ 3) = b → kindErrV k 4 = if b then 0 else 15 := by
    intro b hb
    unfold kindErrV
    cases b
    · have := of_decide_eq_false hb
      by_cases h : k < 0
      · rw [if_pos h]; rfl
      · rw [if_neg h, if_pos (by omega)]; rfl
    · have := of_decide_eq_true hb
      rw [if_neg (by omega), if_neg (by omega)]; rfl
  have hM : ∀ (n lo hi : Int) (b : Bool), decide (lo ≤ n ∧ n ≤ hi) = b → rangedV n lo hi = if b then 0 else 2 := by
    intro n lo hi b hb
    unfold rangedV
    cases b
    · have := of_decide_eq_false hb
      by_cases h : n < lo
      · rw [if_pos h]; rfl
      · rw [if_neg h, if_pos (by omega)]; rfl
    · have := of_decide_eq_true hb
      rw [if_neg (by omega), if_neg (by omega)]; rfl
  cases s
  · show Calls Tryd.prog 38 #[.int .i64 2, _] w _
    replace c1 : ∀ w, Calls Tryd.prog 54 #[.int .i64 2] w _ := c1
    replace c4 : ∀ w, Calls Tryd.prog 68 #[.int .i64 2] w _ := c4
    cases hL with
    | kind h =>
      as_aux_lemma =>
      rw [if_neg (by decide)]
      rw [hK _ h] at c2 c3
      have hq : ((15 : Int) != 0) = true := by decide
      simp only [if_true, if_false, Bool.false_eq_true] at c2 c3 c5 c6 c7
      simp only [topM, leastN, mostN, lowI, layV, signV, infV] at *
      clear hK hM
      go_enter Tryd.func38, Tryd.ntmps38
      go_upto_region 1 with (fail)
      refine hide1 w (fun W k0 s0 HE => ?_)
      go_region_held3 (fun w' => Ext w W w') (first | assumption | (with_reducible exact Ext.call (by assumption) hb1) | (with_reducible exact Ext.call (by assumption) hb2) | (with_reducible exact Ext.call (by assumption) hb3) | ((with_reducible refine Ext.drew ?_); assumption)) (first | (go_at_call 54; (with_reducible refine (c1 _).mono ?_); rintro e w1 ⟨rfl, hb1⟩; have HE1 : Ext w W w1 := Ext.call (by assumption) hb1) | (go_at_call 43; (with_reducible refine (c2 _).mono ?_); rintro e w2 ⟨rfl, hb2⟩; have HE2 : Ext w W w2 := Ext.call (by assumption) hb2) | (go_at_call 42; (with_reducible refine (c3 _).mono ?_); rintro e w3 ⟨rfl, hb3⟩; have HE3 : Ext w W w3 := Ext.call (by assumption) hb3))
      go_wp2
      exact bodyPost_ret (v := .tuple #[.int .u64 0, .int .i64 15]) (by simp [results, Tryd.results38, go_sem]) rfl ⟨rfl, Ext.end HE3⟩
    | m0 h h1 h2 =>
      as_aux_lemma =>
      rw [if_neg (by decide)]
      rw [hK _ h] at c2 c3
      simp only [if_true, if_false, Bool.false_eq_true] at c2 c3 c5 c6 c7
      simp only [topM, leastN, mostN, lowI, layV, signV, infV] at *
      clear hK hM
      go_enter Tryd.func38, Tryd.ntmps38
      go_upto_region 1 with (fail)
      refine hide1 w (fun W k0 s0 HE => ?_)
      go_region_held3 (fun w' => Ext w W w') (first | assumption | (with_reducible exact Ext.call (by assumption) hb1) | (with_reducible exact Ext.call (by assumption) hb2) | (with_reducible exact Ext.call (by assumption) hb3) | ((with_reducible refine Ext.drew ?_); assumption)) (first | (go_at_call 54; (with_reducible refine (c1 _).mono ?_); rintro e w1 ⟨rfl, hb1⟩; have HE1 : Ext w W w1 := Ext.call (by assumption) hb1) | (go_at_call 43; (with_reducible refine (c2 _).mono ?_); rintro e w2 ⟨rfl, hb2⟩; have HE2 : Ext w W w2 := Ext.call (by assumption) hb2) | (go_at_call 42; (with_reducible refine (c3 _).mono ?_); rintro e w3 ⟨rfl, hb3⟩; have HE3 : Ext w W w3 := Ext.call (by assumption) hb3))
      go_upto_region 5 with (go_at_call 68; (with_reducible refine (c4 _).mono ?_); rintro e w4 ⟨rfl, hb4⟩; have HE4 := HE3.call hb4)
      refine hideE HE4 k0 s0 (fun V kp kf s1 s2 HV => ?_)
      clear k0 s0 HE HE1 HE2 HE3 HE4 hb4 c1 c2 c3 c4
      generalize w4.heap.size = g at *
      go_wp2
      exact bodyPost_ret (v := .tuple #[.int .u64 0, .int .i64 3]) (by simp [results, Tryd.results38, go_sem]) rfl ⟨rfl, Ext.end HV⟩
    | e0 h h1 h2 =>
      as_aux_lemma =>
      rw [if_neg (by decide)]
      rw [hK _ h] at c2 c3
      simp only [if_true, if_false, Bool.false_eq_true] at c2 c3 c5 c6 c7
      simp only [topM, leastN, mostN, lowI, layV, signV, infV] at *
      clear hK hM
      go_enter Tryd.func38, Tryd.ntmps38
      go_upto_region 1 with (fail)
      refine hide1 w (fun W k0 s0 HE => ?_)
      go_region_held3 (fun w' => Ext w W w') (first | assumption | (with_reducible exact Ext.call (by assumption) hb1) | (with_reducible exact Ext.call (by assumption) hb2) | (with_reducible exact Ext.call (by assumption) hb3) | ((with_reducible refine Ext.drew ?_); assumption)) (first | (go_at_call 54; (with_reducible refine (c1 _).mono ?_); rintro e w1 ⟨rfl, hb1⟩; have HE1 : Ext w W w1 := Ext.call (by assumption) hb1) | (go_at_call 43; (with_reducible refine (c2 _).mono ?_); rintro e w2 ⟨rfl, hb2⟩; have HE2 : Ext w W w2 := Ext.call (by assumption) hb2) | (go_at_call 42; (with_reducible refine (c3 _).mono ?_); rintro e w3 ⟨rfl, hb3⟩; have HE3 : Ext w W w3 := Ext.call (by assumption) hb3))
      go_upto_region 5 with (go_at_call 68; (with_reducible refine (c4 _).mono ?_); rintro e w4 ⟨rfl, hb4⟩; have HE4 := HE3.call hb4)
      refine hideE HE4 k0 s0 (fun V kp kf s1 s2 HV => ?_)
      clear k0 s0 HE HE1 HE2 HE3 HE4 hb4 c1 c2 c3 c4
      generalize w4.heap.size = g at *
      go_wp2
      exact bodyPost_ret (v := .tuple #[.int .u64 0, .int .i64 3]) (by simp [results, Tryd.results38, go_sem]) rfl ⟨rfl, Ext.end HV⟩
    | nneg =>
      as_aux_lemma =>
      rw [if_neg (by decide)]
      rw [hK true (by decide)] at c2 c3
      simp only [if_true, if_false, Bool.false_eq_true] at c2 c3 c5 c6 c7
      simp only [topM, leastN, mostN, lowI, layV, signV, infV] at *
      clear hK hM
      go_enter Tryd.func38, Tryd.ntmps38
      go_upto_region 1 with (fail)
      refine hide1 w (fun W k0 s0 HE => ?_)
      go_region_held3 (fun w' => Ext w W w') (first | assumption | (with_reducible exact Ext.call (by assumption) hb1) | (with_reducible exact Ext.call (by assumption) hb2) | (with_reducible exact Ext.call (by assumption) hb3) | ((with_reducible refine Ext.drew ?_); assumption)) (first | (go_at_call 54; (with_reducible refine (c1 _).mono ?_); rintro e w1 ⟨rfl, hb1⟩; have HE1 : Ext w W w1 := Ext.call (by assumption) hb1) | (go_at_call 43; (with_reducible refine (c2 _).mono ?_); rintro e w2 ⟨rfl, hb2⟩; have HE2 : Ext w W w2 := Ext.call (by assumption) hb2) | (go_at_call 42; (with_reducible refine (c3 _).mono ?_); rintro e w3 ⟨rfl, hb3⟩; have HE3 : Ext w W w3 := Ext.call (by assumption) hb3))
      go_upto_region 5 with (go_at_call 68; (with_reducible refine (c4 _).mono ?_); rintro e w4 ⟨rfl, hb4⟩; have HE4 := HE3.call hb4)
      refine hideE HE4 k0 s0 (fun V kp kf s1 s2 HV => ?_)
      clear k0 s0 HE HE1 HE2 HE3 HE4 hb4 c1 c2 c3 c4
      generalize w4.heap.size = g at *
      go_wp2
      exact bodyPost_ret (v := .tuple #[.int .u64 0, .int .i64 3]) (by simp [results, Tryd.results38, go_sem]) rfl ⟨rfl, Ext.end HV⟩
    | nan =>
      as_aux_lemma =>
      rw [if_pos rfl]
      rw [hK true (by decide)] at c2 c3
      simp only [if_true, if_false, Bool.false_eq_true] at c2 c3 c5 c6 c7
      simp only [topM, leastN, mostN, lowI, layV, signV, infV] at *
      clear hK hM
      rw [show (bitsR false ⟨3, false, (0 : Int).toNat, 0⟩ : Int) = 9221120237041090560 by rfl]
      go_enter Tryd.func38, Tryd.ntmps38
      go_upto_region 1 with (fail)
      refine hide1 w (fun W k0 s0 HE => ?_)
      go_region_held3 (fun w' => Ext w W w') (first | assumption | (with_reducible exact Ext.call (by assumption) hb1) | (with_reducible exact Ext.call (by assumption) hb2) | (with_reducible exact Ext.call (by assumption) hb3) | ((with_reducible refine Ext.drew ?_); assumption)) (first | (go_at_call 54; (with_reducible refine (c1 _).mono ?_); rintro e w1 ⟨rfl, hb1⟩; have HE1 : Ext w W w1 := Ext.call (by assumption) hb1) | (go_at_call 43; (with_reducible refine (c2 _).mono ?_); rintro e w2 ⟨rfl, hb2⟩; have HE2 : Ext w W w2 := Ext.call (by assumption) hb2) | (go_at_call 42; (with_reducible refine (c3 _).mono ?_); rintro e w3 ⟨rfl, hb3⟩; have HE3 : Ext w W w3 := Ext.call (by assumption) hb3))
      go_upto_region 5 with (go_at_call 68; (with_reducible refine (c4 _).mono ?_); rintro e w4 ⟨rfl, hb4⟩; have HE4 := HE3.call hb4)
      refine hideE HE4 k0 s0 (fun V kp kf s1 s2 HV => ?_)
      clear k0 s0 HE HE1 HE2 HE3 HE4 hb4 c1 c2 c3 c4
      generalize w4.heap.size = g at *
      go_wp2_with (first | (go_at_call 81; (with_reducible refine (c8 _).mono ?_); rintro e w8 ⟨rfl, hb8⟩; have HV := HV.call hb8) | (go_at_call 70; (with_reducible refine (c9 _).mono ?_); rintro e w9 ⟨rfl, hb9⟩; have HV := HV.call hb9))
      refine bodyPost_ret (by simp [results, Tryd.results38, go_sem]; rfl) rfl ⟨?_, Ext.end HV⟩
      rfl
    | zero =>
      as_aux_lemma =>
      rw [if_pos rfl]
      rw [hK true (by decide)] at c2 c3
      simp only [if_true, if_false, Bool.false_eq_true] at c2 c3 c5 c6 c7
      simp only [topM, leastN, mostN, lowI, layV, signV, infV] at *
      clear hK hM
      cases neg
      all_goals
        go_enter Tryd.func38, Tryd.ntmps38
        go_upto_region 1 with (fail)
        refine hide1 w (fun W k0 s0 HE => ?_)
        go_region_held3 (fun w' => Ext w W w') (first | assumption | (with_reducible exact Ext.call (by assumption) hb1) | (with_reducible exact Ext.call (by assumption) hb2) | (with_reducible exact Ext.call (by assumption) hb3) | ((with_reducible refine Ext.drew ?_); assumption)) (first | (go_at_call 54; (with_reducible refine (c1 _).mono ?_); rintro e w1 ⟨rfl, hb1⟩; have HE1 : Ext w W w1 := Ext.call (by assumption) hb1) | (go_at_call 43; (with_reducible refine (c2 _).mono ?_); rintro e w2 ⟨rfl, hb2⟩; have HE2 : Ext w W w2 := Ext.call (by assumption) hb2) | (go_at_call 42; (with_reducible refine (c3 _).mono ?_); rintro e w3 ⟨rfl, hb3⟩; have HE3 : Ext w W w3 := Ext.call (by assumption) hb3))
        go_upto_region 5 with (go_at_call 68; (with_reducible refine (c4 _).mono ?_); rintro e w4 ⟨rfl, hb4⟩; have HE4 := HE3.call hb4)
        refine hideE HE4 k0 s0 (fun V kp kf s1 s2 HV => ?_)
        clear k0 s0 HE HE1 HE2 HE3 HE4 hb4 c1 c2 c3 c4
        generalize w4.heap.size = g at *
        go_wp2_with (first | (go_at_call 81; (with_reducible refine (c8 _).mono ?_); rintro e w8 ⟨rfl, hb8⟩; have HV := HV.call hb8) | (go_at_call 70; (with_reducible refine (c9 _).mono ?_); rintro e w9 ⟨rfl, hb9⟩; have HV := HV.call hb9))
        refine bodyPost_ret (by simp [results, Tryd.results38, go_sem]; rfl) rfl ⟨?_, Ext.end HV⟩
        rfl
    | inf =>
      as_aux_lemma =>
      rw [if_pos rfl]
      rw [hK true (by decide)] at c2 c3
      simp only [if_true, if_false, Bool.false_eq_true] at c2 c3 c5 c6 c7
      simp only [topM, leastN, mostN, lowI, layV, signV, infV] at *
      clear hK hM
      cases neg
      all_goals
        go_enter Tryd.func38, Tryd.ntmps38
        go_upto_region 1 with (fail)
        refine hide1 w (fun W k0 s0 HE => ?_)
        go_region_held3 (fun w' => Ext w W w') (first | assumption | (with_reducible exact Ext.call (by assumption) hb1) | (with_reducible exact Ext.call (by assumption) hb2) | (with_reducible exact Ext.call (by assumption) hb3) | ((with_reducible refine Ext.drew ?_); assumption)) (first | (go_at_call 54; (with_reducible refine (c1 _).mono ?_); rintro e w1 ⟨rfl, hb1⟩; have HE1 : Ext w W w1 := Ext.call (by assumption) hb1) | (go_at_call 43; (with_reducible refine (c2 _).mono ?_); rintro e w2 ⟨rfl, hb2⟩; have HE2 : Ext w W w2 := Ext.call (by assumption) hb2) | (go_at_call 42; (with_reducible refine (c3 _).mono ?_); rintro e w3 ⟨rfl, hb3⟩; have HE3 : Ext w W w3 := Ext.call (by assumption) hb3))
        go_upto_region 5 with (go_at_call 68; (with_reducible refine (c4 _).mono ?_); rintro e w4 ⟨rfl, hb4⟩; have HE4 := HE3.call hb4)
        refine hideE HE4 k0 s0 (fun V kp kf s1 s2 HV => ?_)
        clear k0 s0 HE HE1 HE2 HE3 HE4 hb4 c1 c2 c3 c4
        generalize w4.heap.size = g at *
        go_wp2_with (first | (go_at_call 81; (with_reducible refine (c8 _).mono ?_); rintro e w8 ⟨rfl, hb8⟩; have HV := HV.call hb8) | (go_at_call 70; (with_reducible refine (c9 _).mono ?_); rintro e w9 ⟨rfl, hb9⟩; have HV := HV.call hb9))
        refine bodyPost_ret (by simp [results, Tryd.results38, go_sem]; rfl) rfl ⟨?_, Ext.end HV⟩
        rfl
    | bad1 h1 =>
      as_aux_lemma =>
      rw [if_neg (by decide)]
      rw [hK true (by decide)] at c2 c3
      rw [hM _ _ _ _ h1] at c5 c7
      simp only [if_true, if_false, Bool.false_eq_true] at c2 c3 c5 c6 c7
      rw [if_neg (by decide)] at c7
      simp only [topM, leastN, mostN, lowI, layV, signV, infV] at *
      clear hK hM
      go_enter Tryd.func38, Tryd.ntmps38
      go_upto_region 1 with (fail)
      refine hide1 w (fun W k0 s0 HE => ?_)
      go_region_held3 (fun w' => Ext w W w') (first | assumption | (with_reducible exact Ext.call (by assumption) hb1) | (with_reducible exact Ext.call (by assumption) hb2) | (with_reducible exact Ext.call (by assumption) hb3) | ((with_reducible refine Ext.drew ?_); assumption)) (first | (go_at_call 54; (with_reducible refine (c1 _).mono ?_); rintro e w1 ⟨rfl, hb1⟩; have HE1 : Ext w W w1 := Ext.call (by assumption) hb1) | (go_at_call 43; (with_reducible refine (c2 _).mono ?_); rintro e w2 ⟨rfl, hb2⟩; have HE2 : Ext w W w2 := Ext.call (by assumption) hb2) | (go_at_call 42; (with_reducible refine (c3 _).mono ?_); rintro e w3 ⟨rfl, hb3⟩; have HE3 : Ext w W w3 := Ext.call (by assumption) hb3))
      go_upto_region 5 with (go_at_call 68; (with_reducible refine (c4 _).mono ?_); rintro e w4 ⟨rfl, hb4⟩; have HE4 := HE3.call hb4)
      refine hideE HE4 k0 s0 (fun V kp kf s1 s2 HV => ?_)
      clear k0 s0 HE HE1 HE2 HE3 HE4 hb4 c1 c2 c3 c4
      generalize w4.heap.size = g at *
      go_upto_region 15 with (fail)
      go_region_held3 (fun w' => Ext w V w') (first | assumption | (with_reducible exact Ext.call (by assumption) hb5) | (with_reducible exact Ext.call (by assumption) hb6) | (with_reducible exact Ext.call (by assumption) hb7) | ((with_reducible refine Ext.drew ?_); assumption)) (first | (go_at_call 62; (with_reducible refine (c6 _).mono ?_); rintro e w6 ⟨rfl, hb6⟩; have HE6 : Ext w V w6 := Ext.call (by assumption) hb6) | (go_at_call 62; (with_reducible refine Calls.mono (c5 _ ?_ _) ?_); (first | rfl | decide | (go_num; done) | (trace_state; fail)); rintro e w5 ⟨rfl, hb5⟩; have HE5 : Ext w V w5 := Ext.call (by assumption) hb5) | (go_at_call 42; (with_reducible refine (c7 _).mono ?_); rintro e w7 ⟨rfl, hb7⟩; have HE7 : Ext w V w7 := Ext.call (by assumption) hb7))
      go_wp2
      exact bodyPost_ret (v := .tuple #[.int .u64 0, .int .i64 2]) (by simp [results, Tryd.results38, go_sem]) rfl ⟨rfl, Ext.end HE7⟩
    | bad2 h1 h2 =>
      as_aux_lemma =>
      rw [if_neg (by decide)]
      rw [hK true (by decide)] at c2 c3
      rw [hM _ _ _ _ h1] at c5 c7
      rw [hM _ _ _ _ h2] at c6 c7
      simp only [if_true, if_false, Bool.false_eq_true] at c2 c3 c5 c6 c7
      try rw [if_pos rfl] at c7
      simp only [topM, leastN, mostN, lowI, layV, signV, infV] at *
      clear hK hM
      go_enter Tryd.func38, Tryd.ntmps38
      go_upto_region 1 with (fail)
      refine hide1 w (fun W k0 s0 HE => ?_)
      go_region_held3 (fun w' => Ext w W w') (first | assumption | (with_reducible exact Ext.call (by assumption) hb1) | (with_reducible exact Ext.call (by assumption) hb2) | (with_reducible exact Ext.call (by assumption) hb3) | ((with_reducible refine Ext.drew ?_); assumption)) (first | (go_at_call 54; (with_reducible refine (c1 _).mono ?_); rintro e w1 ⟨rfl, hb1⟩; have HE1 : Ext w W w1 := Ext.call (by assumption) hb1) | (go_at_call 43; (with_reducible refine (c2 _).mono ?_); rintro e w2 ⟨rfl, hb2⟩; have HE2 : Ext w W w2 := Ext.call (by assumption) hb2) | (go_at_call 42; (with_reducible refine (c3 _).mono ?_); rintro e w3 ⟨rfl, hb3⟩; have HE3 : Ext w W w3 := Ext.call (by assumption) hb3))
      go_upto_region 5 with (go_at_call 68; (with_reducible refine (c4 _).mono ?_); rintro e w4 ⟨rfl, hb4⟩; have HE4 := HE3.call hb4)
      refine hideE HE4 k0 s0 (fun V kp kf s1 s2 HV => ?_)
      clear k0 s0 HE HE1 HE2 HE3 HE4 hb4 c1 c2 c3 c4
      generalize w4.heap.size = g at *
      go_upto_region 15 with (fail)
      go_region_held3 (fun w' => Ext w V w') (first | assumption | (with_reducible exact Ext.call (by assumption) hb5) | (with_reducible exact Ext.call (by assumption) hb6) | (with_reducible exact Ext.call (by assumption) hb7) | ((with_reducible refine Ext.drew ?_); assumption)) (first | (go_at_call 62; (with_reducible refine (c6 _).mono ?_); rintro e w6 ⟨rfl, hb6⟩; have HE6 : Ext w V w6 := Ext.call (by assumption) hb6) | (go_at_call 62; (with_reducible refine Calls.mono (c5 _ ?_ _) ?_); (first | rfl | decide | (go_num; done) | (trace_state; fail)); rintro e w5 ⟨rfl, hb5⟩; have HE5 : Ext w V w5 := Ext.call (by assumption) hb5) | (go_at_call 42; (with_reducible refine (c7 _).mono ?_); rintro e w7 ⟨rfl, hb7⟩; have HE7 : Ext w V w7 := Ext.call (by assumption) hb7))
      go_wp2
      exact bodyPost_ret (v := .tuple #[.int .u64 0, .int .i64 2]) (by simp [results, Tryd.results38, go_sem]) rfl ⟨rfl, Ext.end HE7⟩
    | bad3 h1 h2 h3 h4 =>
      as_aux_lemma =>
      rw [if_neg (by decide)]
      rw [hK true (by decide)] at c2 c3
      rw [hM _ _ _ _ h1] at c5 c7
      rw [hM _ _ _ _ h2] at c6 c7
      simp only [if_true, if_false, Bool.false_eq_true] at c2 c3 c5 c6 c7
      try rw [if_pos rfl] at c7
      simp only [topM, leastN, mostN, lowI, layV, signV, infV] at *
      clear hK hM
      go_enter Tryd.func38, Tryd.ntmps38
      go_upto_region 1 with (fail)
      refine hide1 w (fun W k0 s0 HE => ?_)
      go_region_held3 (fun w' => Ext w W w') (first | assumption | (with_reducible exact Ext.call (by assumption) hb1) | (with_reducible exact Ext.call (by assumption) hb2) | (with_reducible exact Ext.call (by assumption) hb3) | ((with_reducible refine Ext.drew ?_); assumption)) (first | (go_at_call 54; (with_reducible refine (c1 _).mono ?_); rintro e w1 ⟨rfl, hb1⟩; have HE1 : Ext w W w1 := Ext.call (by assumption) hb1) | (go_at_call 43; (with_reducible refine (c2 _).mono ?_); rintro e w2 ⟨rfl, hb2⟩; have HE2 : Ext w W w2 := Ext.call (by assumption) hb2) | (go_at_call 42; (with_reducible refine (c3 _).mono ?_); rintro e w3 ⟨rfl, hb3⟩; have HE3 : Ext w W w3 := Ext.call (by assumption) hb3))
      go_upto_region 5 with (go_at_call 68; (with_reducible refine (c4 _).mono ?_); rintro e w4 ⟨rfl, hb4⟩; have HE4 := HE3.call hb4)
      refine hideE HE4 k0 s0 (fun V kp kf s1 s2 HV => ?_)
      clear k0 s0 HE HE1 HE2 HE3 HE4 hb4 c1 c2 c3 c4
      generalize w4.heap.size = g at *
      go_upto_region 15 with (fail)
      go_region_held3 (fun w' => Ext w V w') (first | assumption | (with_reducible exact Ext.call (by assumption) hb5) | (with_reducible exact Ext.call (by assumption) hb6) | (with_reducible exact Ext.call (by assumption) hb7) | ((with_reducible refine Ext.drew ?_); assumption)) (first | (go_at_call 62; (with_reducible refine (c6 _).mono ?_); rintro e w6 ⟨rfl, hb6⟩; have HE6 : Ext w V w6 := Ext.call (by assumption) hb6) | (go_at_call 62; (with_reducible refine Calls.mono (c5 _ ?_ _) ?_); (first | rfl | decide | (go_num; done) | (trace_state; fail)); rintro e w5 ⟨rfl, hb5⟩; have HE5 : Ext w V w5 := Ext.call (by assumption) hb5) | (go_at_call 42; (with_reducible refine (c7 _).mono ?_); rintro e w7 ⟨rfl, hb7⟩; have HE7 : Ext w V w7 := Ext.call (by assumption) hb7))
      go_wp2
      exact bodyPost_ret (v := .tuple #[.int .u64 0, .int .i64 2]) (by simp [results, Tryd.results38, go_sem]) rfl ⟨rfl, Ext.end HE7⟩
    | low h1 h3 =>
      as_aux_lemma =>
      rw [if_pos rfl]
      rw [hK true (by decide)] at c2 c3
      rw [hM _ _ _ _ h1] at c5 c7
      rw [hM (leastN false) (leastN false) (mostN false) true (by decide)] at c6 c7
      simp only [if_true, if_false, Bool.false_eq_true] at c2 c3 c5 c6 c7
      try rw [if_pos rfl] at c7
      simp only [topM, leastN, mostN, lowI, layV, signV, infV] at *
      clear hK hM
      have hm1 := of_decide_eq_true h1
      clear h1
      have f1 : IntKind.u64.wrap m = m := wrap_u64 (by omega) (by omega)
      cases neg
      all_goals
        go_enter Tryd.func38, Tryd.ntmps38
        go_upto_region 1 with (fail)
        refine hide1 w (fun W k0 s0 HE => ?_)
        go_region_held3 (fun w' => Ext w W w') (first | assumption | (with_reducible exact Ext.call (by assumption) hb1) | (with_reducible exact Ext.call (by assumption) hb2) | (with_reducible exact Ext.call (by assumption) hb3) | ((with_reducible refine Ext.drew ?_); assumption)) (first | (go_at_call 54; (with_reducible refine (c1 _).mono ?_); rintro e w1 ⟨rfl, hb1⟩; have HE1 : Ext w W w1 := Ext.call (by assumption) hb1) | (go_at_call 43; (with_reducible refine (c2 _).mono ?_); rintro e w2 ⟨rfl, hb2⟩; have HE2 : Ext w W w2 := Ext.call (by assumption) hb2) | (go_at_call 42; (with_reducible refine (c3 _).mono ?_); rintro e w3 ⟨rfl, hb3⟩; have HE3 : Ext w W w3 := Ext.call (by assumption) hb3))
        go_upto_region 5 with (go_at_call 68; (with_reducible refine (c4 _).mono ?_); rintro e w4 ⟨rfl, hb4⟩; have HE4 := HE3.call hb4)
        refine hideE HE4 k0 s0 (fun V kp kf s1 s2 HV => ?_)
        clear k0 s0 HE HE1 HE2 HE3 HE4 hb4 c1 c2 c3 c4
        generalize w4.heap.size = g at *
        go_upto_region 15 with (fail)
        go_region_held3 (fun w' => Ext w V w') (first | assumption | (with_reducible exact Ext.call (by assumption) hb5) | (with_reducible exact Ext.call (by assumption) hb6) | (with_reducible exact Ext.call (by assumption) hb7) | ((with_reducible refine Ext.drew ?_); assumption)) (first | (go_at_call 62; (with_reducible refine (c6 _).mono ?_); rintro e w6 ⟨rfl, hb6⟩; have HE6 : Ext w V w6 := Ext.call (by assumption) hb6) | (go_at_call 62; (with_reducible refine Calls.mono (c5 _ ?_ _) ?_); (first | rfl | decide | (go_num; done) | (trace_state; fail)); rintro e w5 ⟨rfl, hb5⟩; have HE5 : Ext w V w5 := Ext.call (by assumption) hb5) | (go_at_call 42; (with_reducible refine (c7 _).mono ?_); rintro e w7 ⟨rfl, hb7⟩; have HE7 : Ext w V w7 := Ext.call (by assumption) hb7))
        go_wp2_with (go_at_call 70; (with_reducible refine (c9 _).mono ?_); rintro e w9 ⟨rfl, hb9⟩; have HE7 := HE7.call hb9)
        refine bodyPost_ret (by simp [results, Tryd.results38, go_sem]; rfl) rfl ⟨?_, Ext.end HE7⟩
        clear kp kf c5 c6 c7 c8 c9 HE7 HV HE5 HE6
        refine tup_eq ?_
        rw [bitsR_fin (s := false) (e := -1074) (by omega) (by simp only [topM]; omega) (by decide) (by decide) (fun _ => rfl)]
        have hor := or_sign false m 9223372036854775808 (by omega) (by simp only [signV]; omega) (.inr rfl)
        simp only [leastN, lowI, if_true, if_false, Bool.false_eq_true]
        first | (rw [hor]; have : (signN false : Int) = 9223372036854775808 := rfl; rw [this]; omega) | omega
    | high h1 h2 h3 =>
      as_aux_lemma =>
      rw [if_pos rfl]
      rw [hK true (by decide)] at c2 c3
      rw [hM _ _ _ _ h1] at c5 c7
      rw [hM _ _ _ _ h2] at c6 c7
      simp only [if_true, if_false, Bool.false_eq_true] at c2 c3 c5 c6 c7
      try rw [if_pos rfl] at c7
      simp only [topM, leastN, mostN, lowI, layV, signV, infV] at *
      clear hK hM
      have hm1 := of_decide_eq_true h1
      clear h1
      have f1 : IntKind.u64.wrap m = m := wrap_u64 (by omega) (by omega)
      have he1 := of_decide_eq_true h2
      clear h2
      have f2 : IntKind.u64.wrap (e - (-1074)) = e - (-1074) := wrap_u64 (by omega) (by omega)
      cases neg
      all_goals
        go_enter Tryd.func38, Tryd.ntmps38
        go_upto_region 1 with (fail)
        refine hide1 w (fun W k0 s0 HE => ?_)
        go_region_held3 (fun w' => Ext w W w') (first | assumption | (with_reducible exact Ext.call (by assumption) hb1) | (with_reducible exact Ext.call (by assumption) hb2) | (with_reducible exact Ext.call (by assumption) hb3) | ((with_reducible refine Ext.drew ?_); assumption)) (first | (go_at_call 54; (with_reducible refine (c1 _).mono ?_); rintro e w1 ⟨rfl, hb1⟩; have HE1 : Ext w W w1 := Ext.call (by assumption) hb1) | (go_at_call 43; (with_reducible refine (c2 _).mono ?_); rintro e w2 ⟨rfl, hb2⟩; have HE2 : Ext w W w2 := Ext.call (by assumption) hb2) | (go_at_call 42; (with_reducible refine (c3 _).mono ?_); rintro e w3 ⟨rfl, hb3⟩; have HE3 : Ext w W w3 := Ext.call (by assumption) hb3))
        go_upto_region 5 with (go_at_call 68; (with_reducible refine (c4 _).mono ?_); rintro e w4 ⟨rfl, hb4⟩; have HE4 := HE3.call hb4)
        refine hideE HE4 k0 s0 (fun V kp kf s1 s2 HV => ?_)
        clear k0 s0 HE HE1 HE2 HE3 HE4 hb4 c1 c2 c3 c4
        generalize w4.heap.size = g at *
        go_upto_region 15 with (fail)
        go_region_held3 (fun w' => Ext w V w') (first | assumption | (with_reducible exact Ext.call (by assumption) hb5) | (with_reducible exact Ext.call (by assumption) hb6) | (with_reducible exact Ext.call (by assumption) hb7) | ((with_reducible refine Ext.drew ?_); assumption)) (first | (go_at_call 62; (with_reducible refine (c6 _).mono ?_); rintro e w6 ⟨rfl, hb6⟩; have HE6 : Ext w V w6 := Ext.call (by assumption) hb6) | (go_at_call 62; (with_reducible refine Calls.mono (c5 _ ?_ _) ?_); (first | rfl | decide | (go_num; done) | (trace_state; fail)); rintro e w5 ⟨rfl, hb5⟩; have HE5 : Ext w V w5 := Ext.call (by assumption) hb5) | (go_at_call 42; (with_reducible refine (c7 _).mono ?_); rintro e w7 ⟨rfl, hb7⟩; have HE7 : Ext w V w7 := Ext.call (by assumption) hb7))
        go_wp2_with (go_at_call 70; (with_reducible refine (c9 _).mono ?_); rintro e w9 ⟨rfl, hb9⟩; have HE7 := HE7.call hb9)
        refine bodyPost_ret (by simp [results, Tryd.results38, go_sem]; rfl) rfl ⟨?_, Ext.end HE7⟩
        clear kp kf c5 c6 c7 c8 c9 HE7 HV HE5 HE6
        refine tup_eq ?_
        rw [bitsR_fin (s := false) (by omega) (by simp only [topM]; omega) (by simp only [leastN]; omega) (by simp only [mostN]; omega) (fun h => by simp only [lowI] at h; omega)]
        have hor := or_sign false (m + (e + 1074) * 4503599627370496) 9223372036854775808 (by omega) (by simp only [signV]; omega) (.inr rfl)
        simp only [leastN, lowI, if_true, if_false, Bool.false_eq_true]
        first | (rw [hor]; have : (signN false : Int) = 9223372036854775808 := rfl; rw [this]; omega) | omega
  · show Calls Tryd.prog 38 #[.int .i64 1, _] w _
    replace c1 : ∀ w, Calls Tryd.prog 54 #[.int .i64 1] w _ := c1
    replace c4 : ∀ w, Calls Tryd.prog 68 #[.int .i64 1] w _ := c4
    cases hL with
    | kind h =>
      as_aux_lemma =>
      rw [if_neg (by decide)]
      rw [hK _ h] at c2 c3
      have hq : ((15 : Int) != 0) = true := by decide
      simp only [if_true, if_false, Bool.false_eq_true] at c2 c3 c5 c6 c7
      simp only [topM, leastN, mostN, lowI, layV, signV, infV] at *
      clear hK hM
      go_enter Tryd.func38, Tryd.ntmps38
      go_upto_region 1 with (fail)
      refine hide1 w (fun W k0 s0 HE => ?_)
      go_region_held3 (fun w' => Ext w W w') (first | assumption | (with_reducible exact Ext.call (by assumption) hb1) | (with_reducible exact Ext.call (by assumption) hb2) | (with_reducible exact Ext.call (by assumption) hb3) | ((with_reducible refine Ext.drew ?_); assumption)) (first | (go_at_call 54; (with_reducible refine (c1 _).mono ?_); rintro e w1 ⟨rfl, hb1⟩; have HE1 : Ext w W w1 := Ext.call (by assumption) hb1) | (go_at_call 43; (with_reducible refine (c2 _).mono ?_); rintro e w2 ⟨rfl, hb2⟩; have HE2 : Ext w W w2 := Ext.call (by assumption) hb2) | (go_at_call 42; (with_reducible refine (c3 _).mono ?_); rintro e w3 ⟨rfl, hb3⟩; have HE3 : Ext w W w3 := Ext.call (by assumption) hb3))
      go_wp2
      exact bodyPost_ret (v := .tuple #[.int .u64 0, .int .i64 15]) (by simp [results, Tryd.results38, go_sem]) rfl ⟨rfl, Ext.end HE3⟩
    | m0 h h1 h2 =>
      as_aux_lemma =>
      rw [if_neg (by decide)]
      rw [hK _ h] at c2 c3
      simp only [if_true, if_false, Bool.false_eq_true] at c2 c3 c5 c6 c7
      simp only [topM, leastN, mostN, lowI, layV, signV, infV] at *
      clear hK hM
      go_enter Tryd.func38, Tryd.ntmps38
      go_upto_region 1 with (fail)
      refine hide1 w (fun W k0 s0 HE => ?_)
      go_region_held3 (fun w' => Ext w W w') (first | assumption | (with_reducible exact Ext.call (by assumption) hb1) | (with_reducible exact Ext.call (by assumption) hb2) | (with_reducible exact Ext.call (by assumption) hb3) | ((with_reducible refine Ext.drew ?_); assumption)) (first | (go_at_call 54; (with_reducible refine (c1 _).mono ?_); rintro e w1 ⟨rfl, hb1⟩; have HE1 : Ext w W w1 := Ext.call (by assumption) hb1) | (go_at_call 43; (with_reducible refine (c2 _).mono ?_); rintro e w2 ⟨rfl, hb2⟩; have HE2 : Ext w W w2 := Ext.call (by assumption) hb2) | (go_at_call 42; (with_reducible refine (c3 _).mono ?_); rintro e w3 ⟨rfl, hb3⟩; have HE3 : Ext w W w3 := Ext.call (by assumption) hb3))
      go_upto_region 5 with (go_at_call 68; (with_reducible refine (c4 _).mono ?_); rintro e w4 ⟨rfl, hb4⟩; have HE4 := HE3.call hb4)
      refine hideE HE4 k0 s0 (fun V kp kf s1 s2 HV => ?_)
      clear k0 s0 HE HE1 HE2 HE3 HE4 hb4 c1 c2 c3 c4
      generalize w4.heap.size = g at *
      go_wp2
      exact bodyPost_ret (v := .tuple #[.int .u64 0, .int .i64 3]) (by simp [results, Tryd.results38, go_sem]) rfl ⟨rfl, Ext.end HV⟩
    | e0 h h1 h2 =>
      as_aux_lemma =>
      rw [if_neg (by decide)]
      rw [hK _ h] at c2 c3
      simp only [if_true, if_false, Bool.false_eq_true] at c2 c3 c5 c6 c7
      simp only [topM, leastN, mostN, lowI, layV, signV, infV] at *
      clear hK hM
      go_enter Tryd.func38, Tryd.ntmps38
      go_upto_region 1 with (fail)
      refine hide1 w (fun W k0 s0 HE => ?_)
      go_region_held3 (fun w' => Ext w W w') (first | assumption | (with_reducible exact Ext.call (by assumption) hb1) | (with_reducible exact Ext.call (by assumption) hb2) | (with_reducible exact Ext.call (by assumption) hb3) | ((with_reducible refine Ext.drew ?_); assumption)) (first | (go_at_call 54; (with_reducible refine (c1 _).mono ?_); rintro e w1 ⟨rfl, hb1⟩; have HE1 : Ext w W w1 := Ext.call (by assumption) hb1) | (go_at_call 43; (with_reducible refine (c2 _).mono ?_); rintro e w2 ⟨rfl, hb2⟩; have HE2 : Ext w W w2 := Ext.call (by assumption) hb2) | (go_at_call 42; (with_reducible refine (c3 _).mono ?_); rintro e w3 ⟨rfl, hb3⟩; have HE3 : Ext w W w3 := Ext.call (by assumption) hb3))
      go_upto_region 5 with (go_at_call 68; (with_reducible refine (c4 _).mono ?_); rintro e w4 ⟨rfl, hb4⟩; have HE4 := HE3.call hb4)
      refine hideE HE4 k0 s0 (fun V kp kf s1 s2 HV => ?_)
      clear k0 s0 HE HE1 HE2 HE3 HE4 hb4 c1 c2 c3 c4
      generalize w4.heap.size = g at *
      go_wp2
      exact bodyPost_ret (v := .tuple #[.int .u64 0, .int .i64 3]) (by simp [results, Tryd.results38, go_sem]) rfl ⟨rfl, Ext.end HV⟩
    | nneg =>
      as_aux_lemma =>
      rw [if_neg (by decide)]
      rw [hK true (by decide)] at c2 c3
      simp only [if_true, if_false, Bool.false_eq_true] at c2 c3 c5 c6 c7
      simp only [topM, leastN, mostN, lowI, layV, signV, infV] at *
      clear hK hM
      go_enter Tryd.func38, Tryd.ntmps38
      go_upto_region 1 with (fail)
      refine hide1 w (fun W k0 s0 HE => ?_)
      go_region_held3 (fun w' => Ext w W w') (first | assumption | (with_reducible exact Ext.call (by assumption) hb1) | (with_reducible exact Ext.call (by assumption) hb2) | (with_reducible exact Ext.call (by assumption) hb3) | ((with_reducible refine Ext.drew ?_); assumption)) (first | (go_at_call 54; (with_reducible refine (c1 _).mono ?_); rintro e w1 ⟨rfl, hb1⟩; have HE1 : Ext w W w1 := Ext.call (by assumption) hb1) | (go_at_call 43; (with_reducible refine (c2 _).mono ?_); rintro e w2 ⟨rfl, hb2⟩; have HE2 : Ext w W w2 := Ext.call (by assumption) hb2) | (go_at_call 42; (with_reducible refine (c3 _).mono ?_); rintro e w3 ⟨rfl, hb3⟩; have HE3 : Ext w W w3 := Ext.call (by assumption) hb3))
      go_upto_region 5 with (go_at_call 68; (with_reducible refine (c4 _).mono ?_); rintro e w4 ⟨rfl, hb4⟩; have HE4 := HE3.call hb4)
      refine hideE HE4 k0 s0 (fun V kp kf s1 s2 HV => ?_)
      clear k0 s0 HE HE1 HE2 HE3 HE4 hb4 c1 c2 c3 c4
      generalize w4.heap.size = g at *
      go_wp2
      exact bodyPost_ret (v := .tuple #[.int .u64 0, .int .i64 3]) (by simp [results, Tryd.results38, go_sem]) rfl ⟨rfl, Ext.end HV⟩
    | nan =>
      as_aux_lemma =>
      rw [if_pos rfl]
      rw [hK true (by decide)] at c2 c3
      simp only [if_true, if_false, Bool.false_eq_true] at c2 c3 c5 c6 c7
      simp only [topM, leastN, mostN, lowI, layV, signV, infV] at *
      clear hK hM
      rw [show (bitsR true ⟨3, false, (0 : Int).toNat, 0⟩ : Int) = 2143289344 by rfl]
      go_enter Tryd.func38, Tryd.ntmps38
      go_upto_region 1 with (fail)
      refine hide1 w (fun W k0 s0 HE => ?_)
      go_region_held3 (fun w' => Ext w W w') (first | assumption | (with_reducible exact Ext.call (by assumption) hb1) | (with_reducible exact Ext.call (by assumption) hb2) | (with_reducible exact Ext.call (by assumption) hb3) | ((with_reducible refine Ext.drew ?_); assumption)) (first | (go_at_call 54; (with_reducible refine (c1 _).mono ?_); rintro e w1 ⟨rfl, hb1⟩; have HE1 : Ext w W w1 := Ext.call (by assumption) hb1) | (go_at_call 43; (with_reducible refine (c2 _).mono ?_); rintro e w2 ⟨rfl, hb2⟩; have HE2 : Ext w W w2 := Ext.call (by assumption) hb2) | (go_at_call 42; (with_reducible refine (c3 _).mono ?_); rintro e w3 ⟨rfl, hb3⟩; have HE3 : Ext w W w3 := Ext.call (by assumption) hb3))
      go_upto_region 5 with (go_at_call 68; (with_reducible refine (c4 _).mono ?_); rintro e w4 ⟨rfl, hb4⟩; have HE4 := HE3.call hb4)
      refine hideE HE4 k0 s0 (fun V kp kf s1 s2 HV => ?_)
      clear k0 s0 HE HE1 HE2 HE3 HE4 hb4 c1 c2 c3 c4
      generalize w4.heap.size = g at *
      go_wp2_with (first | (go_at_call 81; (with_reducible refine (c8 _).mono ?_); rintro e w8 ⟨rfl, hb8⟩; have HV := HV.call hb8) | (go_at_call 70; (with_reducible refine (c9 _).mono ?_); rintro e w9 ⟨rfl, hb9⟩; have HV := HV.call hb9))
      refine bodyPost_ret (by simp [results, Tryd.results38, go_sem]; rfl) rfl ⟨?_, Ext.end HV⟩
      rfl
    | zero =>
      as_aux_lemma =>
      rw [if_pos rfl]
      rw [hK true (by decide)] at c2 c3
      simp only [if_true, if_false, Bool.false_eq_true] at c2 c3 c5 c6 c7
      simp only [topM, leastN, mostN, lowI, layV, signV, infV] at *
      clear hK hM
      cases neg
      all_goals
        go_enter Tryd.func38, Tryd.ntmps38
        go_upto_region 1 with (fail)
        refine hide1 w (fun W k0 s0 HE => ?_)
        go_region_held3 (fun w' => Ext w W w') (first | assumption | (with_reducible exact Ext.call (by assumption) hb1) | (with_reducible exact Ext.call (by assumption) hb2) | (with_reducible exact Ext.call (by assumption) hb3) | ((with_reducible refine Ext.drew ?_); assumption)) (first | (go_at_call 54; (with_reducible refine (c1 _).mono ?_); rintro e w1 ⟨rfl, hb1⟩; have HE1 : Ext w W w1 := Ext.call (by assumption) hb1) | (go_at_call 43; (with_reducible refine (c2 _).mono ?_); rintro e w2 ⟨rfl, hb2⟩; have HE2 : Ext w W w2 := Ext.call (by assumption) hb2) | (go_at_call 42; (with_reducible refine (c3 _).mono ?_); rintro e w3 ⟨rfl, hb3⟩; have HE3 : Ext w W w3 := Ext.call (by assumption) hb3))
        go_upto_region 5 with (go_at_call 68; (with_reducible refine (c4 _).mono ?_); rintro e w4 ⟨rfl, hb4⟩; have HE4 := HE3.call hb4)
        refine hideE HE4 k0 s0 (fun V kp kf s1 s2 HV => ?_)
        clear k0 s0 HE HE1 HE2 HE3 HE4 hb4 c1 c2 c3 c4
        generalize w4.heap.size = g at *
        go_wp2_with (first | (go_at_call 81; (with_reducible refine (c8 _).mono ?_); rintro e w8 ⟨rfl, hb8⟩; have HV := HV.call hb8) | (go_at_call 70; (with_reducible refine (c9 _).mono ?_); rintro e w9 ⟨rfl, hb9⟩; have HV := HV.call hb9))
        refine bodyPost_ret (by simp [results, Tryd.results38, go_sem]; rfl) rfl ⟨?_, Ext.end HV⟩
        rfl
    | inf =>
      as_aux_lemma =>
      rw [if_pos rfl]
      rw [hK true (by decide)] at c2 c3
      simp only [if_true, if_false, Bool.false_eq_true] at c2 c3 c5 c6 c7
      simp only [topM, leastN, mostN, lowI, layV, signV, infV] at *
      clear hK hM
      cases neg
      all_goals
        go_enter Tryd.func38, Tryd.ntmps38
        go_upto_region 1 with (fail)
        refine hide1 w (fun W k0 s0 HE => ?_)
        go_region_held3 (fun w' => Ext w W w') (first | assumption | (with_reducible exact Ext.call (by assumption) hb1) | (with_reducible exact Ext.call (by assumption) hb2) | (with_reducible exact Ext.call (by assumption) hb3) | ((with_reducible refine Ext.drew ?_); assumption)) (first | (go_at_call 54; (with_reducible refine (c1 _).mono ?_); rintro e w1 ⟨rfl, hb1⟩; have HE1 : Ext w W w1 := Ext.call (by assumption) hb1) | (go_at_call 43; (with_reducible refine (c2 _).mono ?_); rintro e w2 ⟨rfl, hb2⟩; have HE2 : Ext w W w2 := Ext.call (by assumption) hb2) | (go_at_call 42; (with_reducible refine (c3 _).mono ?_); rintro e w3 ⟨rfl, hb3⟩; have HE3 : Ext w W w3 := Ext.call (by assumption) hb3))
        go_upto_region 5 with (go_at_call 68; (with_reducible refine (c4 _).mono ?_); rintro e w4 ⟨rfl, hb4⟩; have HE4 := HE3.call hb4)
        refine hideE HE4 k0 s0 (fun V kp kf s1 s2 HV => ?_)
        clear k0 s0 HE HE1 HE2 HE3 HE4 hb4 c1 c2 c3 c4
        generalize w4.heap.size = g at *
        go_wp2_with (first | (go_at_call 81; (with_reducible refine (c8 _).mono ?_); rintro e w8 ⟨rfl, hb8⟩; have HV := HV.call hb8) | (go_at_call 70; (with_reducible refine (c9 _).mono ?_); rintro e w9 ⟨rfl, hb9⟩; have HV := HV.call hb9))
        refine bodyPost_ret (by simp [results, Tryd.results38, go_sem]; rfl) rfl ⟨?_, Ext.end HV⟩
        rfl
    | bad1 h1 =>
      as_aux_lemma =>
      rw [if_neg (by decide)]
      rw [hK true (by decide)] at c2 c3
      rw [hM _ _ _ _ h1] at c5 c7
      simp only [if_true, if_false, Bool.false_eq_true] at c2 c3 c5 c6 c7
      rw [if_neg (by decide)] at c7
      simp only [topM, leastN, mostN, lowI, layV, signV, infV] at *
      clear hK hM
      go_enter Tryd.func38, Tryd.ntmps38
      go_upto_region 1 with (fail)
      refine hide1 w (fun W k0 s0 HE => ?_)
      go_region_held3 (fun w' => Ext w W w') (first | assumption | (with_reducible exact Ext.call (by assumption) hb1) | (with_reducible exact Ext.call (by assumption) hb2) | (with_reducible exact Ext.call (by assumption) hb3) | ((with_reducible refine Ext.drew ?_); assumption)) (first | (go_at_call 54; (with_reducible refine (c1 _).mono ?_); rintro e w1 ⟨rfl, hb1⟩; have HE1 : Ext w W w1 := Ext.call (by assumption) hb1) | (go_at_call 43; (with_reducible refine (c2 _).mono ?_); rintro e w2 ⟨rfl, hb2⟩; have HE2 : Ext w W w2 := Ext.call (by assumption) hb2) | (go_at_call 42; (with_reducible refine (c3 _).mono ?_); rintro e w3 ⟨rfl, hb3⟩; have HE3 : Ext w W w3 := Ext.call (by assumption) hb3))
      go_upto_region 5 with (go_at_call 68; (with_reducible refine (c4 _).mono ?_); rintro e w4 ⟨rfl, hb4⟩; have HE4 := HE3.call hb4)
      refine hideE HE4 k0 s0 (fun V kp kf s1 s2 HV => ?_)
      clear k0 s0 HE HE1 HE2 HE3 HE4 hb4 c1 c2 c3 c4
      generalize w4.heap.size = g at *
      go_upto_region 15 with (fail)
      go_region_held3 (fun w' => Ext w V w') (first | assumption | (with_reducible exact Ext.call (by assumption) hb5) | (with_reducible exact Ext.call (by assumption) hb6) | (with_reducible exact Ext.call (by assumption) hb7) | ((with_reducible refine Ext.drew ?_); assumption)) (first | (go_at_call 62; (with_reducible refine (c6 _).mono ?_); rintro e w6 ⟨rfl, hb6⟩; have HE6 : Ext w V w6 := Ext.call (by assumption) hb6) | (go_at_call 62; (with_reducible refine Calls.mono (c5 _ ?_ _) ?_); (first | rfl | decide | (go_num; done) | (trace_state; fail)); rintro e w5 ⟨rfl, hb5⟩; have HE5 : Ext w V w5 := Ext.call (by assumption) hb5) | (go_at_call 42; (with_reducible refine (c7 _).mono ?_); rintro e w7 ⟨rfl, hb7⟩; have HE7 : Ext w V w7 := Ext.call (by assumption) hb7))
      go_wp2
      exact bodyPost_ret (v := .tuple #[.int .u64 0, .int .i64 2]) (by simp [results, Tryd.results38, go_sem]) rfl ⟨rfl, Ext.end HE7⟩
    | bad2 h1 h2 =>
      as_aux_lemma =>
      rw [if_neg (by decide)]
      rw [hK true (by decide)] at c2 c3
      rw [hM _ _ _ _ h1] at c5 c7
      rw [hM _ _ _ _ h2] at c6 c7
      simp only [if_true, if_false, Bool.false_eq_true] at c2 c3 c5 c6 c7
      try rw [if_pos rfl] at c7
      simp only [topM, leastN, mostN, lowI, layV, signV, infV] at *
      clear hK hM
      go_enter Tryd.func38, Tryd.ntmps38
      go_upto_region 1 with (fail)
      refine hide1 w (fun W k0 s0 HE => ?_)
      go_region_held3 (fun w' => Ext w W w') (first | assumption | (with_reducible exact Ext.call (by assumption) hb1) | (with_reducible exact Ext.call (by assumption) hb2) | (with_reducible exact Ext.call (by assumption) hb3) | ((with_reducible refine Ext.drew ?_); assumption)) (first | (go_at_call 54; (with_reducible refine (c1 _).mono ?_); rintro e w1 ⟨rfl, hb1⟩; have HE1 : Ext w W w1 := Ext.call (by assumption) hb1) | (go_at_call 43; (with_reducible refine (c2 _).mono ?_); rintro e w2 ⟨rfl, hb2⟩; have HE2 : Ext w W w2 := Ext.call (by assumption) hb2) | (go_at_call 42; (with_reducible refine (c3 _).mono ?_); rintro e w3 ⟨rfl, hb3⟩; have HE3 : Ext w W w3 := Ext.call (by assumption) hb3))
      go_upto_region 5 with (go_at_call 68; (with_reducible refine (c4 _).mono ?_); rintro e w4 ⟨rfl, hb4⟩; have HE4 := HE3.call hb4)
      refine hideE HE4 k0 s0 (fun V kp kf s1 s2 HV => ?_)
      clear k0 s0 HE HE1 HE2 HE3 HE4 hb4 c1 c2 c3 c4
      generalize w4.heap.size = g at *
      go_upto_region 15 with (fail)
      go_region_held3 (fun w' => Ext w V w') (first | assumption | (with_reducible exact Ext.call (by assumption) hb5) | (with_reducible exact Ext.call (by assumption) hb6) | (with_reducible exact Ext.call (by assumption) hb7) | ((with_reducible refine Ext.drew ?_); assumption)) (first | (go_at_call 62; (with_reducible refine (c6 _).mono ?_); rintro e w6 ⟨rfl, hb6⟩; have HE6 : Ext w V w6 := Ext.call (by assumption) hb6) | (go_at_call 62; (with_reducible refine Calls.mono (c5 _ ?_ _) ?_); (first | rfl | decide | (go_num; done) | (trace_state; fail)); rintro e w5 ⟨rfl, hb5⟩; have HE5 : Ext w V w5 := Ext.call (by assumption) hb5) | (go_at_call 42; (with_reducible refine (c7 _).mono ?_); rintro e w7 ⟨rfl, hb7⟩; have HE7 : Ext w V w7 := Ext.call (by assumption) hb7))
      go_wp2
      exact bodyPost_ret (v := .tuple #[.int .u64 0, .int .i64 2]) (by simp [results, Tryd.results38, go_sem]) rfl ⟨rfl, Ext.end HE7⟩
    | bad3 h1 h2 h3 h4 =>
      as_aux_lemma =>
      rw [if_neg (by decide)]
      rw [hK true (by decide)] at c2 c3
      rw [hM _ _ _ _ h1] at c5 c7
      rw [hM _ _ _ _ h2] at c6 c7
      simp only [if_true, if_false, Bool.false_eq_true] at c2 c3 c5 c6 c7
      try rw [if_pos rfl] at c7
      simp only [topM, leastN, mostN, lowI, layV, signV, infV] at *
      clear hK hM
      go_enter Tryd.func38, Tryd.ntmps38
      go_upto_region 1 with (fail)
      refine hide1 w (fun W k0 s0 HE => ?_)
      go_region_held3 (fun w' => Ext w W w') (first | assumption | (with_reducible exact Ext.call (by assumption) hb1) | (with_reducible exact Ext.call (by assumption) hb2) | (with_reducible exact Ext.call (by assumption) hb3) | ((with_reducible refine Ext.drew ?_); assumption)) (first | (go_at_call 54; (with_reducible refine (c1 _).mono ?_); rintro e w1 ⟨rfl, hb1⟩; have HE1 : Ext w W w1 := Ext.call (by assumption) hb1) | (go_at_call 43; (with_reducible refine (c2 _).mono ?_); rintro e w2 ⟨rfl, hb2⟩; have HE2 : Ext w W w2 := Ext.call (by assumption) hb2) | (go_at_call 42; (with_reducible refine (c3 _).mono ?_); rintro e w3 ⟨rfl, hb3⟩; have HE3 : Ext w W w3 := Ext.call (by assumption) hb3))
      go_upto_region 5 with (go_at_call 68; (with_reducible refine (c4 _).mono ?_); rintro e w4 ⟨rfl, hb4⟩; have HE4 := HE3.call hb4)
      refine hideE HE4 k0 s0 (fun V kp kf s1 s2 HV => ?_)
      clear k0 s0 HE HE1 HE2 HE3 HE4 hb4 c1 c2 c3 c4
      generalize w4.heap.size = g at *
      go_upto_region 15 with (fail)
      go_region_held3 (fun w' => Ext w V w') (first | assumption | (with_reducible exact Ext.call (by assumption) hb5) | (with_reducible exact Ext.call (by assumption) hb6) | (with_reducible exact Ext.call (by assumption) hb7) | ((with_reducible refine Ext.drew ?_); assumption)) (first | (go_at_call 62; (with_reducible refine (c6 _).mono ?_); rintro e w6 ⟨rfl, hb6⟩; have HE6 : Ext w V w6 := Ext.call (by assumption) hb6) | (go_at_call 62; (with_reducible refine Calls.mono (c5 _ ?_ _) ?_); (first | rfl | decide | (go_num; done) | (trace_state; fail)); rintro e w5 ⟨rfl, hb5⟩; have HE5 : Ext w V w5 := Ext.call (by assumption) hb5) | (go_at_call 42; (with_reducible refine (c7 _).mono ?_); rintro e w7 ⟨rfl, hb7⟩; have HE7 : Ext w V w7 := Ext.call (by assumption) hb7))
      go_wp2
      exact bodyPost_ret (v := .tuple #[.int .u64 0, .int .i64 2]) (by simp [results, Tryd.results38, go_sem]) rfl ⟨rfl, Ext.end HE7⟩
    | low h1 h3 =>
      as_aux_lemma =>
      rw [if_pos rfl]
      rw [hK true (by decide)] at c2 c3
      rw [hM _ _ _ _ h1] at c5 c7
      rw [hM (leastN true) (leastN true) (mostN true) true (by decide)] at c6 c7
      simp only [if_true, if_false, Bool.false_eq_true] at c2 c3 c5 c6 c7
      try rw [if_pos rfl] at c7
      simp only [topM, leastN, mostN, lowI, layV, signV, infV] at *
      clear hK hM
      have hm1 := of_decide_eq_true h1
      clear h1
      have f1 : IntKind.u64.wrap m = m := wrap_u64 (by omega) (by omega)
      cases neg
      all_goals
        go_enter Tryd.func38, Tryd.ntmps38
        go_upto_region 1 with (fail)
        refine hide1 w (fun W k0 s0 HE => ?_)
        go_region_held3 (fun w' => Ext w W w') (first | assumption | (with_reducible exact Ext.call (by assumption) hb1) | (with_reducible exact Ext.call (by assumption) hb2) | (with_reducible exact Ext.call (by assumption) hb3) | ((with_reducible refine Ext.drew ?_); assumption)) (first | (go_at_call 54; (with_reducible refine (c1 _).mono ?_); rintro e w1 ⟨rfl, hb1⟩; have HE1 : Ext w W w1 := Ext.call (by assumption) hb1) | (go_at_call 43; (with_reducible refine (c2 _).mono ?_); rintro e w2 ⟨rfl, hb2⟩; have HE2 : Ext w W w2 := Ext.call (by assumption) hb2) | (go_at_call 42; (with_reducible refine (c3 _).mono ?_); rintro e w3 ⟨rfl, hb3⟩; have HE3 : Ext w W w3 := Ext.call (by assumption) hb3))
        go_upto_region 5 with (go_at_call 68; (with_reducible refine (c4 _).mono ?_); rintro e w4 ⟨rfl, hb4⟩; have HE4 := HE3.call hb4)
        refine hideE HE4 k0 s0 (fun V kp kf s1 s2 HV => ?_)
        clear k0 s0 HE HE1 HE2 HE3 HE4 hb4 c1 c2 c3 c4
        generalize w4.heap.size = g at *
        go_upto_region 15 with (fail)
        go_region_held3 (fun w' => Ext w V w') (first | assumption | (with_reducible exact Ext.call (by assumption) hb5) | (with_reducible exact Ext.call (by assumption) hb6) | (with_reducible exact Ext.call (by assumption) hb7) | ((with_reducible refine Ext.drew ?_); assumption)) (first | (go_at_call 62; (with_reducible refine (c6 _).mono ?_); rintro e w6 ⟨rfl, hb6⟩; have HE6 : Ext w V w6 := Ext.call (by assumption) hb6) | (go_at_call 62; (with_reducible refine Calls.mono (c5 _ ?_ _) ?_); (first | rfl | decide | (go_num; done) | (trace_state; fail)); rintro e w5 ⟨rfl, hb5⟩; have HE5 : Ext w V w5 := Ext.call (by assumption) hb5) | (go_at_call 42; (with_reducible refine (c7 _).mono ?_); rintro e w7 ⟨rfl, hb7⟩; have HE7 : Ext w V w7 := Ext.call (by assumption) hb7))
        go_wp2_with (go_at_call 70; (with_reducible refine (c9 _).mono ?_); rintro e w9 ⟨rfl, hb9⟩; have HE7 := HE7.call hb9)
        refine bodyPost_ret (by simp [results, Tryd.results38, go_sem]; rfl) rfl ⟨?_, Ext.end HE7⟩
        clear kp kf c5 c6 c7 c8 c9 HE7 HV HE5 HE6
        refine tup_eq ?_
        rw [bitsR_fin (s := true) (e := -149) (by omega) (by simp only [topM]; omega) (by decide) (by decide) (fun _ => rfl)]
        have hor := or_sign true m 2147483648 (by omega) (by simp only [signV]; omega) (.inr rfl)
        simp only [leastN, lowI, if_true, if_false, Bool.false_eq_true]
        first | (rw [hor]; have : (signN true : Int) = 2147483648 := rfl; rw [this]; omega) | omega
    | high h1 h2 h3 =>
      as_aux_lemma =>
      rw [if_pos rfl]
      rw [hK true (by decide)] at c2 c3
      rw [hM _ _ _ _ h1] at c5 c7
      rw [hM _ _ _ _ h2] at c6 c7
      simp only [if_true, if_false, Bool.false_eq_true] at c2 c3 c5 c6 c7
      try rw [if_pos rfl] at c7
      simp only [topM, leastN, mostN, lowI, layV, signV, infV] at *
      clear hK hM
      have hm1 := of_decide_eq_true h1
      clear h1
      have f1 : IntKind.u64.wrap m = m := wrap_u64 (by omega) (by omega)
      have he1 := of_decide_eq_true h2
      clear h2
      have f2 : IntKind.u64.wrap (e - (-149)) = e - (-149) := wrap_u64 (by omega) (by omega)
      cases neg
      all_goals
        go_enter Tryd.func38, Tryd.ntmps38
        go_upto_region 1 with (fail)
        refine hide1 w (fun W k0 s0 HE => ?_)
        go_region_held3 (fun w' => Ext w W w') (first | assumption | (with_reducible exact Ext.call (by assumption) hb1) | (with_reducible exact Ext.call (by assumption) hb2) | (with_reducible exact Ext.call (by assumption) hb3) | ((with_reducible refine Ext.drew ?_); assumption)) (first | (go_at_call 54; (with_reducible refine (c1 _).mono ?_); rintro e w1 ⟨rfl, hb1⟩; have HE1 : Ext w W w1 := Ext.call (by assumption) hb1) | (go_at_call 43; (with_reducible refine (c2 _).mono ?_); rintro e w2 ⟨rfl, hb2⟩; have HE2 : Ext w W w2 := Ext.call (by assumption) hb2) | (go_at_call 42; (with_reducible refine (c3 _).mono ?_); rintro e w3 ⟨rfl, hb3⟩; have HE3 : Ext w W w3 := Ext.call (by assumption) hb3))
        go_upto_region 5 with (go_at_call 68; (with_reducible refine (c4 _).mono ?_); rintro e w4 ⟨rfl, hb4⟩; have HE4 := HE3.call hb4)
        refine hideE HE4 k0 s0 (fun V kp kf s1 s2 HV => ?_)
        clear k0 s0 HE HE1 HE2 HE3 HE4 hb4 c1 c2 c3 c4
        generalize w4.heap.size = g at *
        go_upto_region 15 with (fail)
        go_region_held3 (fun w' => Ext w V w') (first | assumption | (with_reducible exact Ext.call (by assumption) hb5) | (with_reducible exact Ext.call (by assumption) hb6) | (with_reducible exact Ext.call (by assumption) hb7) | ((with_reducible refine Ext.drew ?_); assumption)) (first | (go_at_call 62; (with_reducible refine (c6 _).mono ?_); rintro e w6 ⟨rfl, hb6⟩; have HE6 : Ext w V w6 := Ext.call (by assumption) hb6) | (go_at_call 62; (with_reducible refine Calls.mono (c5 _ ?_ _) ?_); (first | rfl | decide | (go_num; done) | (trace_state; fail)); rintro e w5 ⟨rfl, hb5⟩; have HE5 : Ext w V w5 := Ext.call (by assumption) hb5) | (go_at_call 42; (with_reducible refine (c7 _).mono ?_); rintro e w7 ⟨rfl, hb7⟩; have HE7 : Ext w V w7 := Ext.call (by assumption) hb7))
        go_wp2_with (go_at_call 70; (with_reducible refine (c9 _).mono ?_); rintro e w9 ⟨rfl, hb9⟩; have HE7 := HE7.call hb9)
        refine bodyPost_ret (by simp [results, Tryd.results38, go_sem]; rfl) rfl ⟨?_, Ext.end HE7⟩
        clear kp kf c5 c6 c7 c8 c9 HE7 HV HE5 HE6
        refine tup_eq ?_
        rw [bitsR_fin (s := true) (by omega) (by simp only [topM]; omega) (by simp only [leastN]; omega) (by simp only [mostN]; omega) (fun h => by simp only [lowI] at h; omega)]
        have hor := or_sign true (m + (e + 149) * 8388608) 2147483648 (by omega) (by simp only [signV]; omega) (.inr rfl)
        simp only [leastN, lowI, if_true, if_false, Bool.false_eq_true]
        first | (rw [hor]; have : (signN true : Int) = 2147483648 := rfl; rw [this]; omega) | omega
end Go.Proofs.YtmoimcblmmcffaaDoor.NC

/-! The program's parts of bits, walked. -/
namespace Go.Proofs.YtmoimcblmmcffaaDoor.NC
open Go.RowKit Go.Proofs.YtmoimcblmmcffaaDoor.B Go.Proofs.YtmoimcblmmcffaaDoor.N
set_option linter.unusedSimpArgs false
set_option linter.unusedVariables false

theorem hideO {P : Program} {c : Code} {Q : Exit → Act → World → Prop} {a : Act} {w : World} {cs : Array Value} {t : TypeId}
    (h : ∀ W, Own W w.heap.size cs.size → Ext w W W → c.wp P Q a W) : c.wp P Q a (w.alloc (.cells cs t (0, 0))) :=
  h _ (own_new w cs t) (Ext.refl (below_alloc0 (Below.refl _ _) _))
/-- Where the walk stands: the result's block, the layout's, the parts'. -/
structure PSt (w V : World) (g0 g1 g2 : Nat) (ly xs : Array Value) : Prop where
  ly : ∀ i, V.cell? ⟨g1, i, none⟩ = ly[i]?
  xs : ∀ i, V.cell? ⟨g2, i, none⟩ = xs[i]?
  o0 : Own V g0 4
  o2 : Own V g2 4
  n02 : g0 ≠ g2
  n12 : g1 ≠ g2
  s1 : g1 < V.heap.size
  w0 : w.heap.size ≤ g0
  w2 : w.heap.size ≤ g2
  bel : Below w.heap.size w V
section
variable {w V V' : World} {g0 g1 g2 : Nat} {ly xs : Array Value}
theorem PSt.call (h : PSt w V g0 g1 g2 ly xs) (hb : Below V.heap.size V V') : PSt w V' g0 g1 g2 ly xs :=
  ⟨fun i => ((bcell hb).1 _ i h.s1).trans (h.ly i), fun i => ((bcell hb).1 _ i h.o2.2.2).trans (h.xs i), h.o0.call hb, h.o2.call hb, h.n02, h.n12, Nat.lt_of_lt_of_le h.s1 hb.size, h.w0, h.w2, below_call h.bel hb⟩
theorem PSt.drew (h : PSt w V g0 g1 g2 ly xs) : PSt w V.drew g0 g1 g2 ly xs := h.call (Below.refl _ _).drew
theorem own_ext {w0 V V' : World} {g k : Nat} (h : Own V g k) (hE : Ext w0 V V') : Own V' g k :=
  ⟨fun i hi => cellOf_eq ((hE.1 _ _ h.2.2).trans (h.1 i hi)), fun i => (hE.2.1 _ _ h.2.2).trans (h.2.1 i), Nat.lt_of_lt_of_le h.2.2 hE.2.2.1⟩
theorem PSt.ext (h : PSt w V g0 g1 g2 ly xs) (hE : Ext w V V') : PSt w V' g0 g1 g2 ly xs :=
  ⟨fun i => (hE.1 _ i h.s1).trans (h.ly i), fun i => (hE.1 _ i h.o2.2.2).trans (h.xs i), own_ext h.o0 hE, own_ext h.o2 hE, h.n02, h.n12, Nat.lt_of_lt_of_le h.s1 hE.2.2.1, h.w0, h.w2, hE.2.2.2⟩
theorem PSt.set (h : PSt w V g0 g1 g2 ly xs) (j : Nat) (v : Value) (hj : j < xs.size) : PSt w (V.setCell ⟨g2, j, none⟩ v) g0 g1 g2 ly (xs.set j v hj) := by
  have hne : ∀ g i, g ≠ g2 → (V.setCell ⟨g2, j, none⟩ v).cell? ⟨g, i, none⟩ = V.cell? ⟨g, i, none⟩ := fun g i hg =>
    World.cell?_setCell_other _ _ _ _ (by intro e; injection e with e1 e2 e3; exact hg e1.symm)
  refine ⟨fun i => (hne _ i h.n12).trans (h.ly i), fun i => ?_, h.o0.set _ _, h.o2.set _ _, h.n02, h.n12, by simpa [World.setCell] using h.s1, h.w0, h.w2, h.bel.setCell (p := ⟨g2, j, none⟩) h.w2 v⟩
  rw [Array.getElem?_set]
  by_cases hi : j = i
  · subst hi
    rw [if_pos rfl]
    have := h.xs j
    rw [Array.getElem?_eq_getElem hj] at this
    exact World.cell?_setCell_same _ _ _ this
  · rw [if_neg hi]
    exact (cell_put_ne hi).trans (h.xs i)
theorem hideS {P : Program} {c : Code} {Q : Exit → Act → World → Prop} {a : Act} (xs' : Array Value) (h : PSt w V g0 g1 g2 ly xs) (he : xs = xs') (hc : ∀ V, PSt w V g0 g1 g2 ly xs' → c.wp P Q a V) : c.wp P Q a V := hc V (he ▸ h)
/-- The layout's block. -/
theorem hideL {P : Program} {c : Code} {Q : Exit → Act → World → Prop} {a : Act} {w1 : World} {cs : Array Value} {t : TypeId} (h0 : Own w1 g0 4) (hw : w.heap.size ≤ g0) (hb : Below w.heap.size w w1)
    (h : ∀ W g1, w1.heap.size = g1 → (∀ i, W.cell? ⟨g1, i, none⟩ = cs[i]?) → Own W g0 4 → g1 < W.heap.size → w.heap.size ≤ g1 → Below w.heap.size w W → Ext w W W → c.wp P Q a W) : c.wp P Q a (w1.alloc (.cells cs t (0, 0))) :=
  h _ _ rfl (fun i => cell_of_row _ _ i cs t (0, 0) (heap_alloc_new w1 _)) (h0.alloc _) (by simp) hb.size (below_alloc0 hb _) (Ext.refl (below_alloc0 hb _))
/-- The parts' block. -/
theorem hideX {P : Program} {c : Code} {Q : Exit → Act → World → Prop} {a : Act} {W w1 : World} {x0 x1 x2 x3 : Value} {t : TypeId} (hE : Ext w W w1) (k1 : ∀ i, W.cell? ⟨g1, i, none⟩ = ly[i]?) (s1 : g1 < W.heap.size) (h0 : Own w1 g0 4) (hw : w.heap.size ≤ g0)
    (h : ∀ V g2, w1.heap.size = g2 → PSt w V g0 g1 g2 ly #[x0, x1, x2, x3] → c.wp P Q a V) : c.wp P Q a (w1.alloc (.cells #[x0, x1, x2, x3] t (0, 0))) := by
  have hE2 := hE.alloc (.cells #[x0, x1, x2, x3] t (0, 0))
  have hlt : g1 < w1.heap.size := Nat.lt_of_lt_of_le s1 hE.2.2.1
  exact h _ _ rfl ⟨fun i => (hE2.1 _ i s1).trans (k1 i), fun i => cell_of_row _ _ i _ t (0, 0) (heap_alloc_new w1 _), h0.alloc _, own_new w1 _ t, Nat.ne_of_lt h0.2.2, Nat.ne_of_lt hlt, Nat.lt_of_lt_of_le s1 hE2.2.2.1, hw, hE.2.2.2.size, hE2.2.2.2⟩
end

theorem below_row {w w1 : World} {g : Nat} (h : Below w.heap.size w w1) (a b c d : Value) (hg : w.heap.size ≤ g := by first | exact Nat.le_refl _ | assumption) :
    Below w.heap.size w ((((w1.setCell ⟨g, 0, none⟩ a).setCell ⟨g, 1, none⟩ b).setCell ⟨g, 2, none⟩ c).setCell ⟨g, 3, none⟩ d) :=
  (((h.setCell (p := ⟨g, 0, none⟩) hg a).setCell (p := ⟨g, 1, none⟩) hg b).setCell (p := ⟨g, 2, none⟩) hg c).setCell (p := ⟨g, 3, none⟩) hg d

set_option maxRecDepth 100000 in
set_option maxHeartbeats 8000000 in
theorem partsOf_bad (t a : Int) (w : World) (ha : U64 a) (hv : validV t [a] ≠ 0) : Calls Tryd.prog 37 #[.int .i64 t, .int .u64 a] w (Ret (.tuple #[.agg #[.int .i64 0, .bool false, .int .i64 0, .int .i64 0], .int .i64 (validV t [a])]) w) := by
  have c1 := fun g w h => valid1_c t a g w ha h
  have hq : (validV t [a] != 0) = true := by simpa using hv
  generalize validV t [a] = V at *
  go_enter Tryd.func37, Tryd.ntmps37
  go_upto_region 1 with (fail)
  refine hideO (fun W h0 HE => ?_)
  go_wp2_with (go_at_call 44; refine (c1 _ _ (by go_simp)).mono ?_; rintro e w1 ⟨rfl, hb1⟩; have HE1 := Ext.next (w0 := w) (W := W) hb1; have h1 : Own w1 w.heap.size 4 := (h0.alloc _).call hb1)
  have hr := Own.read4 (n := 0) ((((h1.set ⟨w.heap.size, 0, none⟩ (.int .i64 0)).set ⟨w.heap.size, 1, none⟩ (.bool false)).set ⟨w.heap.size, 2, none⟩ (.int .i64 0)).set ⟨w.heap.size, 3, none⟩ (.int .i64 0))
  exact bodyPost_ret (v := .tuple #[.agg #[.int .i64 0, .bool false, .int .i64 0, .int .i64 0], .int .i64 V]) (by simp [results, Tryd.results37, go_sem, hr.1, hr.2.1, hr.2.2.1, hr.2.2.2]) rfl ⟨rfl, below_row HE1.2.2.2 _ _ _ _⟩
end Go.Proofs.YtmoimcblmmcffaaDoor.NC

/-! What the program's bit operations say of a word's parts. No walk here. -/
namespace Go.Proofs.YtmoimcblmmcffaaDoor.NC
open Go.RowKit Go.Proofs.YtmoimcblmmcffaaDoor.B Go.Proofs.YtmoimcblmmcffaaDoor.N
set_option linter.unusedSimpArgs false
set_option linter.unusedVariables false

theorem and_part (s : Bool) (a : Nat) (ha : a < 2 * signN s) : bits .and .u64 (a : Int) (partV s) = ((a % lowN s : Nat) : Int) := by
  cases s
  · have h1 : a < 18446744073709551616 := ha
    rw [u64_and _ _ (by omega) (by omega) (by decide) (by decide)]
    have := Nat.and_two_pow_sub_one_eq_mod a 52
    exact congrArg (fun n : Nat => (n : Int)) this
  · have h1 : a < 4294967296 := ha
    rw [u64_and _ _ (by omega) (by omega) (by decide) (by decide)]
    have := Nat.and_two_pow_sub_one_eq_mod a 23
    exact congrArg (fun n : Nat => (n : Int)) this
theorem infV_low (s : Bool) : infV s = ((lowN s * (fieldN s - 1) : Nat) : Int) := by cases s <;> decide
/-- The parts of a word as the program reads them off its bits. -/
inductive Read (s : Bool) (a : Nat) : PP → Prop
  | inf (neg : Bool) (hs : (bits .and .u64 (a : Int) (signV s) != 0) = neg) (hN : nothingV s a = false) (hI : infiniteV s a = true) : Read s a ⟨2, neg, 0, 0⟩
  | nan (hN : nothingV s a = true) : Read s a ⟨3, false, 0, 0⟩
  | zero (neg : Bool) (hs : (bits .and .u64 (a : Int) (signV s) != 0) = neg) (hN : nothingV s a = false) (hI : infiniteV s a = false) (hZ : zeroV s a = true) : Read s a ⟨0, neg, 0, 0⟩
  | den (neg : Bool) (r : Nat) (hs : (bits .and .u64 (a : Int) (signV s) != 0) = neg) (hN : nothingV s a = false) (hI : infiniteV s a = false) (hZ : zeroV s a = false) (hp : bits .and .u64 (a : Int) (partV s) = (r : Int)) (he : bits .andNot .u64 (a : Int) (signV s) = (r : Int)) (hr : r < lowN s) : Read s a ⟨1, neg, r, leastN s⟩
  | nor (neg : Bool) (r f : Nat) (hs : (bits .and .u64 (a : Int) (signV s) != 0) = neg) (hN : nothingV s a = false) (hI : infiniteV s a = false) (hZ : zeroV s a = false) (hp : bits .and .u64 (a : Int) (partV s) = (r : Int)) (he : bits .andNot .u64 (a : Int) (signV s) = ((r + lowN s * f : Nat) : Int)) (hr : r < lowN s) (hf : f ≠ 0) (hf2 : f + 1 < fieldN s) : Read s a ⟨1, neg, r + lowN s, (f : Int) - 1 + leastN s⟩
theorem read_of (s : Bool) (a : Nat) (ha : a < 2 * signN s) : Read s a (partsR s a) := by
  have hl := low_pos s
  have hf3 := field_three s
  have hlf := low_field s
  have hr : a % lowN s < lowN s := Nat.mod_lt _ hl
  have hf : a / lowN s % fieldN s < fieldN s := Nat.mod_lt _ (by omega)
  have hrung : a % signN s = a % lowN s + lowN s * (a / lowN s % fieldN s) := by rw [← hlf, Nat.mod_mul]
  have hdiv : a / lowN s / fieldN s = a / signN s := by rw [Nat.div_div_eq_div_mul, hlf]
  have hs0 : 0 < signN s := by cases s <;> decide
  have hd2 : a / signN s < 2 := (Nat.div_lt_iff_lt_mul hs0).2 ha
  have hneg : (bits .and .u64 (a : Int) (signV s) != 0) = decide (a / lowN s / fieldN s = 1) := by
    rw [and_sign s _ (by omega) (by rw [top_sgn]; exact_mod_cast ha), hdiv, sgn_eq]
    by_cases h : a < signN s
    · rw [if_pos (by exact_mod_cast h), Nat.div_eq_of_lt h]; rfl
    · rw [if_neg (by exact_mod_cast h)]
      have : a / signN s = 1 := by
        have : 1 ≤ a / signN s := (Nat.le_div_iff_mul_le hs0).2 (by omega)
        omega
      rw [this]
      have : ((signN s : Int) != 0) = true := by rw [bne_iff_ne]; omega
      rw [this]; rfl
  have hand : bits .andNot .u64 (a : Int) (signV s) = ((a % signN s : Nat) : Int) := by
    rw [andNot_sign s _ (by omega) (by rw [top_sgn]; exact_mod_cast ha), sgn_eq]; rfl
  have hpart := and_part s a ha
  have hN : nothingV s a = decide (lowN s * (fieldN s - 1) < a % signN s) := by
    unfold nothingV; rw [hand, infV_low]; exact decide_eq_decide.2 (by omega)
  have hI : infiniteV s a = decide (a % signN s = lowN s * (fieldN s - 1)) := by
    unfold infiniteV; rw [hand, infV_low, Bool.eq_iff_iff]; simp only [beq_iff_eq, decide_eq_true_eq]; omega
  have hZ : zeroV s a = decide (a % signN s = 0) := by
    unfold zeroV; rw [hand, Bool.eq_iff_iff]; simp only [beq_iff_eq, decide_eq_true_eq]; omega
  unfold partsR
  generalize decide (a / lowN s / fieldN s = 1) = neg at *
  generalize a / lowN s % fieldN s = f at *
  rw [hrung] at hN hI hZ hand
  generalize a % lowN s = r at *
  clear hdiv hd2 hrung
  have hcase := parts_leaf (s := s) (f := f) (r := r) (neg := neg) rfl
  have hge : f + 1 ≠ fieldN s → r + lowN s * f < lowN s * (fieldN s - 1) := by
    intro h
    have : lowN s * (f + 1) ≤ lowN s * (fieldN s - 1) := Nat.mul_le_mul_left _ (by omega)
    rw [Nat.mul_add, Nat.mul_one] at this
    omega
  have heq : f + 1 = fieldN s → lowN s * f = lowN s * (fieldN s - 1) := fun h => by rw [show fieldN s - 1 = f by omega]
  rcases hcase with ⟨h1, h2, h⟩ | ⟨h1, h2, h⟩ | ⟨h1, h2, h3, h⟩ | ⟨h1, h2, h3, h⟩ | ⟨h1, h2, h⟩ <;> rw [h]
  · have := heq h1
    rw [decide_eq_false (by omega)] at hN
    rw [decide_eq_true (by omega)] at hI
    exact .inf neg hneg hN hI
  · have := heq h1
    rw [decide_eq_true (by omega)] at hN
    exact .nan hN
  · have := hge h1
    subst h2 h3
    rw [decide_eq_false (by omega)] at hN
    rw [decide_eq_false (by omega)] at hI
    rw [decide_eq_true (by simp)] at hZ
    exact .zero neg hneg hN hI hZ
  · have := hge h1
    subst h2
    rw [decide_eq_false (by omega)] at hN
    rw [decide_eq_false (by omega)] at hI
    rw [decide_eq_false (by simp; exact h3)] at hZ
    rw [Nat.mul_zero, Nat.add_zero] at hand
    exact .den neg r hneg hN hI hZ hpart hand hr
  · have := hge h1
    have hpos : 0 < lowN s * f := Nat.mul_pos hl (by omega)
    rw [decide_eq_false (by omega)] at hN
    rw [decide_eq_false (by omega)] at hI
    rw [decide_eq_false (by omega)] at hZ
    exact .nor neg r f hneg hN hI hZ hpart hand hr h2 (by omega)
end Go.Proofs.YtmoimcblmmcffaaDoor.NC

/-! The program's parts of bits, walked case by case. -/
namespace Go.Proofs.YtmoimcblmmcffaaDoor.NC
open Go.RowKit Go.Proofs.YtmoimcblmmcffaaDoor.B Go.Proofs.YtmoimcblmmcffaaDoor.N
set_option linter.unusedSimpArgs false
set_option linter.unusedVariables false

set_option maxRecDepth 100000 in
set_option maxHeartbeats 8000000 in
theorem partsOf_inf_false (b : Int) (w : World) (hb : Rg false b) (neg : Bool) (hs : (bits .and .u64 b (signV false) != 0) = neg) (hN : nothingV false b = false) (hI : infiniteV false b = true) : Calls Tryd.prog 37 #[.int .i64 2, .int .u64 b] w (Ret (.tuple #[.agg #[.int .i64 2, .bool neg, .int .i64 0, .int .i64 0], .int .i64 0]) w) := by
  have c1 := fun g w h => valid1_c 2 b g w hb.u64 h
  have hv : validV 2 [b] = 0 := hb.valid1
  rw [hv] at c1
  have c2 : ∀ w, Calls Tryd.prog 68 #[.int .i64 2] w (Ret (layV false) w) := fun w => layoutOf_c 2 w
  have c3 := fun w => sign_c false w
  have c4 := fun w => isNothing_c false b w
  have c5 := fun w => isInfinite_c false b w
  have c6 := fun w => isZero_c false b w
  have c7 := fun w => part_c false w
  rw [hN] at c4
  rw [hI] at c5
  generalize signV false = S at *
  generalize partV false = PT at *
  simp only [layV] at *
  clear hv hb
  go_enter Tryd.func37, Tryd.ntmps37
  go_upto_region 1 with (fail)
  refine hideO (fun W h0 HE => ?_)
  go_upto_region 4 with (go_at_call 44; refine (c1 _ _ (by go_simp)).mono ?_; rintro e w1 ⟨rfl, hb1⟩; have HE1 := Ext.next (w0 := w) (W := W) hb1; have h1 : Own w1 w.heap.size 4 := (h0.alloc _).call hb1)
  go_upto_region 5 with (go_at_call 68; refine (c2 _).mono ?_; rintro e w2 ⟨rfl, hb2⟩; have HE2 := HE1.call hb2; have h2 : Own w2 w.heap.size 4 := h1.call hb2)
  refine hideL h2 (Nat.le_refl _) HE2.2.2.2 (fun W3 g1 hg1 k1 h3 s1 hwg hB3 hE3 => ?_)
  subst hg1
  clear h0 h1 h2 HE HE1 HE2 hb1 hb2 c1 c2
  generalize w2.heap.size = g1 at *
  go_upto_region 12 with (go_at_call 70; refine (c3 _).mono ?_; rintro e w4 ⟨rfl, hb4⟩; have HE4 := hE3.call hb4; have h4 : Own w4 w.heap.size 4 := h3.call hb4)
  refine hideX HE4 k1 s1 h4 (Nat.le_refl _) (fun V g2 hg2 hP => ?_)
  subst hg2
  clear h3 h4 HE4 hE3 hb4 k1 s1 hB3
  generalize w4.heap.size = g2 at *
  have hPP := Lib.hid hP
  obtain ⟨k1, k2, o0, o2, n02, n12, s1, w0, w2, bel⟩ := hP
  go_upto_region 15 with (first | (go_at_call 77; refine (c4 _).mono ?_; rintro e w5 ⟨rfl, hb5⟩; have hP5 := hPP.out.call hb5; have k5 := hP5.ly; have s5 := hP5.s1; clear k1 k2 o0 o2 s1 bel) | (go_at_call 78; refine (c5 _).mono ?_; rintro e w6 ⟨rfl, hb6⟩; have hP6 := hP5.call hb6; have k6 := hP6.ly; have s6 := hP6.s1; have x6 := hP6.xs; have o6 := hP6.o2; clear k5 s5))
  have hQ := hP6
  clear hPP
  go_upto_region 18 with (fail)
  refine hideS #[.int .i64 2, .bool neg, .int .i64 0, .int .i64 0] (hQ.set 0 (.int .i64 2) (Nat.lt_of_lt_of_le (by decide) (Nat.le_refl 4))) rfl (fun X hX => ?_)
  obtain ⟨k1, k2, o0, o2, -, -, s1, -, -, bel⟩ := hX
  go_wp2
  have hr := Own.read4 (n := 0) ((((o0.set ⟨w.heap.size, 0, none⟩ (.int .i64 2)).set ⟨w.heap.size, 1, none⟩ (.bool neg)).set ⟨w.heap.size, 2, none⟩ (.int .i64 0)).set ⟨w.heap.size, 3, none⟩ (.int .i64 0))
  exact bodyPost_ret (v := .tuple #[.agg #[.int .i64 2, .bool neg, .int .i64 0, .int .i64 0], .int .i64 0]) (by simp [results, Tryd.results37, go_sem, hr.1, hr.2.1, hr.2.2.1, hr.2.2.2]) rfl ⟨rfl, below_row bel _ _ _ _⟩
set_option maxRecDepth 100000 in
set_option maxHeartbeats 8000000 in
theorem partsOf_nan_false (b : Int) (w : World) (hb : Rg false b) (hN : nothingV false b = true) : Calls Tryd.prog 37 #[.int .i64 2, .int .u64 b] w (Ret (.tuple #[.agg #[.int .i64 3, .bool false, .int .i64 0, .int .i64 0], .int .i64 0]) w) := by
  have c1 := fun g w h => valid1_c 2 b g w hb.u64 h
  have hv : validV 2 [b] = 0 := hb.valid1
  rw [hv] at c1
  have c2 : ∀ w, Calls Tryd.prog 68 #[.int .i64 2] w (Ret (layV false) w) := fun w => layoutOf_c 2 w
  have c3 := fun w => sign_c false w
  have c4 := fun w => isNothing_c false b w
  have c5 := fun w => isInfinite_c false b w
  have c6 := fun w => isZero_c false b w
  have c7 := fun w => part_c false w
  rw [hN] at c4
  obtain ⟨neg, hs⟩ : ∃ neg, (bits .and .u64 b (signV false) != 0) = neg := ⟨_, rfl⟩
  generalize signV false = S at *
  generalize partV false = PT at *
  simp only [layV] at *
  clear hv hb
  go_enter Tryd.func37, Tryd.ntmps37
  go_upto_region 1 with (fail)
  refine hideO (fun W h0 HE => ?_)
  go_upto_region 4 with (go_at_call 44; refine (c1 _ _ (by go_simp)).mono ?_; rintro e w1 ⟨rfl, hb1⟩; have HE1 := Ext.next (w0 := w) (W := W) hb1; have h1 : Own w1 w.heap.size 4 := (h0.alloc _).call hb1)
  go_upto_region 5 with (go_at_call 68; refine (c2 _).mono ?_; rintro e w2 ⟨rfl, hb2⟩; have HE2 := HE1.call hb2; have h2 : Own w2 w.heap.size 4 := h1.call hb2)
  refine hideL h2 (Nat.le_refl _) HE2.2.2.2 (fun W3 g1 hg1 k1 h3 s1 hwg hB3 hE3 => ?_)
  subst hg1
  clear h0 h1 h2 HE HE1 HE2 hb1 hb2 c1 c2
  generalize w2.heap.size = g1 at *
  go_upto_region 12 with (go_at_call 70; refine (c3 _).mono ?_; rintro e w4 ⟨rfl, hb4⟩; have HE4 := hE3.call hb4; have h4 : Own w4 w.heap.size 4 := h3.call hb4)
  refine hideX HE4 k1 s1 h4 (Nat.le_refl _) (fun V g2 hg2 hP => ?_)
  subst hg2
  clear h3 h4 HE4 hE3 hb4 k1 s1 hB3
  generalize w4.heap.size = g2 at *
  have hPP := Lib.hid hP
  obtain ⟨k1, k2, o0, o2, n02, n12, s1, w0, w2, bel⟩ := hP
  go_wp2_with (go_at_call 77; refine (c4 _).mono ?_; rintro e w5 ⟨rfl, hb5⟩; have o0 := o0.call hb5; have bel := below_call bel hb5)
  have hr := Own.read4 (n := 0) ((((o0.set ⟨w.heap.size, 0, none⟩ (.int .i64 3)).set ⟨w.heap.size, 1, none⟩ (.bool false)).set ⟨w.heap.size, 2, none⟩ (.int .i64 0)).set ⟨w.heap.size, 3, none⟩ (.int .i64 0))
  exact bodyPost_ret (v := .tuple #[.agg #[.int .i64 3, .bool false, .int .i64 0, .int .i64 0], .int .i64 0]) (by simp [results, Tryd.results37, go_sem, hr.1, hr.2.1, hr.2.2.1, hr.2.2.2]) rfl ⟨rfl, below_row bel _ _ _ _⟩
set_option maxRecDepth 100000 in
set_option maxHeartbeats 8000000 in
theorem partsOf_zero_false (b : Int) (w : World) (hb : Rg false b) (neg : Bool) (hs : (bits .and .u64 b (signV false) != 0) = neg) (hN : nothingV false b = false) (hI : infiniteV false b = false) (hZ : zeroV false b = true) : Calls Tryd.prog 37 #[.int .i64 2, .int .u64 b] w (Ret (.tuple #[.agg #[.int .i64 0, .bool neg, .int .i64 0, .int .i64 0], .int .i64 0]) w) := by
  have c1 := fun g w h => valid1_c 2 b g w hb.u64 h
  have hv : validV 2 [b] = 0 := hb.valid1
  rw [hv] at c1
  have c2 : ∀ w, Calls Tryd.prog 68 #[.int .i64 2] w (Ret (layV false) w) := fun w => layoutOf_c 2 w
  have c3 := fun w => sign_c false w
  have c4 := fun w => isNothing_c false b w
  have c5 := fun w => isInfinite_c false b w
  have c6 := fun w => isZero_c false b w
  have c7 := fun w => part_c false w
  rw [hN] at c4
  rw [hI] at c5
  rw [hZ] at c6
  generalize signV false = S at *
  generalize partV false = PT at *
  simp only [layV] at *
  clear hv hb
  go_enter Tryd.func37, Tryd.ntmps37
  go_upto_region 1 with (fail)
  refine hideO (fun W h0 HE => ?_)
  go_upto_region 4 with (go_at_call 44; refine (c1 _ _ (by go_simp)).mono ?_; rintro e w1 ⟨rfl, hb1⟩; have HE1 := Ext.next (w0 := w) (W := W) hb1; have h1 : Own w1 w.heap.size 4 := (h0.alloc _).call hb1)
  go_upto_region 5 with (go_at_call 68; refine (c2 _).mono ?_; rintro e w2 ⟨rfl, hb2⟩; have HE2 := HE1.call hb2; have h2 : Own w2 w.heap.size 4 := h1.call hb2)
  refine hideL h2 (Nat.le_refl _) HE2.2.2.2 (fun W3 g1 hg1 k1 h3 s1 hwg hB3 hE3 => ?_)
  subst hg1
  clear h0 h1 h2 HE HE1 HE2 hb1 hb2 c1 c2
  generalize w2.heap.size = g1 at *
  go_upto_region 12 with (go_at_call 70; refine (c3 _).mono ?_; rintro e w4 ⟨rfl, hb4⟩; have HE4 := hE3.call hb4; have h4 : Own w4 w.heap.size 4 := h3.call hb4)
  refine hideX HE4 k1 s1 h4 (Nat.le_refl _) (fun V g2 hg2 hP => ?_)
  subst hg2
  clear h3 h4 HE4 hE3 hb4 k1 s1 hB3
  generalize w4.heap.size = g2 at *
  have hPP := Lib.hid hP
  obtain ⟨k1, k2, o0, o2, n02, n12, s1, w0, w2, bel⟩ := hP
  go_upto_region 17 with (first | (go_at_call 77; refine (c4 _).mono ?_; rintro e w5 ⟨rfl, hb5⟩; have hP5 := hPP.out.call hb5; have k5 := hP5.ly; have s5 := hP5.s1; clear k1 k2 o0 o2 s1 bel) | (go_at_call 78; refine (c5 _).mono ?_; rintro e w6 ⟨rfl, hb6⟩; have hP6 := hP5.call hb6; have k6 := hP6.ly; have s6 := hP6.s1; have x6 := hP6.xs; have o6 := hP6.o2; clear k5 s5) | (go_at_call 79; refine (c6 _).mono ?_; rintro e w7 ⟨rfl, hb7⟩; have hP7 := hP6.call hb7; have k7 := hP7.ly; have s7 := hP7.s1; have x7 := hP7.xs; have o7 := hP7.o2; clear k6 s6 x6 o6))
  have hQ := hP7
  clear hPP
  go_upto_region 18 with (fail)
  refine hideS #[.int .i64 0, .bool neg, .int .i64 0, .int .i64 0] (hQ.set 0 (.int .i64 0) (Nat.lt_of_lt_of_le (by decide) (Nat.le_refl 4))) rfl (fun X hX => ?_)
  obtain ⟨k1, k2, o0, o2, -, -, s1, -, -, bel⟩ := hX
  go_wp2
  have hr := Own.read4 (n := 0) ((((o0.set ⟨w.heap.size, 0, none⟩ (.int .i64 0)).set ⟨w.heap.size, 1, none⟩ (.bool neg)).set ⟨w.heap.size, 2, none⟩ (.int .i64 0)).set ⟨w.heap.size, 3, none⟩ (.int .i64 0))
  exact bodyPost_ret (v := .tuple #[.agg #[.int .i64 0, .bool neg, .int .i64 0, .int .i64 0], .int .i64 0]) (by simp [results, Tryd.results37, go_sem, hr.1, hr.2.1, hr.2.2.1, hr.2.2.2]) rfl ⟨rfl, below_row bel _ _ _ _⟩
set_option maxRecDepth 100000 in
set_option maxHeartbeats 8000000 in
theorem partsOf_den_false (b : Int) (w : World) (hb : Rg false b) (neg : Bool) (r : Int) (hs : (bits .and .u64 b (signV false) != 0) = neg) (hN : nothingV false b = false) (hI : infiniteV false b = false) (hZ : zeroV false b = false) (hp : bits .and .u64 b (partV false) = r) (he : bits .andNot .u64 b (signV false) = r) (hr0 : 0 ≤ r) (hr : r < 4503599627370496) : Calls Tryd.prog 37 #[.int .i64 2, .int .u64 b] w (Ret (.tuple #[.agg #[.int .i64 1, .bool neg, .int .i64 r, .int .i64 (-1074)], .int .i64 0]) w) := by
  have c1 := fun g w h => valid1_c 2 b g w hb.u64 h
  have hv : validV 2 [b] = 0 := hb.valid1
  rw [hv] at c1
  have c2 : ∀ w, Calls Tryd.prog 68 #[.int .i64 2] w (Ret (layV false) w) := fun w => layoutOf_c 2 w
  have c3 := fun w => sign_c false w
  have c4 := fun w => isNothing_c false b w
  have c5 := fun w => isInfinite_c false b w
  have c6 := fun w => isZero_c false b w
  have c7 := fun w => part_c false w
  rw [hN] at c4
  rw [hI] at c5
  rw [hZ] at c6
  generalize signV false = S at *
  generalize partV false = PT at *
  simp only [layV] at *
  clear hv hb
  have hw : IntKind.i64.wrap 52 = 52 := by decide
  have f1 : IntKind.i64.wrap r = r := wrap_i64 (by omega) (by omega)
  have f2 : r / 4503599627370496 = 0 := by omega
  go_enter Tryd.func37, Tryd.ntmps37
  go_upto_region 1 with (fail)
  refine hideO (fun W h0 HE => ?_)
  go_upto_region 4 with (go_at_call 44; refine (c1 _ _ (by go_simp)).mono ?_; rintro e w1 ⟨rfl, hb1⟩; have HE1 := Ext.next (w0 := w) (W := W) hb1; have h1 : Own w1 w.heap.size 4 := (h0.alloc _).call hb1)
  go_upto_region 5 with (go_at_call 68; refine (c2 _).mono ?_; rintro e w2 ⟨rfl, hb2⟩; have HE2 := HE1.call hb2; have h2 : Own w2 w.heap.size 4 := h1.call hb2)
  refine hideL h2 (Nat.le_refl _) HE2.2.2.2 (fun W3 g1 hg1 k1 h3 s1 hwg hB3 hE3 => ?_)
  subst hg1
  clear h0 h1 h2 HE HE1 HE2 hb1 hb2 c1 c2
  generalize w2.heap.size = g1 at *
  go_upto_region 12 with (go_at_call 70; refine (c3 _).mono ?_; rintro e w4 ⟨rfl, hb4⟩; have HE4 := hE3.call hb4; have h4 : Own w4 w.heap.size 4 := h3.call hb4)
  refine hideX HE4 k1 s1 h4 (Nat.le_refl _) (fun V g2 hg2 hP => ?_)
  subst hg2
  clear h3 h4 HE4 hE3 hb4 k1 s1 hB3
  generalize w4.heap.size = g2 at *
  have hPP := Lib.hid hP
  obtain ⟨k1, k2, o0, o2, n02, n12, s1, w0, w2, bel⟩ := hP
  go_upto_region 6 with (first | (go_at_call 77; refine (c4 _).mono ?_; rintro e w5 ⟨rfl, hb5⟩; have hP5 := hPP.out.call hb5; have k5 := hP5.ly; have s5 := hP5.s1; clear k1 k2 o0 o2 s1 bel) | (go_at_call 78; refine (c5 _).mono ?_; rintro e w6 ⟨rfl, hb6⟩; have hP6 := hP5.call hb6; have k6 := hP6.ly; have s6 := hP6.s1; have x6 := hP6.xs; have o6 := hP6.o2; clear k5 s5) | (go_at_call 79; refine (c6 _).mono ?_; rintro e w7 ⟨rfl, hb7⟩; have hP7 := hP6.call hb7; have k7 := hP7.ly; have s7 := hP7.s1; have x7 := hP7.xs; have o7 := hP7.o2; clear k6 s6 x6 o6))
  have hQ := hP7
  clear hPP
  go_region
  go_upto_region 7 with (fail)
  refine hideS #[.int .i64 1, .bool neg, .int .i64 0, .int .i64 (-1074)] ((hQ.set 0 (.int .i64 1) (Nat.lt_of_lt_of_le (by decide) (Nat.le_refl 4))).set 3 (.int .i64 (-1074)) (Nat.lt_of_lt_of_le (by decide) (Nat.le_refl 4))).drew rfl (fun X hX => ?_)
  clear hP5 hP6 hP7 hQ k7 s7 x7 o7 hb5 hb6 hb7
  have hXX := Lib.hid hX
  obtain ⟨k1, k2, o0, o2, -, -, s1, -, -, bel⟩ := hX
  go_upto_region 8 with (go_at_call 80; refine (c7 _).mono ?_; rintro e w8 ⟨rfl, hb8⟩; have hP8 := hXX.out.call hb8; have k8 := hP8.ly; have s8 := hP8.s1; have x8 := hP8.xs; have o8 := hP8.o2; clear k1 k2 o0 o2 s1 bel)
  refine hideS #[.int .i64 1, .bool neg, .int .i64 r, .int .i64 (-1074)] (hP8.set 2 (.int .i64 r) (Nat.lt_of_lt_of_le (by decide) (Nat.le_refl 4))) rfl (fun Y hY => ?_)
  clear hP8 k8 s8 x8 o8 hb8 hXX
  have hYY := Lib.hid hY
  obtain ⟨k1, k2, o0, o2, -, -, s1, -, -, bel⟩ := hY
  have hEY : Ext w Y Y := Ext.refl bel
  go_region_held3 (fun w' => Ext w Y w') (first | assumption | (with_reducible exact Ext.call (by assumption) hb9) | ((with_reducible refine Ext.drew ?_); assumption)) ((go_at_call 70; (with_reducible refine (c3 _).mono ?_); rintro e w9 ⟨rfl, hb9⟩; have HE9 : Ext w Y w9 := Ext.call (by assumption) hb9))
  have hP9 := hYY.out.ext HE9
  clear k1 k2 o0 o2 s1 bel hEY hYY HE9 hb9
  have hPP := Lib.hid hP9
  obtain ⟨k1, k2, o0, o2, -, -, s1, -, -, bel⟩ := hP9
  go_wp2
  have hr := Own.read4 (n := 0) ((((o0.set ⟨w.heap.size, 0, none⟩ (.int .i64 1)).set ⟨w.heap.size, 1, none⟩ (.bool neg)).set ⟨w.heap.size, 2, none⟩ (.int .i64 r)).set ⟨w.heap.size, 3, none⟩ (.int .i64 (-1074)))
  exact bodyPost_ret (v := .tuple #[.agg #[.int .i64 1, .bool neg, .int .i64 r, .int .i64 (-1074)], .int .i64 0]) (by simp [results, Tryd.results37, go_sem, hr.1, hr.2.1, hr.2.2.1, hr.2.2.2]) rfl ⟨rfl, below_row bel _ _ _ _⟩
set_option maxRecDepth 100000 in
set_option maxHeartbeats 8000000 in
theorem partsOf_nor_false (b : Int) (w : World) (hb : Rg false b) (neg : Bool) (r f e : Int) (hs : (bits .and .u64 b (signV false) != 0) = neg) (hN : nothingV false b = false) (hI : infiniteV false b = false) (hZ : zeroV false b = false) (hp : bits .and .u64 b (partV false) = r) (he : bits .andNot .u64 b (signV false) = e) (he0 : e = r + 4503599627370496 * f) (hr0 : 0 ≤ r) (hr : r < 4503599627370496) (hf : 1 ≤ f) (hf2 : f < 2047) : Calls Tryd.prog 37 #[.int .i64 2, .int .u64 b] w (Ret (.tuple #[.agg #[.int .i64 1, .bool neg, .int .i64 (r + 4503599627370496), .int .i64 (-1074 + (f - 1))], .int .i64 0]) w) := by
  have c1 := fun g w h => valid1_c 2 b g w hb.u64 h
  have hv : validV 2 [b] = 0 := hb.valid1
  rw [hv] at c1
  have c2 : ∀ w, Calls Tryd.prog 68 #[.int .i64 2] w (Ret (layV false) w) := fun w => layoutOf_c 2 w
  have c3 := fun w => sign_c false w
  have c4 := fun w => isNothing_c false b w
  have c5 := fun w => isInfinite_c false b w
  have c6 := fun w => isZero_c false b w
  have c7 := fun w => part_c false w
  rw [hN] at c4
  rw [hI] at c5
  rw [hZ] at c6
  generalize signV false = S at *
  generalize partV false = PT at *
  simp only [layV] at *
  clear hv hb
  have hw : IntKind.i64.wrap 52 = 52 := by decide
  have f1 : IntKind.i64.wrap r = r := wrap_i64 (by omega) (by omega)
  have f3 : IntKind.i64.wrap e = e := wrap_i64 (by omega) (by omega)
  have f2 : e / 4503599627370496 = f := by omega
  clear he0
  go_enter Tryd.func37, Tryd.ntmps37
  go_upto_region 1 with (fail)
  refine hideO (fun W h0 HE => ?_)
  go_upto_region 4 with (go_at_call 44; refine (c1 _ _ (by go_simp)).mono ?_; rintro e w1 ⟨rfl, hb1⟩; have HE1 := Ext.next (w0 := w) (W := W) hb1; have h1 : Own w1 w.heap.size 4 := (h0.alloc _).call hb1)
  go_upto_region 5 with (go_at_call 68; refine (c2 _).mono ?_; rintro e w2 ⟨rfl, hb2⟩; have HE2 := HE1.call hb2; have h2 : Own w2 w.heap.size 4 := h1.call hb2)
  refine hideL h2 (Nat.le_refl _) HE2.2.2.2 (fun W3 g1 hg1 k1 h3 s1 hwg hB3 hE3 => ?_)
  subst hg1
  clear h0 h1 h2 HE HE1 HE2 hb1 hb2 c1 c2
  generalize w2.heap.size = g1 at *
  go_upto_region 12 with (go_at_call 70; refine (c3 _).mono ?_; rintro e w4 ⟨rfl, hb4⟩; have HE4 := hE3.call hb4; have h4 : Own w4 w.heap.size 4 := h3.call hb4)
  refine hideX HE4 k1 s1 h4 (Nat.le_refl _) (fun V g2 hg2 hP => ?_)
  subst hg2
  clear h3 h4 HE4 hE3 hb4 k1 s1 hB3
  generalize w4.heap.size = g2 at *
  have hPP := Lib.hid hP
  obtain ⟨k1, k2, o0, o2, n02, n12, s1, w0, w2, bel⟩ := hP
  go_upto_region 6 with (first | (go_at_call 77; refine (c4 _).mono ?_; rintro e w5 ⟨rfl, hb5⟩; have hP5 := hPP.out.call hb5; have k5 := hP5.ly; have s5 := hP5.s1; clear k1 k2 o0 o2 s1 bel) | (go_at_call 78; refine (c5 _).mono ?_; rintro e w6 ⟨rfl, hb6⟩; have hP6 := hP5.call hb6; have k6 := hP6.ly; have s6 := hP6.s1; have x6 := hP6.xs; have o6 := hP6.o2; clear k5 s5) | (go_at_call 79; refine (c6 _).mono ?_; rintro e w7 ⟨rfl, hb7⟩; have hP7 := hP6.call hb7; have k7 := hP7.ly; have s7 := hP7.s1; have x7 := hP7.xs; have o7 := hP7.o2; clear k6 s6 x6 o6))
  have hQ := hP7
  clear hPP
  go_region
  go_upto_region 7 with (fail)
  refine hideS #[.int .i64 1, .bool neg, .int .i64 0, .int .i64 (-1074)] ((hQ.set 0 (.int .i64 1) (Nat.lt_of_lt_of_le (by decide) (Nat.le_refl 4))).set 3 (.int .i64 (-1074)) (Nat.lt_of_lt_of_le (by decide) (Nat.le_refl 4))).drew rfl (fun X hX => ?_)
  clear hP5 hP6 hP7 hQ k7 s7 x7 o7 hb5 hb6 hb7
  have hXX := Lib.hid hX
  obtain ⟨k1, k2, o0, o2, -, -, s1, -, -, bel⟩ := hX
  go_upto_region 8 with (go_at_call 80; refine (c7 _).mono ?_; rintro e w8 ⟨rfl, hb8⟩; have hP8 := hXX.out.call hb8; have k8 := hP8.ly; have s8 := hP8.s1; have x8 := hP8.xs; have o8 := hP8.o2; clear k1 k2 o0 o2 s1 bel)
  refine hideS #[.int .i64 1, .bool neg, .int .i64 r, .int .i64 (-1074)] (hP8.set 2 (.int .i64 r) (Nat.lt_of_lt_of_le (by decide) (Nat.le_refl 4))) rfl (fun Y hY => ?_)
  clear hP8 k8 s8 x8 o8 hb8 hXX
  have hYY := Lib.hid hY
  obtain ⟨k1, k2, o0, o2, -, -, s1, -, -, bel⟩ := hY
  have hEY : Ext w Y Y := Ext.refl bel
  go_region_held3 (fun w' => Ext w Y w') (first | assumption | (with_reducible exact Ext.call (by assumption) hb9) | ((with_reducible refine Ext.drew ?_); assumption)) ((go_at_call 70; (with_reducible refine (c3 _).mono ?_); rintro e w9 ⟨rfl, hb9⟩; have HE9 : Ext w Y w9 := Ext.call (by assumption) hb9))
  have hP9 := hYY.out.ext HE9
  clear k1 k2 o0 o2 s1 bel hEY hYY HE9 hb9
  have hPP := Lib.hid hP9
  obtain ⟨k1, k2, o0, o2, -, -, s1, -, -, bel⟩ := hP9
  go_upto_region 10 with (fail)
  go_region
  go_upto_region 11 with (fail)
  refine hideS #[.int .i64 1, .bool neg, .int .i64 (r + 4503599627370496), .int .i64 (-1074)] (hPP.out.set 2 (.int .i64 (r + 4503599627370496)) (Nat.lt_of_lt_of_le (by decide) (Nat.le_refl 4))).drew rfl (fun Z hZ => ?_)
  clear hPP k1 k2 o0 o2 s1 bel
  have hZZ := Lib.hid hZ
  obtain ⟨k1, k2, o0, o2, -, -, s1, -, -, bel⟩ := hZ
  go_upto_region 18 with (fail)
  refine hideS #[.int .i64 1, .bool neg, .int .i64 (r + 4503599627370496), .int .i64 (-1074 + (f - 1))] (hZZ.out.set 3 (.int .i64 (-1074 + (f - 1))) (Nat.lt_of_lt_of_le (by decide) (Nat.le_refl 4))) rfl (fun U hU => ?_)
  clear hZZ k1 k2 o0 o2 s1 bel
  obtain ⟨k1, k2, o0, o2, -, -, s1, -, -, bel⟩ := hU
  go_wp2
  have hr := Own.read4 (n := 0) ((((o0.set ⟨w.heap.size, 0, none⟩ (.int .i64 1)).set ⟨w.heap.size, 1, none⟩ (.bool neg)).set ⟨w.heap.size, 2, none⟩ (.int .i64 (r + 4503599627370496))).set ⟨w.heap.size, 3, none⟩ (.int .i64 (-1074 + (f - 1))))
  exact bodyPost_ret (v := .tuple #[.agg #[.int .i64 1, .bool neg, .int .i64 (r + 4503599627370496), .int .i64 (-1074 + (f - 1))], .int .i64 0]) (by simp [results, Tryd.results37, go_sem, hr.1, hr.2.1, hr.2.2.1, hr.2.2.2]) rfl ⟨rfl, below_row bel _ _ _ _⟩
set_option maxRecDepth 100000 in
set_option maxHeartbeats 8000000 in
theorem partsOf_inf_true (b : Int) (w : World) (hb : Rg true b) (neg : Bool) (hs : (bits .and .u64 b (signV true) != 0) = neg) (hN : nothingV true b = false) (hI : infiniteV true b = true) : Calls Tryd.prog 37 #[.int .i64 1, .int .u64 b] w (Ret (.tuple #[.agg #[.int .i64 2, .bool neg, .int .i64 0, .int .i64 0], .int .i64 0]) w) := by
  have c1 := fun g w h => valid1_c 1 b g w hb.u64 h
  have hv : validV 1 [b] = 0 := hb.valid1
  rw [hv] at c1
  have c2 : ∀ w, Calls Tryd.prog 68 #[.int .i64 1] w (Ret (layV true) w) := fun w => layoutOf_c 1 w
  have c3 := fun w => sign_c true w
  have c4 := fun w => isNothing_c true b w
  have c5 := fun w => isInfinite_c true b w
  have c6 := fun w => isZero_c true b w
  have c7 := fun w => part_c true w
  rw [hN] at c4
  rw [hI] at c5
  generalize signV true = S at *
  generalize partV true = PT at *
  simp only [layV] at *
  clear hv hb
  go_enter Tryd.func37, Tryd.ntmps37
  go_upto_region 1 with (fail)
  refine hideO (fun W h0 HE => ?_)
  go_upto_region 4 with (go_at_call 44; refine (c1 _ _ (by go_simp)).mono ?_; rintro e w1 ⟨rfl, hb1⟩; have HE1 := Ext.next (w0 := w) (W := W) hb1; have h1 : Own w1 w.heap.size 4 := (h0.alloc _).call hb1)
  go_upto_region 5 with (go_at_call 68; refine (c2 _).mono ?_; rintro e w2 ⟨rfl, hb2⟩; have HE2 := HE1.call hb2; have h2 : Own w2 w.heap.size 4 := h1.call hb2)
  refine hideL h2 (Nat.le_refl _) HE2.2.2.2 (fun W3 g1 hg1 k1 h3 s1 hwg hB3 hE3 => ?_)
  subst hg1
  clear h0 h1 h2 HE HE1 HE2 hb1 hb2 c1 c2
  generalize w2.heap.size = g1 at *
  go_upto_region 12 with (go_at_call 70; refine (c3 _).mono ?_; rintro e w4 ⟨rfl, hb4⟩; have HE4 := hE3.call hb4; have h4 : Own w4 w.heap.size 4 := h3.call hb4)
  refine hideX HE4 k1 s1 h4 (Nat.le_refl _) (fun V g2 hg2 hP => ?_)
  subst hg2
  clear h3 h4 HE4 hE3 hb4 k1 s1 hB3
  generalize w4.heap.size = g2 at *
  have hPP := Lib.hid hP
  obtain ⟨k1, k2, o0, o2, n02, n12, s1, w0, w2, bel⟩ := hP
  go_upto_region 15 with (first | (go_at_call 77; refine (c4 _).mono ?_; rintro e w5 ⟨rfl, hb5⟩; have hP5 := hPP.out.call hb5; have k5 := hP5.ly; have s5 := hP5.s1; clear k1 k2 o0 o2 s1 bel) | (go_at_call 78; refine (c5 _).mono ?_; rintro e w6 ⟨rfl, hb6⟩; have hP6 := hP5.call hb6; have k6 := hP6.ly; have s6 := hP6.s1; have x6 := hP6.xs; have o6 := hP6.o2; clear k5 s5))
  have hQ := hP6
  clear hPP
  go_upto_region 18 with (fail)
  refine hideS #[.int .i64 2, .bool neg, .int .i64 0, .int .i64 0] (hQ.set 0 (.int .i64 2) (Nat.lt_of_lt_of_le (by decide) (Nat.le_refl 4))) rfl (fun X hX => ?_)
  obtain ⟨k1, k2, o0, o2, -, -, s1, -, -, bel⟩ := hX
  go_wp2
  have hr := Own.read4 (n := 0) ((((o0.set ⟨w.heap.size, 0, none⟩ (.int .i64 2)).set ⟨w.heap.size, 1, none⟩ (.bool neg)).set ⟨w.heap.size, 2, none⟩ (.int .i64 0)).set ⟨w.heap.size, 3, none⟩ (.int .i64 0))
  exact bodyPost_ret (v := .tuple #[.agg #[.int .i64 2, .bool neg, .int .i64 0, .int .i64 0], .int .i64 0]) (by simp [results, Tryd.results37, go_sem, hr.1, hr.2.1, hr.2.2.1, hr.2.2.2]) rfl ⟨rfl, below_row bel _ _ _ _⟩
set_option maxRecDepth 100000 in
set_option maxHeartbeats 8000000 in
theorem partsOf_nan_true (b : Int) (w : World) (hb : Rg true b) (hN : nothingV true b = true) : Calls Tryd.prog 37 #[.int .i64 1, .int .u64 b] w (Ret (.tuple #[.agg #[.int .i64 3, .bool false, .int .i64 0, .int .i64 0], .int .i64 0]) w) := by
  have c1 := fun g w h => valid1_c 1 b g w hb.u64 h
  have hv : validV 1 [b] = 0 := hb.valid1
  rw [hv] at c1
  have c2 : ∀ w, Calls Tryd.prog 68 #[.int .i64 1] w (Ret (layV true) w) := fun w => layoutOf_c 1 w
  have c3 := fun w => sign_c true w
  have c4 := fun w => isNothing_c true b w
  have c5 := fun w => isInfinite_c true b w
  have c6 := fun w => isZero_c true b w
  have c7 := fun w => part_c true w
  rw [hN] at c4
  obtain ⟨neg, hs⟩ : ∃ neg, (bits .and .u64 b (signV true) != 0) = neg := ⟨_, rfl⟩
  generalize signV true = S at *
  generalize partV true = PT at *
  simp only [layV] at *
  clear hv hb
  go_enter Tryd.func37, Tryd.ntmps37
  go_upto_region 1 with (fail)
  refine hideO (fun W h0 HE => ?_)
  go_upto_region 4 with (go_at_call 44; refine (c1 _ _ (by go_simp)).mono ?_; rintro e w1 ⟨rfl, hb1⟩; have HE1 := Ext.next (w0 := w) (W := W) hb1; have h1 : Own w1 w.heap.size 4 := (h0.alloc _).call hb1)
  go_upto_region 5 with (go_at_call 68; refine (c2 _).mono ?_; rintro e w2 ⟨rfl, hb2⟩; have HE2 := HE1.call hb2; have h2 : Own w2 w.heap.size 4 := h1.call hb2)
  refine hideL h2 (Nat.le_refl _) HE2.2.2.2 (fun W3 g1 hg1 k1 h3 s1 hwg hB3 hE3 => ?_)
  subst hg1
  clear h0 h1 h2 HE HE1 HE2 hb1 hb2 c1 c2
  generalize w2.heap.size = g1 at *
  go_upto_region 12 with (go_at_call 70; refine (c3 _).mono ?_; rintro e w4 ⟨rfl, hb4⟩; have HE4 := hE3.call hb4; have h4 : Own w4 w.heap.size 4 := h3.call hb4)
  refine hideX HE4 k1 s1 h4 (Nat.le_refl _) (fun V g2 hg2 hP => ?_)
  subst hg2
  clear h3 h4 HE4 hE3 hb4 k1 s1 hB3
  generalize w4.heap.size = g2 at *
  have hPP := Lib.hid hP
  obtain ⟨k1, k2, o0, o2, n02, n12, s1, w0, w2, bel⟩ := hP
  go_wp2_with (go_at_call 77; refine (c4 _).mono ?_; rintro e w5 ⟨rfl, hb5⟩; have o0 := o0.call hb5; have bel := below_call bel hb5)
  have hr := Own.read4 (n := 0) ((((o0.set ⟨w.heap.size, 0, none⟩ (.int .i64 3)).set ⟨w.heap.size, 1, none⟩ (.bool false)).set ⟨w.heap.size, 2, none⟩ (.int .i64 0)).set ⟨w.heap.size, 3, none⟩ (.int .i64 0))
  exact bodyPost_ret (v := .tuple #[.agg #[.int .i64 3, .bool false, .int .i64 0, .int .i64 0], .int .i64 0]) (by simp [results, Tryd.results37, go_sem, hr.1, hr.2.1, hr.2.2.1, hr.2.2.2]) rfl ⟨rfl, below_row bel _ _ _ _⟩
set_option maxRecDepth 100000 in
set_option maxHeartbeats 8000000 in
theorem partsOf_zero_true (b : Int) (w : World) (hb : Rg true b) (neg : Bool) (hs : (bits .and .u64 b (signV true) != 0) = neg) (hN : nothingV true b = false) (hI : infiniteV true b = false) (hZ : zeroV true b = true) : Calls Tryd.prog 37 #[.int .i64 1, .int .u64 b] w (Ret (.tuple #[.agg #[.int .i64 0, .bool neg, .int .i64 0, .int .i64 0], .int .i64 0]) w) := by
  have c1 := fun g w h => valid1_c 1 b g w hb.u64 h
  have hv : validV 1 [b] = 0 := hb.valid1
  rw [hv] at c1
  have c2 : ∀ w, Calls Tryd.prog 68 #[.int .i64 1] w (Ret (layV true) w) := fun w => layoutOf_c 1 w
  have c3 := fun w => sign_c true w
  have c4 := fun w => isNothing_c true b w
  have c5 := fun w => isInfinite_c true b w
  have c6 := fun w => isZero_c true b w
  have c7 := fun w => part_c true w
  rw [hN] at c4
  rw [hI] at c5
  rw [hZ] at c6
  generalize signV true = S at *
  generalize partV true = PT at *
  simp only [layV] at *
  clear hv hb
  go_enter Tryd.func37, Tryd.ntmps37
  go_upto_region 1 with (fail)
  refine hideO (fun W h0 HE => ?_)
  go_upto_region 4 with (go_at_call 44; refine (c1 _ _ (by go_simp)).mono ?_; rintro e w1 ⟨rfl, hb1⟩; have HE1 := Ext.next (w0 := w) (W := W) hb1; have h1 : Own w1 w.heap.size 4 := (h0.alloc _).call hb1)
  go_upto_region 5 with (go_at_call 68; refine (c2 _).mono ?_; rintro e w2 ⟨rfl, hb2⟩; have HE2 := HE1.call hb2; have h2 : Own w2 w.heap.size 4 := h1.call hb2)
  refine hideL h2 (Nat.le_refl _) HE2.2.2.2 (fun W3 g1 hg1 k1 h3 s1 hwg hB3 hE3 => ?_)
  subst hg1
  clear h0 h1 h2 HE HE1 HE2 hb1 hb2 c1 c2
  generalize w2.heap.size = g1 at *
  go_upto_region 12 with (go_at_call 70; refine (c3 _).mono ?_; rintro e w4 ⟨rfl, hb4⟩; have HE4 := hE3.call hb4; have h4 : Own w4 w.heap.size 4 := h3.call hb4)
  refine hideX HE4 k1 s1 h4 (Nat.le_refl _) (fun V g2 hg2 hP => ?_)
  subst hg2
  clear h3 h4 HE4 hE3 hb4 k1 s1 hB3
  generalize w4.heap.size = g2 at *
  have hPP := Lib.hid hP
  obtain ⟨k1, k2, o0, o2, n02, n12, s1, w0, w2, bel⟩ := hP
  go_upto_region 17 with (first | (go_at_call 77; refine (c4 _).mono ?_; rintro e w5 ⟨rfl, hb5⟩; have hP5 := hPP.out.call hb5; have k5 := hP5.ly; have s5 := hP5.s1; clear k1 k2 o0 o2 s1 bel) | (go_at_call 78; refine (c5 _).mono ?_; rintro e w6 ⟨rfl, hb6⟩; have hP6 := hP5.call hb6; have k6 := hP6.ly; have s6 := hP6.s1; have x6 := hP6.xs; have o6 := hP6.o2; clear k5 s5) | (go_at_call 79; refine (c6 _).mono ?_; rintro e w7 ⟨rfl, hb7⟩; have hP7 := hP6.call hb7; have k7 := hP7.ly; have s7 := hP7.s1; have x7 := hP7.xs; have o7 := hP7.o2; clear k6 s6 x6 o6))
  have hQ := hP7
  clear hPP
  go_upto_region 18 with (fail)
  refine hideS #[.int .i64 0, .bool neg, .int .i64 0, .int .i64 0] (hQ.set 0 (.int .i64 0) (Nat.lt_of_lt_of_le (by decide) (Nat.le_refl 4))) rfl (fun X hX => ?_)
  obtain ⟨k1, k2, o0, o2, -, -, s1, -, -, bel⟩ := hX
  go_wp2
  have hr := Own.read4 (n := 0) ((((o0.set ⟨w.heap.size, 0, none⟩ (.int .i64 0)).set ⟨w.heap.size, 1, none⟩ (.bool neg)).set ⟨w.heap.size, 2, none⟩ (.int .i64 0)).set ⟨w.heap.size, 3, none⟩ (.int .i64 0))
  exact bodyPost_ret (v := .tuple #[.agg #[.int .i64 0, .bool neg, .int .i64 0, .int .i64 0], .int .i64 0]) (by simp [results, Tryd.results37, go_sem, hr.1, hr.2.1, hr.2.2.1, hr.2.2.2]) rfl ⟨rfl, below_row bel _ _ _ _⟩
set_option maxRecDepth 100000 in
set_option maxHeartbeats 8000000 in
theorem partsOf_den_true (b : Int) (w : World) (hb : Rg true b) (neg : Bool) (r : Int) (hs : (bits .and .u64 b (signV true) != 0) = neg) (hN : nothingV true b = false) (hI : infiniteV true b = false) (hZ : zeroV true b = false) (hp : bits .and .u64 b (partV true) = r) (he : bits .andNot .u64 b (signV true) = r) (hr0 : 0 ≤ r) (hr : r < 8388608) : Calls Tryd.prog 37 #[.int .i64 1, .int .u64 b] w (Ret (.tuple #[.agg #[.int .i64 1, .bool neg, .int .i64 r, .int .i64 (-149)], .int .i64 0]) w) := by
  have c1 := fun g w h => valid1_c 1 b g w hb.u64 h
  have hv : validV 1 [b] = 0 := hb.valid1
  rw [hv] at c1
  have c2 : ∀ w, Calls Tryd.prog 68 #[.int .i64 1] w (Ret (layV true) w) := fun w => layoutOf_c 1 w
  have c3 := fun w => sign_c true w
  have c4 := fun w => isNothing_c true b w
  have c5 := fun w => isInfinite_c true b w
  have c6 := fun w => isZero_c true b w
  have c7 := fun w => part_c true w
  rw [hN] at c4
  rw [hI] at c5
  rw [hZ] at c6
  generalize signV true = S at *
  generalize partV true = PT at *
  simp only [layV] at *
  clear hv hb
  have hw : IntKind.i64.wrap 23 = 23 := by decide
  have f1 : IntKind.i64.wrap r = r := wrap_i64 (by omega) (by omega)
  have f2 : r / 8388608 = 0 := by omega
  go_enter Tryd.func37, Tryd.ntmps37
  go_upto_region 1 with (fail)
  refine hideO (fun W h0 HE => ?_)
  go_upto_region 4 with (go_at_call 44; refine (c1 _ _ (by go_simp)).mono ?_; rintro e w1 ⟨rfl, hb1⟩; have HE1 := Ext.next (w0 := w) (W := W) hb1; have h1 : Own w1 w.heap.size 4 := (h0.alloc _).call hb1)
  go_upto_region 5 with (go_at_call 68; refine (c2 _).mono ?_; rintro e w2 ⟨rfl, hb2⟩; have HE2 := HE1.call hb2; have h2 : Own w2 w.heap.size 4 := h1.call hb2)
  refine hideL h2 (Nat.le_refl _) HE2.2.2.2 (fun W3 g1 hg1 k1 h3 s1 hwg hB3 hE3 => ?_)
  subst hg1
  clear h0 h1 h2 HE HE1 HE2 hb1 hb2 c1 c2
  generalize w2.heap.size = g1 at *
  go_upto_region 12 with (go_at_call 70; refine (c3 _).mono ?_; rintro e w4 ⟨rfl, hb4⟩; have HE4 := hE3.call hb4; have h4 : Own w4 w.heap.size 4 := h3.call hb4)
  refine hideX HE4 k1 s1 h4 (Nat.le_refl _) (fun V g2 hg2 hP => ?_)
  subst hg2
  clear h3 h4 HE4 hE3 hb4 k1 s1 hB3
  generalize w4.heap.size = g2 at *
  have hPP := Lib.hid hP
  obtain ⟨k1, k2, o0, o2, n02, n12, s1, w0, w2, bel⟩ := hP
  go_upto_region 6 with (first | (go_at_call 77; refine (c4 _).mono ?_; rintro e w5 ⟨rfl, hb5⟩; have hP5 := hPP.out.call hb5; have k5 := hP5.ly; have s5 := hP5.s1; clear k1 k2 o0 o2 s1 bel) | (go_at_call 78; refine (c5 _).mono ?_; rintro e w6 ⟨rfl, hb6⟩; have hP6 := hP5.call hb6; have k6 := hP6.ly; have s6 := hP6.s1; have x6 := hP6.xs; have o6 := hP6.o2; clear k5 s5) | (go_at_call 79; refine (c6 _).mono ?_; rintro e w7 ⟨rfl, hb7⟩; have hP7 := hP6.call hb7; have k7 := hP7.ly; have s7 := hP7.s1; have x7 := hP7.xs; have o7 := hP7.o2; clear k6 s6 x6 o6))
  have hQ := hP7
  clear hPP
  go_region
  go_upto_region 7 with (fail)
  refine hideS #[.int .i64 1, .bool neg, .int .i64 0, .int .i64 (-149)] ((hQ.set 0 (.int .i64 1) (Nat.lt_of_lt_of_le (by decide) (Nat.le_refl 4))).set 3 (.int .i64 (-149)) (Nat.lt_of_lt_of_le (by decide) (Nat.le_refl 4))).drew rfl (fun X hX => ?_)
  clear hP5 hP6 hP7 hQ k7 s7 x7 o7 hb5 hb6 hb7
  have hXX := Lib.hid hX
  obtain ⟨k1, k2, o0, o2, -, -, s1, -, -, bel⟩ := hX
  go_upto_region 8 with (go_at_call 80; refine (c7 _).mono ?_; rintro e w8 ⟨rfl, hb8⟩; have hP8 := hXX.out.call hb8; have k8 := hP8.ly; have s8 := hP8.s1; have x8 := hP8.xs; have o8 := hP8.o2; clear k1 k2 o0 o2 s1 bel)
  refine hideS #[.int .i64 1, .bool neg, .int .i64 r, .int .i64 (-149)] (hP8.set 2 (.int .i64 r) (Nat.lt_of_lt_of_le (by decide) (Nat.le_refl 4))) rfl (fun Y hY => ?_)
  clear hP8 k8 s8 x8 o8 hb8 hXX
  have hYY := Lib.hid hY
  obtain ⟨k1, k2, o0, o2, -, -, s1, -, -, bel⟩ := hY
  have hEY : Ext w Y Y := Ext.refl bel
  go_region_held3 (fun w' => Ext w Y w') (first | assumption | (with_reducible exact Ext.call (by assumption) hb9) | ((with_reducible refine Ext.drew ?_); assumption)) ((go_at_call 70; (with_reducible refine (c3 _).mono ?_); rintro e w9 ⟨rfl, hb9⟩; have HE9 : Ext w Y w9 := Ext.call (by assumption) hb9))
  have hP9 := hYY.out.ext HE9
  clear k1 k2 o0 o2 s1 bel hEY hYY HE9 hb9
  have hPP := Lib.hid hP9
  obtain ⟨k1, k2, o0, o2, -, -, s1, -, -, bel⟩ := hP9
  go_wp2
  have hr := Own.read4 (n := 0) ((((o0.set ⟨w.heap.size, 0, none⟩ (.int .i64 1)).set ⟨w.heap.size, 1, none⟩ (.bool neg)).set ⟨w.heap.size, 2, none⟩ (.int .i64 r)).set ⟨w.heap.size, 3, none⟩ (.int .i64 (-149)))
  exact bodyPost_ret (v := .tuple #[.agg #[.int .i64 1, .bool neg, .int .i64 r, .int .i64 (-149)], .int .i64 0]) (by simp [results, Tryd.results37, go_sem, hr.1, hr.2.1, hr.2.2.1, hr.2.2.2]) rfl ⟨rfl, below_row bel _ _ _ _⟩
set_option maxRecDepth 100000 in
set_option maxHeartbeats 8000000 in
theorem partsOf_nor_true (b : Int) (w : World) (hb : Rg true b) (neg : Bool) (r f e : Int) (hs : (bits .and .u64 b (signV true) != 0) = neg) (hN : nothingV true b = false) (hI : infiniteV true b = false) (hZ : zeroV true b = false) (hp : bits .and .u64 b (partV true) = r) (he : bits .andNot .u64 b (signV true) = e) (he0 : e = r + 8388608 * f) (hr0 : 0 ≤ r) (hr : r < 8388608) (hf : 1 ≤ f) (hf2 : f < 255) : Calls Tryd.prog 37 #[.int .i64 1, .int .u64 b] w (Ret (.tuple #[.agg #[.int .i64 1, .bool neg, .int .i64 (r + 8388608), .int .i64 (-149 + (f - 1))], .int .i64 0]) w) := by
  have c1 := fun g w h => valid1_c 1 b g w hb.u64 h
  have hv : validV 1 [b] = 0 := hb.valid1
  rw [hv] at c1
  have c2 : ∀ w, Calls Tryd.prog 68 #[.int .i64 1] w (Ret (layV true) w) := fun w => layoutOf_c 1 w
  have c3 := fun w => sign_c true w
  have c4 := fun w => isNothing_c true b w
  have c5 := fun w => isInfinite_c true b w
  have c6 := fun w => isZero_c true b w
  have c7 := fun w => part_c true w
  rw [hN] at c4
  rw [hI] at c5
  rw [hZ] at c6
  generalize signV true = S at *
  generalize partV true = PT at *
  simp only [layV] at *
  clear hv hb
  have hw : IntKind.i64.wrap 23 = 23 := by decide
  have f1 : IntKind.i64.wrap r = r := wrap_i64 (by omega) (by omega)
  have f3 : IntKind.i64.wrap e = e := wrap_i64 (by omega) (by omega)
  have f2 : e / 8388608 = f := by omega
  clear he0
  go_enter Tryd.func37, Tryd.ntmps37
  go_upto_region 1 with (fail)
  refine hideO (fun W h0 HE => ?_)
  go_upto_region 4 with (go_at_call 44; refine (c1 _ _ (by go_simp)).mono ?_; rintro e w1 ⟨rfl, hb1⟩; have HE1 := Ext.next (w0 := w) (W := W) hb1; have h1 : Own w1 w.heap.size 4 := (h0.alloc _).call hb1)
  go_upto_region 5 with (go_at_call 68; refine (c2 _).mono ?_; rintro e w2 ⟨rfl, hb2⟩; have HE2 := HE1.call hb2; have h2 : Own w2 w.heap.size 4 := h1.call hb2)
  refine hideL h2 (Nat.le_refl _) HE2.2.2.2 (fun W3 g1 hg1 k1 h3 s1 hwg hB3 hE3 => ?_)
  subst hg1
  clear h0 h1 h2 HE HE1 HE2 hb1 hb2 c1 c2
  generalize w2.heap.size = g1 at *
  go_upto_region 12 with (go_at_call 70; refine (c3 _).mono ?_; rintro e w4 ⟨rfl, hb4⟩; have HE4 := hE3.call hb4; have h4 : Own w4 w.heap.size 4 := h3.call hb4)
  refine hideX HE4 k1 s1 h4 (Nat.le_refl _) (fun V g2 hg2 hP => ?_)
  subst hg2
  clear h3 h4 HE4 hE3 hb4 k1 s1 hB3
  generalize w4.heap.size = g2 at *
  have hPP := Lib.hid hP
  obtain ⟨k1, k2, o0, o2, n02, n12, s1, w0, w2, bel⟩ := hP
  go_upto_region 6 with (first | (go_at_call 77; refine (c4 _).mono ?_; rintro e w5 ⟨rfl, hb5⟩; have hP5 := hPP.out.call hb5; have k5 := hP5.ly; have s5 := hP5.s1; clear k1 k2 o0 o2 s1 bel) | (go_at_call 78; refine (c5 _).mono ?_; rintro e w6 ⟨rfl, hb6⟩; have hP6 := hP5.call hb6; have k6 := hP6.ly; have s6 := hP6.s1; have x6 := hP6.xs; have o6 := hP6.o2; clear k5 s5) | (go_at_call 79; refine (c6 _).mono ?_; rintro e w7 ⟨rfl, hb7⟩; have hP7 := hP6.call hb7; have k7 := hP7.ly; have s7 := hP7.s1; have x7 := hP7.xs; have o7 := hP7.o2; clear k6 s6 x6 o6))
  have hQ := hP7
  clear hPP
  go_region
  go_upto_region 7 with (fail)
  refine hideS #[.int .i64 1, .bool neg, .int .i64 0, .int .i64 (-149)] ((hQ.set 0 (.int .i64 1) (Nat.lt_of_lt_of_le (by decide) (Nat.le_refl 4))).set 3 (.int .i64 (-149)) (Nat.lt_of_lt_of_le (by decide) (Nat.le_refl 4))).drew rfl (fun X hX => ?_)
  clear hP5 hP6 hP7 hQ k7 s7 x7 o7 hb5 hb6 hb7
  have hXX := Lib.hid hX
  obtain ⟨k1, k2, o0, o2, -, -, s1, -, -, bel⟩ := hX
  go_upto_region 8 with (go_at_call 80; refine (c7 _).mono ?_; rintro e w8 ⟨rfl, hb8⟩; have hP8 := hXX.out.call hb8; have k8 := hP8.ly; have s8 := hP8.s1; have x8 := hP8.xs; have o8 := hP8.o2; clear k1 k2 o0 o2 s1 bel)
  refine hideS #[.int .i64 1, .bool neg, .int .i64 r, .int .i64 (-149)] (hP8.set 2 (.int .i64 r) (Nat.lt_of_lt_of_le (by decide) (Nat.le_refl 4))) rfl (fun Y hY => ?_)
  clear hP8 k8 s8 x8 o8 hb8 hXX
  have hYY := Lib.hid hY
  obtain ⟨k1, k2, o0, o2, -, -, s1, -, -, bel⟩ := hY
  have hEY : Ext w Y Y := Ext.refl bel
  go_region_held3 (fun w' => Ext w Y w') (first | assumption | (with_reducible exact Ext.call (by assumption) hb9) | ((with_reducible refine Ext.drew ?_); assumption)) ((go_at_call 70; (with_reducible refine (c3 _).mono ?_); rintro e w9 ⟨rfl, hb9⟩; have HE9 : Ext w Y w9 := Ext.call (by assumption) hb9))
  have hP9 := hYY.out.ext HE9
  clear k1 k2 o0 o2 s1 bel hEY hYY HE9 hb9
  have hPP := Lib.hid hP9
  obtain ⟨k1, k2, o0, o2, -, -, s1, -, -, bel⟩ := hP9
  go_upto_region 10 with (fail)
  go_region
  go_upto_region 11 with (fail)
  refine hideS #[.int .i64 1, .bool neg, .int .i64 (r + 8388608), .int .i64 (-149)] (hPP.out.set 2 (.int .i64 (r + 8388608)) (Nat.lt_of_lt_of_le (by decide) (Nat.le_refl 4))).drew rfl (fun Z hZ => ?_)
  clear hPP k1 k2 o0 o2 s1 bel
  have hZZ := Lib.hid hZ
  obtain ⟨k1, k2, o0, o2, -, -, s1, -, -, bel⟩ := hZ
  go_upto_region 18 with (fail)
  refine hideS #[.int .i64 1, .bool neg, .int .i64 (r + 8388608), .int .i64 (-149 + (f - 1))] (hZZ.out.set 3 (.int .i64 (-149 + (f - 1))) (Nat.lt_of_lt_of_le (by decide) (Nat.le_refl 4))) rfl (fun U hU => ?_)
  clear hZZ k1 k2 o0 o2 s1 bel
  obtain ⟨k1, k2, o0, o2, -, -, s1, -, -, bel⟩ := hU
  go_wp2
  have hr := Own.read4 (n := 0) ((((o0.set ⟨w.heap.size, 0, none⟩ (.int .i64 1)).set ⟨w.heap.size, 1, none⟩ (.bool neg)).set ⟨w.heap.size, 2, none⟩ (.int .i64 (r + 8388608))).set ⟨w.heap.size, 3, none⟩ (.int .i64 (-149 + (f - 1))))
  exact bodyPost_ret (v := .tuple #[.agg #[.int .i64 1, .bool neg, .int .i64 (r + 8388608), .int .i64 (-149 + (f - 1))], .int .i64 0]) (by simp [results, Tryd.results37, go_sem, hr.1, hr.2.1, hr.2.2.1, hr.2.2.2]) rfl ⟨rfl, below_row bel _ _ _ _⟩
theorem partsOf_c (s : Bool) (a : Nat) (w : World) (ha : a < 2 * signN s) : Calls Tryd.prog 37 #[.int .i64 (tv s), .int .u64 (a : Int)] w (Ret (.tuple #[(partsR s a).v, .int .i64 0]) w) := by
  have h := read_of s a ha
  have hb : Rg s (a : Int) := rg_nat ha
  generalize partsR s a = p at *
  cases s
  · cases h with
    | inf neg hs hN hI => exact partsOf_inf_false _ w hb neg hs hN hI
    | nan hN => exact partsOf_nan_false _ w hb hN
    | zero neg hs hN hI hZ => exact partsOf_zero_false _ w hb neg hs hN hI hZ
    | den neg r hs hN hI hZ hp he hr =>
      have hr' : r < 4503599627370496 := hr
      exact partsOf_den_false _ w hb neg r hs hN hI hZ hp he (by omega) (by omega)
    | nor neg r f hs hN hI hZ hp he hr hf hf2 =>
      have hr' : r < 4503599627370496 := hr
      have hf' : f + 1 < 2048 := hf2
      have h := partsOf_nor_false _ w hb neg r f _ hs hN hI hZ hp he (by rw [Int.natCast_add, Int.natCast_mul]; rfl) (by omega) (by omega) (by omega) (by omega)
      have e1 : (r : Int) + 4503599627370496 = ((r + lowN false : Nat) : Int) := (Int.natCast_add r (lowN false)).symm
      have e2 : (-1074 : Int) + ((f : Int) - 1) = (f : Int) - 1 + leastN false := by show _ = (f : Int) - 1 + (-1074); omega
      rw [e1, e2] at h
      exact h
  · cases h with
    | inf neg hs hN hI => exact partsOf_inf_true _ w hb neg hs hN hI
    | nan hN => exact partsOf_nan_true _ w hb hN
    | zero neg hs hN hI hZ => exact partsOf_zero_true _ w hb neg hs hN hI hZ
    | den neg r hs hN hI hZ hp he hr =>
      have hr' : r < 8388608 := hr
      exact partsOf_den_true _ w hb neg r hs hN hI hZ hp he (by omega) (by omega)
    | nor neg r f hs hN hI hZ hp he hr hf hf2 =>
      have hr' : r < 8388608 := hr
      have hf' : f + 1 < 256 := hf2
      have h := partsOf_nor_true _ w hb neg r f _ hs hN hI hZ hp he (by rw [Int.natCast_add, Int.natCast_mul]; rfl) (by omega) (by omega) (by omega) (by omega)
      have e1 : (r : Int) + 8388608 = ((r + lowN true : Nat) : Int) := (Int.natCast_add r (lowN true)).symm
      have e2 : (-149 : Int) + ((f : Int) - 1) = (f : Int) - 1 + leastN true := by show _ = (f : Int) - 1 + (-149); omega
      rw [e1, e2] at h
      exact h
end Go.Proofs.YtmoimcblmmcffaaDoor.NC

/-! Bits of the parts of a word are the word. No walk here. -/
namespace Go.Proofs.YtmoimcblmmcffaaDoor.NC
open Go.RowKit Go.Proofs.YtmoimcblmmcffaaDoor.B Go.Proofs.YtmoimcblmmcffaaDoor.N
set_option linter.unusedSimpArgs false
set_option linter.unusedVariables false

theorem told_back {s : Bool} {a : Nat} {p : PP} (h : Told s a p) : bitsR s p = a ∨ p.kind = 3 := by
  cases h with
  | zero n h hr => exact .inl ((bits_zero s n).trans h.symm)
  | inf n h hr => exact .inl ((bits_inf s n).trans h.symm)
  | fin n m e r h0 h1 h hm hm2 he he2 hb hr => exact .inl ((hb n).trans h.symm)
  | nan n r t u h0 h1 h hr => exact .inr rfl
theorem read_err {s : Bool} {a : Nat} {p : PP} (h : Read s a p) : partsErrV s p.kind p.neg (p.sig : Int) p.exp = 0 := by
  have hl := low_pos s
  have hlow : lowI s = (lowN s : Int) := by cases s <;> rfl
  have htop : topM s = 2 * (lowN s : Int) - 1 := by cases s <;> rfl
  have hmost := most_field s
  have hf3 := field_three s
  cases h with
  | inf neg hs hN hI => unfold partsErrV; simp
  | nan hN => unfold partsErrV; simp
  | zero neg hs hN hI hZ => unfold partsErrV; simp
  | den neg r hs hN hI hZ hp he hr =>
    have hr0 : r ≠ 0 := by
      intro h0
      unfold zeroV at hZ
      rw [he, h0] at hZ
      exact absurd hZ (by decide)
    unfold partsErrV
    simp only
    rw [if_pos (by decide), if_pos True.intro, if_neg (fun h => h ⟨by omega, by rw [htop]; omega⟩), if_neg (fun h => h ⟨Int.le_refl _, by omega⟩), if_neg (fun h => h.2 rfl)]
  | nor neg r f hs hN hI hZ hp he hr hf hf2 =>
    unfold partsErrV
    simp only
    rw [if_pos (by decide), if_pos True.intro, if_neg (fun h => h ⟨by omega, by rw [htop]; omega⟩), if_neg (fun h => h ⟨by omega, by omega⟩), if_neg (fun h => by have := h.1; rw [hlow] at this; omega)]
/-- Parts without an error, as the reference's. -/
theorem parts_fit {s : Bool} {k : Int} {neg : Bool} {m e : Int} (h : partsErrV s k neg m e = 0) : PP.ok s ⟨k, neg, m.toNat, e⟩ ∧ (PP.v ⟨k, neg, m.toNat, e⟩ = .agg #[.int .i64 k, .bool neg, .int .i64 m, .int .i64 e]) := by
  have hL := parts_err_leaf s k neg m e
  rw [h] at hL
  have htop : topM s = 2 * (lowN s : Int) - 1 := by cases s <;> rfl
  have hlow : lowI s = (lowN s : Int) := by cases s <;> rfl
  have hv : 0 ≤ m → (PP.v ⟨k, neg, m.toNat, e⟩ = .agg #[.int .i64 k, .bool neg, .int .i64 m, .int .i64 e]) := by
    intro h0
    unfold PP.v
    simp only
    rw [Int.toNat_of_nonneg h0]
  cases hL with
  | nan => exact ⟨.inr (.inr (.inl rfl)), rfl⟩
  | zero => exact ⟨.inl rfl, rfl⟩
  | inf => exact ⟨.inr (.inl rfl), rfl⟩
  | low h1 h3 =>
    have h1 := of_decide_eq_true h1
    refine ⟨.inr (.inr (.inr ⟨rfl, ?_, fun h => ?_⟩)), hv (by omega)⟩
    · show m.toNat < 2 * lowN s
      omega
    · exact absurd h (by show ¬ lowN s ≤ m.toNat; omega)
  | high h1 h2 h3 =>
    have h1 := of_decide_eq_true h1
    have h2 := of_decide_eq_true h2
    refine ⟨.inr (.inr (.inr ⟨rfl, ?_, fun _ => h2⟩)), hv (by omega)⟩
    show m.toNat < 2 * lowN s
    omega
end Go.Proofs.YtmoimcblmmcffaaDoor.NC

/-! What the law on parts calls, told as printed functions are. -/
namespace Go.Proofs.YtmoimcblmmcffaaDoor
open Go.RowKit B N NC
set_option linter.unusedSimpArgs false
set_option linter.unusedVariables false

theorem of_ite {α : Type} {c : Bool} {x y : α} (h : (if c = true then some x else none) = some y) : c = true ∧ x = y := by
  cases c
  · simp at h
  · exact ⟨rfl, by simpa using h⟩
theorem type_tv {t : Int} (h : typeErrV t = 0) : t = tv (t == 1) := by
  unfold typeErrV at h
  by_cases h1 : t = 1
  · subst h1; rfl
  · rw [if_neg h1] at h
    by_cases h2 : t = 2
    · subst h2; rfl
    · rw [if_neg h2] at h
      exact absurd h (by decide)
def formularylaw08_awake.f : Option Bool := some true
theorem formularylaw08_awake.calls (r : Bool) (w : World) (h : formularylaw08_awake.f = some r) : Calls Tryd.prog 10 #[] w fun e w' => e = .returned (.bool r) ∧ Below w.heap.size w w' := by
  obtain rfl := Option.some.inj h
  exact awake_c w
def formularyref08_TypeErr.f (a0 : Int) : Option Int := some (typeErrV a0)
theorem formularyref08_TypeErr.calls (a0 r : Int) (w : World) (h : formularyref08_TypeErr.f a0 = some r) : Calls Tryd.prog 16 #[.int .i64 a0] w fun e w' => e = .returned (.int .i64 r) ∧ Below w.heap.size w w' := by
  obtain rfl := Option.some.inj h
  exact typeErrR_c a0 w
def formularyref08_BitsErr.f (a0 a1 : Int) : Option Int := some (bitsErrV a0 [a1])
theorem formularyref08_BitsErr.calls (a0 a1 r : Int) (w : World) (h : formularyref08_BitsErr.f a0 a1 = some r) : Calls Tryd.prog 17 #[.int .i64 a0, .int .u64 a1] w fun e w' => e = .returned (.int .i64 r) ∧ Below w.heap.size w w' := by
  obtain rfl := Option.some.inj h
  exact bitsErrR_c a0 a1 w
def formularyref08_PartsErr.f (a0 a1 : Int) (a2 : Bool) (a3 a4 : Int) : Option Int := if decide (typeErrV a0 = 0) = true then some (partsErrV (a0 == 1) a1 a2 a3 a4) else none
theorem formularyref08_PartsErr.calls (a0 a1 : Int) (a2 : Bool) (a3 a4 r : Int) (w : World) (h : formularyref08_PartsErr.f a0 a1 a2 a3 a4 = some r) :
    Calls Tryd.prog 39 #[.int .i64 a0, .agg #[.int .i64 a1, .bool a2, .int .i64 a3, .int .i64 a4]] w fun e w' => e = .returned (.int .i64 r) ∧ Below w.heap.size w w' := by
  obtain ⟨ht, rfl⟩ := of_ite h
  have hc := partsErr_c (a0 == 1) a1 a2 a3 a4 w
  rw [← type_tv (of_decide_eq_true ht)] at hc
  exact hc
def formularyref08_Bits.f (a0 a1 : Int) (a2 : Bool) (a3 a4 : Int) : Option Int := if (decide (typeErrV a0 = 0) && decide (partsErrV (a0 == 1) a1 a2 a3 a4 = 0)) = true then some (bitsR (a0 == 1) ⟨a1, a2, a3.toNat, a4⟩ : Int) else none
theorem formularyref08_Bits.calls (a0 a1 : Int) (a2 : Bool) (a3 a4 r : Int) (w : World) (h : formularyref08_Bits.f a0 a1 a2 a3 a4 = some r) :
    Calls Tryd.prog 40 #[.int .i64 a0, .agg #[.int .i64 a1, .bool a2, .int .i64 a3, .int .i64 a4]] w fun e w' => e = .returned (.int .u64 r) ∧ Below w.heap.size w w' := by
  obtain ⟨ht, rfl⟩ := of_ite h
  simp only [Bool.and_eq_true, decide_eq_true_eq] at ht
  have hc := bits_c (a0 == 1) ⟨a1, a2, a3.toNat, a4⟩ w (parts_fit ht.2).1
  rw [(parts_fit ht.2).2, ← type_tv ht.1] at hc
  exact hc
def reals_BitsOf.f (a0 a1 : Int) (a2 : Bool) (a3 a4 : Int) : Option (Int × Int) :=
  some (if typeErrV a0 = 0 then ((if partsErrV (a0 == 1) a1 a2 a3 a4 = 0 then (bitsR (a0 == 1) ⟨a1, a2, a3.toNat, a4⟩ : Int) else 0), partsErrV (a0 == 1) a1 a2 a3 a4) else (0, typeErrV a0))
theorem reals_BitsOf.calls (a0 a1 : Int) (a2 : Bool) (a3 a4 r1 r2 : Int) (w : World) (h : reals_BitsOf.f a0 a1 a2 a3 a4 = some (r1, r2)) :
    Calls Tryd.prog 38 #[.int .i64 a0, .agg #[.int .i64 a1, .bool a2, .int .i64 a3, .int .i64 a4]] w fun e w' => e = .returned (.tuple #[.int .u64 r1, .int .i64 r2]) ∧ Below w.heap.size w w' := by
  have h := Option.some.inj h
  by_cases ht : typeErrV a0 = 0
  · rw [if_pos ht] at h
    injection h with h1 h2
    subst h1 h2
    have hc := bitsOf_c (a0 == 1) a1 a2 a3 a4 w
    rw [← type_tv ht] at hc
    exact hc
  · rw [if_neg ht] at h
    injection h with h1 h2
    subst h1 h2
    exact bitsOf_type a0 a1 a2 a3 a4 w ht
def reals_PartsOf.f (a0 a1 : Int) : Option (Int × Bool × Int × Int × Int) :=
  if (decide (0 ≤ a1) && decide (a1 ≤ 18446744073709551615)) = true then some (if validV a0 [a1] = 0 then ((partsR (a0 == 1) a1.toNat).kind, (partsR (a0 == 1) a1.toNat).neg, ((partsR (a0 == 1) a1.toNat).sig : Int), (partsR (a0 == 1) a1.toNat).exp, 0) else (0, false, 0, 0, validV a0 [a1])) else none
theorem valid_w {t a : Int} (ha : U64 a) (h : validV t [a] = 0) : t = tv (t == 1) ∧ ∃ x : Nat, a = (x : Int) ∧ x < 2 * signN (t == 1) := by
  obtain ⟨s, hs, hs2, h1⟩ := valid_s1 ha h
  obtain ⟨x, rfl⟩ := Int.eq_ofNat_of_zero_le ha.1
  subst hs2
  exact ⟨hs, x, rfl, by rw [top_sgn] at h1; exact_mod_cast h1⟩
theorem reals_PartsOf.calls (a0 a1 r1 : Int) (r2 : Bool) (r3 r4 r5 : Int) (w : World) (h : reals_PartsOf.f a0 a1 = some (r1, r2, r3, r4, r5)) :
    Calls Tryd.prog 37 #[.int .i64 a0, .int .u64 a1] w fun e w' => e = .returned (.tuple #[.agg #[.int .i64 r1, .bool r2, .int .i64 r3, .int .i64 r4], .int .i64 r5]) ∧ Below w.heap.size w w' := by
  obtain ⟨hu, h⟩ := of_ite h
  simp only [Bool.and_eq_true, decide_eq_true_eq] at hu
  by_cases hv : validV a0 [a1] = 0
  · rw [if_pos hv] at h
    obtain ⟨ht, x, rfl, hx⟩ := valid_w ⟨hu.1, hu.2⟩ hv
    have hc := partsOf_c (a0 == 1) x w hx
    rw [← ht] at hc
    rw [Int.toNat_natCast] at h
    simp only [Prod.mk.injEq] at h
    obtain ⟨rfl, rfl, rfl, rfl, rfl⟩ := h
    exact hc
  · rw [if_neg hv] at h
    simp only [Prod.mk.injEq] at h
    obtain ⟨rfl, rfl, rfl, rfl, rfl⟩ := h
    exact partsOf_bad a0 a1 w ⟨hu.1, hu.2⟩ hv
def formularyref08_Parts.f (a0 a1 : Int) : Option (Int × Bool × Int × Int) := if (decide (0 ≤ a1) && decide (a1 ≤ 18446744073709551615) && decide (validV a0 [a1] = 0)) = true then some ((partsR (a0 == 1) a1.toNat).kind, (partsR (a0 == 1) a1.toNat).neg, ((partsR (a0 == 1) a1.toNat).sig : Int), (partsR (a0 == 1) a1.toNat).exp) else none
theorem formularyref08_Parts.calls (a0 a1 r1 : Int) (r2 : Bool) (r3 r4 : Int) (w : World) (h : formularyref08_Parts.f a0 a1 = some (r1, r2, r3, r4)) :
    Calls Tryd.prog 19 #[.int .i64 a0, .int .u64 a1] w fun e w' => e = .returned (.agg #[.int .i64 r1, .bool r2, .int .i64 r3, .int .i64 r4]) ∧ Below w.heap.size w w' := by
  obtain ⟨hu, h⟩ := of_ite h
  simp only [Bool.and_eq_true, decide_eq_true_eq] at hu
  obtain ⟨ht, x, rfl, hx⟩ := valid_w ⟨hu.1.1, hu.1.2⟩ hu.2
  have hc := parts_c (a0 == 1) x w (by rw [top_sgn]; exact_mod_cast hx)
  rw [← ht] at hc
  rw [Int.toNat_natCast] at h
  simp only [Prod.mk.injEq] at h
  obtain ⟨rfl, rfl, rfl, rfl⟩ := h
  exact hc
end Go.Proofs.YtmoimcblmmcffaaDoor

-- out of the kit's print.py
namespace Go.Proofs.YtmoimcblmmcffaaDoor.PRealsParts
open Go.RowKit Go.Proofs.YtmoimcblmmcffaaDoorW.PrintWords Go.Proofs.YtmoimcblmmcffaaDoorW.PrintLast Go.Proofs.YtmoimcblmmcffaaDoorW.PrintMore
attribute [local go_sem] max2_int min2_int max_two min_two max_three min_three max_four min_four   -- for this text's walks alone
set_option linter.unusedVariables false
set_option linter.unusedSimpArgs false



def errW : Option Int → Value
  | none => .nilIface
  | some c => .iface 0 (.int .i64 c)
theorem errW_none : errW none = .nilIface := rfl
theorem errW_some (c : Int) : errW (some c) = .iface 0 (.int .i64 c) := rfl

-- the values' own types

end Go.Proofs.YtmoimcblmmcffaaDoor.PRealsParts

-- out of the kit's print.py
namespace Go.Proofs.YtmoimcblmmcffaaDoor.PRealsParts
open Go.RowKit Go.Proofs.YtmoimcblmmcffaaDoorW.PrintWords Go.Proofs.YtmoimcblmmcffaaDoorW.PrintLast Go.Proofs.YtmoimcblmmcffaaDoorW.PrintMore Go.Proofs.YtmoimcblmmcffaaDoorW.PrintZ
attribute [local go_sem] max2_int min2_int max_two min_two max_three min_three max_four min_four   -- for this text's walks alone
set_option linter.unusedVariables false
set_option linter.unusedSimpArgs false

theorem eqA39 (d : Nat) (w : World) (x0 y0 : Int) (x1 y1 : Bool) (x2 y2 : Int) (x3 y3 : Int) :
    (Op.equalIn (d + 2) 39 (.agg #[.int .i64 x0, .bool x1, .int .i64 x2, .int .i64 x3]) (.agg #[.int .i64 y0, .bool y1, .int .i64 y2, .int .i64 y3])).run Tryd.prog w = .ok (x0 == y0 && (x1 == y1 && (x2 == y2 && (x3 == y3)))) w := by
  refine eqA_of Tryd.underlying39 (by kernel_rfl) ?_
  refine eqf_cons (by rfl) (by go_simp; rfl) (by go_simp; rfl) (by go_simp) ?_
  refine eqf_cons (by rfl) (by go_simp; rfl) (by go_simp; rfl) (by go_simp) ?_
  refine eqf_cons (by rfl) (by go_simp; rfl) (by go_simp; rfl) (by go_simp) ?_
  exact eqf_last (by rfl) (by go_simp; rfl) (by go_simp; rfl) (by go_simp)
end Go.Proofs.YtmoimcblmmcffaaDoor.PRealsParts
