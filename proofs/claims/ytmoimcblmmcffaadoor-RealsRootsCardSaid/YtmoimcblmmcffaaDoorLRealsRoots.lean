/- PROVED: formularylaw08.RealsRoots returns true for every input, and leaves its arguments as they were: square root, value with the other sign, size and power are as specified. CONDITIONS: the row's own: math/bits.deBruijn64tab holds at the start what the program's text lays (tied by the card); nothing else. -/
import Derived.Test.YtmoimcblmmcffaaDoorCards
import Derived.Test.YtmoimcblmmcffaaDoorTie
import Derived.WalkKit
import Derived.ProofKit
import Derived.OpenShut
import Derived.Deep.DeepHandedRow
import Derived.Lib.LaidTab
import Derived.Lib.SmallJoins
import Derived.Test.YtmoimcblmmcffaaDoorMF

/-! A world for the witness of a row that lists the table, and what both cards ask. -/
namespace Go.Proofs.YtmoimcblmmcffaaDoor.Law
open Go.ChangeShapes Go.WideShapes Go.ChangeAt Go.RowKit

theorem own : ownKnob Tryd.prog.godebug = none := by kernel_rfl
def tab : Array Value := #[.int .u8 0, .int .u8 1, .int .u8 56, .int .u8 2, .int .u8 57, .int .u8 49, .int .u8 28, .int .u8 3, .int .u8 61, .int .u8 58, .int .u8 42, .int .u8 50, .int .u8 38, .int .u8 29, .int .u8 17, .int .u8 4, .int .u8 62, .int .u8 47, .int .u8 59, .int .u8 36, .int .u8 45, .int .u8 43, .int .u8 51, .int .u8 22, .int .u8 53, .int .u8 39, .int .u8 33, .int .u8 30, .int .u8 24, .int .u8 18, .int .u8 12, .int .u8 5, .int .u8 63, .int .u8 55, .int .u8 48, .int .u8 27, .int .u8 60, .int .u8 41, .int .u8 37, .int .u8 16, .int .u8 46, .int .u8 35, .int .u8 44, .int .u8 21, .int .u8 52, .int .u8 32, .int .u8 23, .int .u8 11, .int .u8 54, .int .u8 26, .int .u8 40, .int .u8 15, .int .u8 34, .int .u8 20, .int .u8 31, .int .u8 10, .int .u8 25, .int .u8 14, .int .u8 19, .int .u8 9, .int .u8 13, .int .u8 8, .int .u8 7, .int .u8 6]
/-- The settled world, the table holding what the program lays. -/
noncomputable def laidWorld (os : Os) : World :=
  { World.holding Tryd.prog os ⟨#[], #[], []⟩ with heap := (World.holding Tryd.prog os ⟨#[], #[], []⟩).heap.modify 1 fun
      | .cells _ t frozen => .cells tab t frozen
      | o => o }
theorem u64_wf {a : Int} (h : (Lit.int .u64 a).wf = true) : 0 ≤ a ∧ a ≤ 18446744073709551615 := by
  have h' : (decide (0 ≤ a) && decide (a ≤ 18446744073709551615)) = true := h
  simpa using h'
theorem i64_wf {a : Int} (h : (Lit.int .i64 a).wf = true) : -9223372036854775808 ≤ a ∧ a ≤ 9223372036854775807 := by
  have h' : (decide (-9223372036854775808 ≤ a) && decide (a ≤ 9223372036854775807)) = true := h
  simpa using h'
end Go.Proofs.YtmoimcblmmcffaaDoor.Law

/-! The laws on comparisons, and on roots, walked. -/
namespace Go.Proofs.YtmoimcblmmcffaaDoor.NC
open Go.RowKit Go.Proofs.YtmoimcblmmcffaaDoor.B Go.Proofs.YtmoimcblmmcffaaDoor.N
set_option linter.unusedSimpArgs false
set_option linter.unusedVariables false

theorem cmp_turn (s : Bool) (a b : Nat) : (cmpR s a b = 2 ∧ cmpR s b a = 2) ∨ (cmpR s a b = -1 ∧ cmpR s b a = 1) ∨ (cmpR s a b = 0 ∧ cmpR s b a = 0) ∨ (cmpR s a b = 1 ∧ cmpR s b a = -1) := by
  unfold cmpR
  by_cases h : (partsR s a).kind = 3 ∨ (partsR s b).kind = 3
  · rw [if_pos h, if_pos h.symm]; exact .inl ⟨rfl, rfl⟩
  · have h2 : ¬ ((partsR s b).kind = 3 ∨ (partsR s a).kind = 3) := fun h' => h h'.symm
    rw [if_neg h, if_neg h2]
    generalize rankR s a = x
    generalize rankR s b = y
    rcases Int.lt_trichotomy x y with k | k | k
    · rw [if_pos k, if_neg (by omega : ¬ y < x), if_neg (by omega : ¬ y = x)]; exact .inr (.inl ⟨rfl, rfl⟩)
    · subst k
      rw [if_neg (by omega : ¬ x < x), if_pos rfl]; exact .inr (.inr (.inl ⟨rfl, rfl⟩))
    · rw [if_neg (by omega : ¬ x < y), if_neg (by omega : ¬ x = y), if_pos k]; exact .inr (.inr (.inr ⟨rfl, rfl⟩))

set_option maxRecDepth 100000 in
set_option maxHeartbeats 1000000 in
theorem law_compares (t a b : Int) (w : World) (ha : U64 a) (hb : U64 b) : Calls Tryd.prog 6 #[.int .i64 t, .agg #[.int .u64 a, .int .u64 b]] w (Ret (.bool true) w) := by
  have c1 := awake_c
  have c2 := fun w => Compare_c t a b w ha hb
  have c4 := fun w => threeErr_c t a b w
  by_cases hv : validV t [a, b] = 0
  · obtain ⟨s, ht, hs, h1, h2⟩ := valid_s2 ha hb hv
    obtain rfl : t = tv s := ht
    obtain ⟨x, rfl⟩ := Int.eq_ofNat_of_zero_le ha.1
    obtain ⟨y, rfl⟩ := Int.eq_ofNat_of_zero_le hb.1
    have hx : x < 2 * signN s := by rw [top_sgn] at h1; exact_mod_cast h1
    have hy : y < 2 * signN s := by rw [top_sgn] at h2; exact_mod_cast h2
    have c3 := fun w => Compare_c (tv s) (y : Int) (x : Int) w hb ha
    have c5 := fun w => cmpR_c s x y w h1 h2
    rw [(rg_nat hy).valid2 (rg_nat hx)] at c3
    rw [hv] at c2 c4
    unfold orErrN at c2 c3
    rw [if_pos rfl, hs, cmp_eq hx hy] at c2
    rw [if_pos rfl, hs, cmp_eq hy hx] at c3
    have hturn := cmp_turn s x y
    generalize cmpR s x y = n at *
    generalize cmpR s y x = m at *
    generalize tv s = t at *
    clear ha hb hv hs h1 h2 hx hy
    rcases hturn with ⟨rfl, rfl⟩ | ⟨rfl, rfl⟩ | ⟨rfl, rfl⟩ | ⟨rfl, rfl⟩
    all_goals
      go_enter Tryd.func6, Tryd.ntmps6
      go_upto_region 1 with (fail)
      refine hide1 w (fun W k0 s0 HE => ?_)
      go_upto_region 4 with (first | (go_at_call 10; refine (c1 _).mono ?_; rintro e w1 ⟨rfl, hb1⟩; have HE1 := HE.call hb1) | (go_at_call 32; refine (c2 _).mono ?_; rintro e w2 ⟨rfl, hb2⟩; have HE2 := HE1.call hb2))
      go_wp2_with (first | (go_at_call 32; refine (c3 _).mono ?_; rintro e w3 ⟨rfl, hb3⟩; have HE3 := HE4.call hb3) | (go_at_call 13; refine (c4 _).mono ?_; rintro e w4 ⟨rfl, hb4⟩; have HE4 := HE2.call hb4) | (go_at_call 33; refine (c5 _).mono ?_; rintro e w5 ⟨rfl, hb5⟩; have HE5 := HE3.call hb5))
      go_ret
      exact ⟨rfl, Ext.end HE5⟩
  · unfold orErrN at c2
    rw [if_neg hv] at c2
    have b1 : (validV t [a, b] != 0) = true := by simpa using hv
    clear ha hb hv
    generalize validV t [a, b] = V at *
    go_enter Tryd.func6, Tryd.ntmps6
    go_upto_region 1 with (fail)
    refine hide1 w (fun W k0 s0 HE => ?_)
    go_wp2_with (first | (go_at_call 10; refine (c1 _).mono ?_; rintro e w1 ⟨rfl, hb1⟩; have HE1 := HE.call hb1) | (go_at_call 32; refine (c2 _).mono ?_; rintro e w2 ⟨rfl, hb2⟩; have HE2 := HE1.call hb2) | (go_at_call 13; refine (c4 _).mono ?_; rintro e w4 ⟨rfl, hb4⟩; have HE4 := HE2.call hb4))
    go_ret
    exact ⟨rfl, Ext.end HE4⟩

set_option maxRecDepth 100000 in
set_option maxHeartbeats 2000000 in
theorem law_roots (t a n : Int) (w : World) (ha : U64 a) : Calls Tryd.prog 5 #[.int .i64 t, .int .u64 a, .int .i64 n] w (Ret (.bool true) w) := by
  have c1 := awake_c
  have c2 := fun w => SqrtOf_c sqrt_narrow t a w ha
  have c3 := fun w => Negated_c t a w ha
  have c4 := fun w => SizeOf_c t a w ha
  have c6 := fun w => bothErr_c t a w
  have c7 := fun w => numberErr_c n w
  by_cases hv : validV t [a] = 0
  · obtain ⟨s, ht, hs, h1⟩ := valid_s1 ha hv
    obtain rfl : t = tv s := ht
    obtain ⟨x, rfl⟩ := Int.eq_ofNat_of_zero_le ha.1
    have hx : x < 2 * signN s := by rw [top_sgn] at h1; exact_mod_cast h1
    have d2 := fun w => sqrtR_c s x w h1
    have d3 := fun w => negatedR_c s x w h1
    have d4 := fun w => sizedR_c s x w h1
    rw [hv] at c2 c3 c4 c6
    unfold orErr at c2 c3 c4
    rw [if_pos rfl] at c2 c3 c4
    rw [hs, root_eq hx] at c2
    rw [neg_eq hx] at c3
    rw [size_eq hx] at c4
    generalize sqrtR s x = r2 at *
    generalize negR s x = r3 at *
    generalize sizeR s x = r4 at *
    by_cases hn : rangedV n (-2147483648) 2147483647 = 0
    · have hr : -2147483648 ≤ n ∧ n ≤ 2147483647 := by
        unfold rangedV at hn
        by_cases k1 : n < -2147483648
        · rw [if_pos k1] at hn; cases hn
        · rw [if_neg k1] at hn
          by_cases k2 : 2147483647 < n
          · rw [if_pos k2] at hn; cases hn
          · omega
      have c5 := fun w => PowerOf_ok s x n w hx hr.1 hr.2
      have d5 := fun w => powerR_c s x n w hx hr.1 hr.2
      unfold orErr at c5
      rw [if_pos rfl] at c5
      rw [hn] at c7
      generalize powR s x n = r5 at *
      generalize tv s = t at *
      clear ha hv hs h1 hx hn hr
      go_enter Tryd.func5, Tryd.ntmps5
      go_wp2_with (first | (go_at_call 10; refine (c1 _).mono ?_; rintro e w1 ⟨rfl, hb1⟩) | (go_at_call 23; refine (c2 _).mono ?_; rintro e w2 ⟨rfl, hb2⟩) | (go_at_call 24; refine (c3 _).mono ?_; rintro e w3 ⟨rfl, hb3⟩) | (go_at_call 25; refine (c4 _).mono ?_; rintro e w4 ⟨rfl, hb4⟩) | (go_at_call 26; refine (c5 _).mono ?_; rintro e w5 ⟨rfl, hb5⟩) | (go_at_call 27; refine (c6 _).mono ?_; rintro e w6 ⟨rfl, hb6⟩) | (go_at_call 28; refine (d2 _).mono ?_; rintro e w7 ⟨rfl, hb7⟩) | (go_at_call 29; refine (d3 _).mono ?_; rintro e w8 ⟨rfl, hb8⟩) | (go_at_call 30; refine (d4 _).mono ?_; rintro e w9 ⟨rfl, hb9⟩) | (go_at_call 21; refine (c7 _).mono ?_; rintro e w10 ⟨rfl, hb10⟩) | (go_at_call 31; refine (d5 _).mono ?_; rintro e w11 ⟨rfl, hb11⟩))
      go_ret
      exact ⟨rfl, below_call (below_call (below_call (below_call (below_call (below_call (below_call (below_call (below_call (below_call hb1 hb2) hb3) hb4) hb5) hb6) hb7) hb8) hb9) hb10) hb11⟩
    · have he : powErrV (tv s) (x : Int) n = rangedV n (-2147483648) 2147483647 := by unfold powErrV; rw [if_pos hv]
      have c5 := fun w => PowerOf_bad (tv s) (x : Int) n w ha (by rw [he]; exact hn)
      rw [he] at c5
      unfold orErr at c5
      rw [if_neg hn] at c5
      have b1 : (rangedV n (-2147483648) 2147483647 != 0) = true := by simpa using hn
      generalize rangedV n (-2147483648) 2147483647 = E at *
      generalize tv s = t at *
      clear ha hv hs h1 hx hn he
      go_enter Tryd.func5, Tryd.ntmps5
      go_wp2_with (first | (go_at_call 10; refine (c1 _).mono ?_; rintro e w1 ⟨rfl, hb1⟩) | (go_at_call 23; refine (c2 _).mono ?_; rintro e w2 ⟨rfl, hb2⟩) | (go_at_call 24; refine (c3 _).mono ?_; rintro e w3 ⟨rfl, hb3⟩) | (go_at_call 25; refine (c4 _).mono ?_; rintro e w4 ⟨rfl, hb4⟩) | (go_at_call 26; refine (c5 _).mono ?_; rintro e w5 ⟨rfl, hb5⟩) | (go_at_call 27; refine (c6 _).mono ?_; rintro e w6 ⟨rfl, hb6⟩) | (go_at_call 28; refine (d2 _).mono ?_; rintro e w7 ⟨rfl, hb7⟩) | (go_at_call 29; refine (d3 _).mono ?_; rintro e w8 ⟨rfl, hb8⟩) | (go_at_call 30; refine (d4 _).mono ?_; rintro e w9 ⟨rfl, hb9⟩) | (go_at_call 21; refine (c7 _).mono ?_; rintro e w10 ⟨rfl, hb10⟩))
      go_ret
      exact ⟨rfl, below_call (below_call (below_call (below_call (below_call (below_call (below_call (below_call (below_call hb1 hb2) hb3) hb4) hb5) hb6) hb7) hb8) hb9) hb10⟩
  · have he : powErrV t a n = validV t [a] := by unfold powErrV; rw [if_neg hv]
    have c5 := fun w => PowerOf_bad t a n w ha (by rw [he]; exact hv)
    rw [he] at c5
    unfold orErr at c2 c3 c4 c5
    rw [if_neg hv] at c2 c3 c4 c5
    have b1 : (validV t [a] != 0) = true := by simpa using hv
    clear ha hv he c7
    generalize validV t [a] = V at *
    go_enter Tryd.func5, Tryd.ntmps5
    go_wp2_with (first | (go_at_call 10; refine (c1 _).mono ?_; rintro e w1 ⟨rfl, hb1⟩) | (go_at_call 23; refine (c2 _).mono ?_; rintro e w2 ⟨rfl, hb2⟩) | (go_at_call 24; refine (c3 _).mono ?_; rintro e w3 ⟨rfl, hb3⟩) | (go_at_call 25; refine (c4 _).mono ?_; rintro e w4 ⟨rfl, hb4⟩) | (go_at_call 26; refine (c5 _).mono ?_; rintro e w5 ⟨rfl, hb5⟩) | (go_at_call 27; refine (c6 _).mono ?_; rintro e w6 ⟨rfl, hb6⟩))
    go_ret
    exact ⟨rfl, below_call (below_call (below_call (below_call (below_call hb1 hb2) hb3) hb4) hb5) hb6⟩
end Go.Proofs.YtmoimcblmmcffaaDoor.NC

/-! PROVED: formularylaw08.RealsRoots returns true for every input, and leaves its arguments as they were: square root, value with the other sign, size and power are as specified. CONDITIONS: the row's own: math/bits.deBruijn64tab holds at the start what the program's text lays (tied by the card); nothing else. -/
namespace Go.Proofs.YtmoimcblmmcffaaDoor.Law
open Go.ChangeShapes Go.WideShapes Go.ChangeAt Go.RowKit

set_option maxRecDepth 100000 in
theorem realsRoots_contract (H : Type) (enc : TypeId × Value → H) (W : World) (base : Nat) (args : Array Value) (ds gs : List (DataW H)) (before : List MemPlace)
    (hval : ∀ (j : Nat) t v, Tryd.f5.params[j]? = some t → args[j]? = some v → Value.okWide Tryd.prog W .any base t v)
    (hW : DataW.Whole enc Tryd.prog Tryd.f5.params.toList Rows.realsRootsSpec.vars false W args.toList ds gs before) :
    Calls Tryd.prog 5 args W fun e W' => ∃ v, e = .returned v ∧ Rows.realsRootsSpec.post enc Tryd.prog Tryd.f5 false true false false W args v W' := by
  have hW' := hW
  obtain ⟨p, q, hA0, hV, rfl, hfz, hnd⟩ := hW
  have hA : DataW.TrodAll enc Tryd.prog W 0 (fun _ => true) true Tryd.f5.params.toList args.toList ds p := hA0
  rw [Tryd.params5] at hA hval
  obtain ⟨v0, vs0, d0, ds0, p0, q0, hargs, rfl, rfl, h0, r0⟩ := trodAll_cons hA
  obtain ⟨v1, vs1, d1, ds1, p1, q1, rfl, rfl, rfl, h1, r1⟩ := trodAll_cons r0
  obtain ⟨v2, vs2, d2, ds2, p2, q2, rfl, rfl, rfl, h2, r2⟩ := trodAll_cons r1
  obtain ⟨rfl, rfl, rfl⟩ := trodAll_nil r2
  obtain rfl : args = #[v0, v1, v2] := by cases args; simp_all
  obtain ⟨rfl, rfl⟩ := trodVars_none hV
  obtain ⟨z0, rfl, rfl, rfl, w0⟩ := open_int Tryd.underlying3 (hval 0 3 v0 rfl rfl) h0
  obtain ⟨z1, rfl, rfl, rfl, w1⟩ := open_int Tryd.underlying22 (hval 1 22 v1 rfl rfl) h1
  obtain ⟨z2, rfl, rfl, rfl, w2⟩ := open_int Tryd.underlying3 (hval 2 3 v2 rfl rfl) h2
  clear hA0
  simp only [List.append_nil] at hW'
  refine (NC.law_roots z0 z1 z2 W (u64_wf w1)).mono fun e W' ⟨he, hg⟩ => ?_
  subst he
  exact ⟨_, rfl, _, _, _, [], [], [], hW', trodAll_mk1 (shut_bool Tryd.underlying4 _), (trodAll_cons_mk (shut_int Tryd.underlying3 w0) (trodAll_cons_mk (shut_int Tryd.underlying22 w1) (trodAll_cons_mk (shut_int Tryd.underlying3 w2) trodAll_mk0))), rfl, hg.frame _, fun h => by cases h⟩

theorem realsRoots_met (os : Os) : laidMet Tryd.prog Rows.realsRootsRow.laid ((laidWorld os).forCall (fun _ _ => 0) ⟨#[], #[Value.int .i64 0, Value.int .u64 0, Value.int .i64 0], []⟩).memory :=
  laidMet_of_run' 8 (by kernel_rfl) (by kernel_rfl)
theorem realsRoots_reads (os : Os) {H : Type} (enc : TypeId × Value → H) : ∃ places, DataW.whole enc Tryd.prog ((laidWorld os).forCall (fun _ _ => 0) ⟨#[], #[Value.int .i64 0, Value.int .u64 0, Value.int .i64 0], []⟩).memory Tryd.f5.params.toList Rows.realsRootsSpec.vars false (#[Value.int .i64 0, Value.int .u64 0, Value.int .i64 0] : Array Value).toList 8 = some ([.lit (.int .i64 0), .lit (.int .u64 0), .lit (.int .i64 0)], [], places) :=
  ⟨[], by kernel_rfl⟩
set_option maxRecDepth 100000 in
theorem realsRoots_lifted (os : Os) (started : os.Started) (H : Type) (enc : TypeId × Value → H) (F : Stop.Interp) :
    ReturnsInHanded {} Tryd.checked os 5 .any ((OpenSpec.ofChange Rows.realsRootsSpec).preRow enc Tryd.prog Tryd.f5 Rows.realsRootsRow.domain false Rows.realsRootsRow.laid) (((OpenSpec.ofChange Rows.realsRootsSpec).at F).post enc Tryd.prog Tryd.f5 false true false false) := by
  obtain ⟨places, hx⟩ := realsRoots_reads os enc
  refine returnsInHanded_of_row (C := Tryd.checked) (s := OpenSpec.ofChange Rows.realsRootsSpec) own started (by kernel_rfl) Tryd.func5
    (witness_row_at (enc := enc) (C := Tryd.checked) false (laidWorld os) #[Value.int .i64 0, Value.int .u64 0, Value.int .i64 0] rfl (by kernel_rfl) (by kernel_rfl) (by kernel_rfl)
      (OpenSpec.preRow_of_cond 8 hx (by kernel_rfl) (fun k hk => by cases hk) (by kernel_rfl) (realsRoots_met os))) ?_
  intro W base args ds gs before hval hW _ _ _ hL _ _
  exact realsRoots_contract H enc W base args ds gs before hval hW
theorem realsRoots_said : Rows.RealsRootsSaid :=
  OpenClaim.holds_of_cond 5 Tryd.f5 rfl rfl rfl rfl rfl rfl rfl ⟨rfl, rfl, rfl, rfl, rfl⟩ rfl rfl rfl rfl rfl (by kernel_rfl) Tryd.func5 (by kernel_rfl)
    (of_decide_eq_true (by kernel_rfl)) (by unfold Func.isWrapper; first | (rw [if_pos (by decide +kernel)]; kernel_rfl) | (rw [if_neg (by decide +kernel)]; exact ⟨rfl, rfl⟩))
    (fun os started H enc _ F => by rw [OpenClaim.pre_eq_preRow]; exact realsRoots_lifted os started H enc F)
theorem realsRoots_plain (f : FuncId) (fn : Func) (hf : Tryd.pinned.checked.prog.funcNamed "formulary/formularylaw08.RealsRoots" = some f) (hfn : Tryd.pinned.checked.prog.funcs[f]? = some fn) :
    false = Tryd.pinned.checked.prog.looks [] ∧ ∀ (j : Nat) t, fn.params[j]? = some t → Tryd.pinned.checked.prog.wantsStandIn t = false := by
  obtain rfl : f = 5 := Option.some.inj ((show Tryd.prog.funcNamed "formulary/formularylaw08.RealsRoots" = some 5 by kernel_rfl).symm.trans hf) |>.symm
  obtain rfl : fn = Tryd.f5 := (Option.some.inj (Tryd.func5.symm.trans hfn)).symm
  refine ⟨by kernel_rfl, fun j t ht => ?_⟩
  rw [Tryd.params5] at ht
  have hm := Array.mem_of_getElem? ht
  simp at hm
  rcases hm with rfl | rfl | rfl
  · exact (show Tryd.prog.wantsStandIn 3 = false by kernel_rfl)
  · exact (show Tryd.prog.wantsStandIn 22 = false by kernel_rfl)
  · exact (show Tryd.prog.wantsStandIn 3 = false by kernel_rfl)
theorem realsRoots_card : Rows.RealsRootsCardSaid :=
  Claim7.holds_tied_plain_at .later [] _ _ _ _ realsRoots_said (fun _ h => by cases h) (by kernel_rfl) (fun _ h => by cases h) realsRoots_row_tie rfl ⟨rfl, rfl⟩ (by kernel_rfl) rfl realsRoots_plain (by kernel_rfl)
end Go.Proofs.YtmoimcblmmcffaaDoor.Law
