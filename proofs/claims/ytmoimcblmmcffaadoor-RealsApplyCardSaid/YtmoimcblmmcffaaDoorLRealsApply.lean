/- PROVED: formularylaw08.RealsApply returns true for every operation, type and pair of bits, and leaves its arguments as they were. CONDITIONS: the row's own: math/bits.deBruijn64tab holds at the start what the program's text lays (tied by the card); nothing else. -/
import Derived.Test.YtmoimcblmmcffaaDoorCards
import Derived.Test.YtmoimcblmmcffaaDoorTie
import Derived.WalkKit
import Derived.ProofKit
import Derived.OpenShut
import Derived.Deep.DeepHandedRow
import Derived.Lib.LaidTab
import Derived.Lib.SmallJoins
import Derived.Test.YtmoimcblmmcffaaDoorMF

/-! A world for the witness of a row that lists the table, and what both cards ask. -/
namespace Go.Proofs.YtmoimcblmmcffaaDoor.Law
open Go.ChangeShapes Go.WideShapes Go.ChangeAt Go.RowKit

theorem own : ownKnob Tryd.prog.godebug = none := by kernel_rfl
def tab : Array Value := #[.int .u8 0, .int .u8 1, .int .u8 56, .int .u8 2, .int .u8 57, .int .u8 49, .int .u8 28, .int .u8 3, .int .u8 61, .int .u8 58, .int .u8 42, .int .u8 50, .int .u8 38, .int .u8 29, .int .u8 17, .int .u8 4, .int .u8 62, .int .u8 47, .int .u8 59, .int .u8 36, .int .u8 45, .int .u8 43, .int .u8 51, .int .u8 22, .int .u8 53, .int .u8 39, .int .u8 33, .int .u8 30, .int .u8 24, .int .u8 18, .int .u8 12, .int .u8 5, .int .u8 63, .int .u8 55, .int .u8 48, .int .u8 27, .int .u8 60, .int .u8 41, .int .u8 37, .int .u8 16, .int .u8 46, .int .u8 35, .int .u8 44, .int .u8 21, .int .u8 52, .int .u8 32, .int .u8 23, .int .u8 11, .int .u8 54, .int .u8 26, .int .u8 40, .int .u8 15, .int .u8 34, .int .u8 20, .int .u8 31, .int .u8 10, .int .u8 25, .int .u8 14, .int .u8 19, .int .u8 9, .int .u8 13, .int .u8 8, .int .u8 7, .int .u8 6]
/-- The settled world, the table holding what the program lays. -/
noncomputable def laidWorld (os : Os) : World :=
  { World.holding Tryd.prog os ⟨#[], #[], []⟩ with heap := (World.holding Tryd.prog os ⟨#[], #[], []⟩).heap.modify 1 fun
      | .cells _ t frozen => .cells tab t frozen
      | o => o }
theorem u64_wf {a : Int} (h : (Lit.int .u64 a).wf = true) : 0 ≤ a ∧ a ≤ 18446744073709551615 := by
  have h' : (decide (0 ≤ a) && decide (a ≤ 18446744073709551615)) = true := h
  simpa using h'
theorem i64_wf {a : Int} (h : (Lit.int .i64 a).wf = true) : -9223372036854775808 ≤ a ∧ a ≤ 9223372036854775807 := by
  have h' : (decide (-9223372036854775808 ≤ a) && decide (a ≤ 9223372036854775807)) = true := h
  simpa using h'
end Go.Proofs.YtmoimcblmmcffaaDoor.Law

/-! The law on operations, walked. -/
namespace Go.Proofs.YtmoimcblmmcffaaDoor.NC
open Go.RowKit Go.Proofs.YtmoimcblmmcffaaDoor.B Go.Proofs.YtmoimcblmmcffaaDoor.N
set_option linter.unusedSimpArgs false
set_option linter.unusedVariables false

theorem op_eq {op : Int} {s : Bool} {a b : Nat} (ha : a < 2 * signN s) (hb : b < 2 * signN s) (h0 : 0 ≤ op) (h6 : op ≤ 6) : applyV op s a b = (opR op s a b : Nat) := by
  have ho : op = 0 ∨ op = 1 ∨ op = 2 ∨ op = 3 ∨ op = 4 ∨ op = 5 ∨ op = 6 := by omega
  have k4 := sign_eq ha hb
  have k0 := add_eq ha hb
  have k1 := sub_eq ha hb
  have k2 := mul_eq ha hb
  have k3 := div_eq ha hb
  have k5 := ext_eq (least := true) ha hb
  have k6 := ext_eq (least := false) ha hb
  rcases ho with rfl | rfl | rfl | rfl | rfl | rfl | rfl
  all_goals
    simp only [applyV, opR, opB, Int.reduceEq, if_true, if_false, Int.toNat_natCast, decide_true, decide_false]
  · exact k0
  · exact k1
  · exact k2
  · exact k3
  · exact k4
  · exact k5
  · exact k6

set_option maxRecDepth 100000 in
set_option maxHeartbeats 1000000 in
theorem law_apply (op t a b : Int) (w : World) (ha : U64 a) (hb : U64 b) : Calls Tryd.prog 3 #[.int .i64 op, .int .i64 t, .agg #[.int .u64 a, .int .u64 b]] w (Ret (.bool true) w) := by
  have c1 := awake_c
  have c2 := fun w => Apply_c op t a b w ha hb
  have c3 := fun w => opErr_c op 7 w (by decide) (by decide)
  have c4 := fun w => threeErr_c t a b w
  by_cases hk : kindErrV op 7 = 0
  · have he : applyErrV op t a b = validV t [a, b] := by unfold applyErrV; rw [if_pos hk]
    rw [he] at c2
    rw [hk] at c3
    by_cases hv : validV t [a, b] = 0
    · obtain ⟨h0, h6⟩ := kindErr_ok hk
      obtain ⟨s, ht, hs, h1, h2⟩ := valid_s2 ha hb hv
      obtain rfl : t = tv s := ht

      obtain ⟨x, rfl⟩ := Int.eq_ofNat_of_zero_le ha.1
      obtain ⟨y, rfl⟩ := Int.eq_ofNat_of_zero_le hb.1
      have hx : x < 2 * signN s := by rw [top_sgn] at h1; exact_mod_cast h1
      have hy : y < 2 * signN s := by rw [top_sgn] at h2; exact_mod_cast h2
      have c5 := fun w => applyR_c op s x y w h1 h2 h0 (by omega)
      rw [hv] at c2 c4
      unfold orErr at c2
      rw [if_pos rfl, hs, op_eq hx hy h0 (by omega)] at c2
      generalize opR op s x y = R at *
      generalize tv s = t at *
      clear ha hb hk he hv h0 h6 hs h1 h2 hx hy
      go_enter Tryd.func3, Tryd.ntmps3
      go_upto_region 1 with (fail)
      refine hide1 w (fun W k0 s0 HE => ?_)
      go_wp2_with (first | (go_at_call 10; refine (c1 _).mono ?_; rintro e w1 ⟨rfl, hb1⟩; have HE1 := HE.call hb1) | (go_at_call 11; refine (c2 _).mono ?_; rintro e w2 ⟨rfl, hb2⟩; have HE2 := HE1.call hb2) | (go_at_call 12; refine (c3 _).mono ?_; rintro e w3 ⟨rfl, hb3⟩; have HE3 := HE2.call hb3) | (go_at_call 13; refine (c4 _).mono ?_; rintro e w4 ⟨rfl, hb4⟩; have HE4 := HE3.call hb4) | (go_at_call 14; refine (c5 _).mono ?_; rintro e w5 ⟨rfl, hb5⟩; have HE5 := HE4.call hb5))
      go_ret
      exact ⟨rfl, Ext.end HE5⟩
    · unfold orErr at c2
      rw [if_neg hv] at c2
      have b1 : (validV t [a, b] != 0) = true := by simpa using hv
      clear ha hb hk he hv
      generalize validV t [a, b] = V at *
      go_enter Tryd.func3, Tryd.ntmps3
      go_upto_region 1 with (fail)
      refine hide1 w (fun W k0 s0 HE => ?_)
      go_wp2_with (first | (go_at_call 10; refine (c1 _).mono ?_; rintro e w1 ⟨rfl, hb1⟩; have HE1 := HE.call hb1) | (go_at_call 11; refine (c2 _).mono ?_; rintro e w2 ⟨rfl, hb2⟩; have HE2 := HE1.call hb2) | (go_at_call 12; refine (c3 _).mono ?_; rintro e w3 ⟨rfl, hb3⟩; have HE3 := HE2.call hb3) | (go_at_call 13; refine (c4 _).mono ?_; rintro e w4 ⟨rfl, hb4⟩; have HE4 := HE3.call hb4))
      go_ret
      exact ⟨rfl, Ext.end HE4⟩
  · have he : applyErrV op t a b = kindErrV op 7 := by unfold applyErrV; rw [if_neg hk]
    rw [he] at c2
    unfold orErr at c2
    rw [if_neg hk] at c2
    have b1 : (kindErrV op 7 != 0) = true := by simpa using hk
    have b2 : (kindErrV op 7 == 0) = false := by simpa using hk
    clear ha hb hk he c4
    generalize kindErrV op 7 = K at *
    go_enter Tryd.func3, Tryd.ntmps3
    go_upto_region 1 with (fail)
    refine hide1 w (fun W k0 s0 HE => ?_)
    go_wp2_with (first | (go_at_call 10; refine (c1 _).mono ?_; rintro e w1 ⟨rfl, hb1⟩; have HE1 := HE.call hb1) | (go_at_call 11; refine (c2 _).mono ?_; rintro e w2 ⟨rfl, hb2⟩; have HE2 := HE1.call hb2) | (go_at_call 12; refine (c3 _).mono ?_; rintro e w3 ⟨rfl, hb3⟩; have HE3 := HE2.call hb3))
    go_ret
    exact ⟨rfl, Ext.end HE3⟩
end Go.Proofs.YtmoimcblmmcffaaDoor.NC

/-! PROVED: formularylaw08.RealsApply returns true for every operation, type and pair of bits, and leaves its arguments as they were. CONDITIONS: the row's own: math/bits.deBruijn64tab holds at the start what the program's text lays (tied by the card); nothing else. -/
namespace Go.Proofs.YtmoimcblmmcffaaDoor.Law
open Go.ChangeShapes Go.WideShapes Go.ChangeAt Go.RowKit

theorem cells_pair : Tryd.prog.cellsOf 24 = 2 := by kernel_rfl
set_option maxRecDepth 100000 in
theorem apply_contract (H : Type) (enc : TypeId × Value → H) (W : World) (base : Nat) (args : Array Value) (ds gs : List (DataW H)) (before : List MemPlace)
    (hval : ∀ (j : Nat) t v, Tryd.f3.params[j]? = some t → args[j]? = some v → Value.okWide Tryd.prog W .any base t v)
    (hW : DataW.Whole enc Tryd.prog Tryd.f3.params.toList Rows.realsApplySpec.vars false W args.toList ds gs before) :
    Calls Tryd.prog 3 args W fun e W' => ∃ v, e = .returned v ∧ Rows.realsApplySpec.post enc Tryd.prog Tryd.f3 false true false false W args v W' := by
  have hW' := hW
  obtain ⟨p, q, hA0, hV, rfl, hfz, hnd⟩ := hW
  have hA : DataW.TrodAll enc Tryd.prog W 0 (fun _ => true) true Tryd.f3.params.toList args.toList ds p := hA0
  rw [Tryd.params3] at hA hval
  obtain ⟨v0, vs0, d0, ds0, p0, q0, hargs, rfl, rfl, h0, r0⟩ := trodAll_cons hA
  obtain ⟨v1, vs1, d1, ds1, p1, q1, rfl, rfl, rfl, h1, r1⟩ := trodAll_cons r0
  obtain ⟨v2, vs2, d2, ds2, p2, q2, rfl, rfl, rfl, h2, r2⟩ := trodAll_cons r1
  obtain ⟨rfl, rfl, rfl⟩ := trodAll_nil r2
  obtain rfl : args = #[v0, v1, v2] := by cases args; simp_all
  obtain ⟨rfl, rfl⟩ := trodVars_none hV
  obtain ⟨op, rfl, rfl, rfl, w0⟩ := open_int Tryd.underlying3 (hval 0 3 v0 rfl rfl) h0
  obtain ⟨t, rfl, rfl, rfl, w1⟩ := open_int Tryd.underlying3 (hval 1 3 v1 rfl rfl) h1
  obtain ⟨c0, c1, y0, y1, m, rfl, rfl, rfl, hy0, hy1⟩ := Joins.open_agg2 Tryd.underlying24 (by kernel_rfl) cells_pair (hval 2 24 v2 rfl rfl) h2
  obtain ⟨a, e0, rfl, wa⟩ := DataW.trod_int Tryd.underlying22 hy0
  obtain ⟨b, e1, rfl, wb⟩ := DataW.trod_int Tryd.underlying22 hy1
  simp at e0 e1
  subst e0 e1
  clear hA0
  simp only [List.append_nil] at hW'
  have ha : B.U64 a := u64_wf wa
  have hb : B.U64 b := u64_wf wb
  have pairReads : ∀ (W' : World) (sp : Nat → Bool), DataW.Trod enc Tryd.prog W' 0 sp true 24 (.agg #[.int .u64 a, .int .u64 b]) (.agg [.lit (.int .u64 a), .lit (.int .u64 b)]) [] := fun W' sp =>
    Joins.shut_agg2 (y0 := (.lit (.int .u64 a), [])) (y1 := (.lit (.int .u64 b), [])) Tryd.underlying24 (by kernel_rfl) cells_pair ⟨1, by simp [DataW.trod, Tryd.underlying22, wa]⟩ ⟨1, by simp [DataW.trod, Tryd.underlying22, wb]⟩
  refine (NC.law_apply op t a b W ha hb).mono fun e W' ⟨he, hg⟩ => ?_
  subst he
  exact ⟨_, rfl, _, _, _, [], [], [], hW', trodAll_mk1 (shut_bool Tryd.underlying4 _), trodAll_cons_mk (shut_int Tryd.underlying3 w0) (trodAll_cons_mk (shut_int Tryd.underlying3 w1) (trodAll_cons_mk (pairReads _ _) trodAll_mk0)), rfl, hg.frame _, fun h => by cases h⟩

theorem apply_met (os : Os) : laidMet Tryd.prog Rows.realsApplyRow.laid ((laidWorld os).forCall (fun _ _ => 0) ⟨#[], #[.int .i64 0, .int .i64 0, .agg #[.int .u64 0, .int .u64 0]], []⟩).memory :=
  laidMet_of_run' 8 (by kernel_rfl) (by kernel_rfl)
theorem apply_reads (os : Os) {H : Type} (enc : TypeId × Value → H) : ∃ places, DataW.whole enc Tryd.prog ((laidWorld os).forCall (fun _ _ => 0) ⟨#[], #[.int .i64 0, .int .i64 0, .agg #[.int .u64 0, .int .u64 0]], []⟩).memory Tryd.f3.params.toList Rows.realsApplySpec.vars false #[Value.int .i64 0, Value.int .i64 0, .agg #[.int .u64 0, .int .u64 0]].toList 8 = some ([.lit (.int .i64 0), .lit (.int .i64 0), .agg [.lit (.int .u64 0), .lit (.int .u64 0)]], [], places) :=
  ⟨[], by kernel_rfl⟩
set_option maxRecDepth 100000 in
theorem apply_lifted (os : Os) (started : os.Started) (H : Type) (enc : TypeId × Value → H) (F : Stop.Interp) :
    ReturnsInHanded {} Tryd.checked os 3 .any ((OpenSpec.ofChange Rows.realsApplySpec).preRow enc Tryd.prog Tryd.f3 Rows.realsApplyRow.domain false Rows.realsApplyRow.laid) (((OpenSpec.ofChange Rows.realsApplySpec).at F).post enc Tryd.prog Tryd.f3 false true false false) := by
  obtain ⟨places, hx⟩ := apply_reads os enc
  refine returnsInHanded_of_row (C := Tryd.checked) (s := OpenSpec.ofChange Rows.realsApplySpec) own started (by kernel_rfl) Tryd.func3
    (witness_row_at (enc := enc) (C := Tryd.checked) false (laidWorld os) #[.int .i64 0, .int .i64 0, .agg #[.int .u64 0, .int .u64 0]] rfl (by kernel_rfl) (by kernel_rfl) (by kernel_rfl)
      (OpenSpec.preRow_of_cond 8 hx (by kernel_rfl) (fun k hk => by cases hk) (by kernel_rfl) (apply_met os))) ?_
  intro W base args ds gs before hval hW _ _ _ hL _ _
  exact apply_contract H enc W base args ds gs before hval hW
theorem apply_said : Rows.RealsApplySaid :=
  OpenClaim.holds_of_cond 3 Tryd.f3 rfl rfl rfl rfl rfl rfl rfl ⟨rfl, rfl, rfl, rfl, rfl⟩ rfl rfl rfl rfl rfl (by kernel_rfl) Tryd.func3 (by kernel_rfl)
    (of_decide_eq_true (by kernel_rfl)) (by unfold Func.isWrapper; first | (rw [if_pos (by decide +kernel)]; kernel_rfl) | (rw [if_neg (by decide +kernel)]; exact ⟨rfl, rfl⟩))
    (fun os started H enc _ F => by rw [OpenClaim.pre_eq_preRow]; exact apply_lifted os started H enc F)
theorem apply_plain (f : FuncId) (fn : Func) (hf : Tryd.pinned.checked.prog.funcNamed "formulary/formularylaw08.RealsApply" = some f) (hfn : Tryd.pinned.checked.prog.funcs[f]? = some fn) :
    false = Tryd.pinned.checked.prog.looks [] ∧ ∀ (j : Nat) t, fn.params[j]? = some t → Tryd.pinned.checked.prog.wantsStandIn t = false := by
  obtain rfl : f = 3 := Option.some.inj ((show Tryd.prog.funcNamed "formulary/formularylaw08.RealsApply" = some 3 by kernel_rfl).symm.trans hf) |>.symm
  obtain rfl : fn = Tryd.f3 := (Option.some.inj (Tryd.func3.symm.trans hfn)).symm
  refine ⟨by kernel_rfl, fun j t ht => ?_⟩
  rw [Tryd.params3] at ht
  have hm := Array.mem_of_getElem? ht
  simp at hm
  rcases hm with rfl | rfl
  · exact (show Tryd.prog.wantsStandIn 3 = false by kernel_rfl)
  · exact (show Tryd.prog.wantsStandIn 24 = false by kernel_rfl)
theorem apply_card : Rows.RealsApplyCardSaid :=
  Claim7.holds_tied_plain_at .later [] _ _ _ _ apply_said (fun _ h => by cases h) (by kernel_rfl) (fun _ h => by cases h) realsApply_row_tie rfl ⟨rfl, rfl⟩ (by kernel_rfl) rfl apply_plain (by kernel_rfl)
end Go.Proofs.YtmoimcblmmcffaaDoor.Law
