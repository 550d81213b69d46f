/- PROVED: formularylaw08.RealsSums returns true for every input, and leaves its arguments as they were: the sum of a list is as specified, or the error. CONDITIONS: the row's own: math/bits.deBruijn64tab holds at the start what the program's text lays (tied by the card); nothing else. -/
import Derived.Test.YtmoimcblmmcffaaDoorCards
import Derived.Test.YtmoimcblmmcffaaDoorTie
import Derived.WalkKit
import Derived.ProofKit
import Derived.OpenShut
import Derived.Deep.DeepHandedRow
import Derived.Lib.LaidTab
import Derived.Lib.SmallJoins
import Derived.Outline
import Derived.ArgAppend
import Derived.Deep.AppendSrc
import Derived.Test.YtmoimcblmmcffaaDoorMF

/-! A world for the witness of a row that lists the table, and what both cards ask. -/
namespace Go.Proofs.YtmoimcblmmcffaaDoor.Law
open Go.ChangeShapes Go.WideShapes Go.ChangeAt Go.RowKit

theorem own : ownKnob Tryd.prog.godebug = none := by kernel_rfl
def tab : Array Value := #[.int .u8 0, .int .u8 1, .int .u8 56, .int .u8 2, .int .u8 57, .int .u8 49, .int .u8 28, .int .u8 3, .int .u8 61, .int .u8 58, .int .u8 42, .int .u8 50, .int .u8 38, .int .u8 29, .int .u8 17, .int .u8 4, .int .u8 62, .int .u8 47, .int .u8 59, .int .u8 36, .int .u8 45, .int .u8 43, .int .u8 51, .int .u8 22, .int .u8 53, .int .u8 39, .int .u8 33, .int .u8 30, .int .u8 24, .int .u8 18, .int .u8 12, .int .u8 5, .int .u8 63, .int .u8 55, .int .u8 48, .int .u8 27, .int .u8 60, .int .u8 41, .int .u8 37, .int .u8 16, .int .u8 46, .int .u8 35, .int .u8 44, .int .u8 21, .int .u8 52, .int .u8 32, .int .u8 23, .int .u8 11, .int .u8 54, .int .u8 26, .int .u8 40, .int .u8 15, .int .u8 34, .int .u8 20, .int .u8 31, .int .u8 10, .int .u8 25, .int .u8 14, .int .u8 19, .int .u8 9, .int .u8 13, .int .u8 8, .int .u8 7, .int .u8 6]
/-- The settled world, the table holding what the program lays. -/
noncomputable def laidWorld (os : Os) : World :=
  { World.holding Tryd.prog os ⟨#[], #[], []⟩ with heap := (World.holding Tryd.prog os ⟨#[], #[], []⟩).heap.modify 1 fun
      | .cells _ t frozen => .cells tab t frozen
      | o => o }
theorem u64_wf {a : Int} (h : (Lit.int .u64 a).wf = true) : 0 ≤ a ∧ a ≤ 18446744073709551615 := by
  have h' : (decide (0 ≤ a) && decide (a ≤ 18446744073709551615)) = true := h
  simpa using h'
theorem i64_wf {a : Int} (h : (Lit.int .i64 a).wf = true) : -9223372036854775808 ≤ a ∧ a ≤ 9223372036854775807 := by
  have h' : (decide (-9223372036854775808 ≤ a) && decide (a ≤ 9223372036854775807)) = true := h
  simpa using h'
end Go.Proofs.YtmoimcblmmcffaaDoor.Law

/-! The law on operations, walked. -/
namespace Go.Proofs.YtmoimcblmmcffaaDoor.NC
open Go.RowKit Go.Proofs.YtmoimcblmmcffaaDoor.B Go.Proofs.YtmoimcblmmcffaaDoor.N
set_option linter.unusedSimpArgs false
set_option linter.unusedVariables false

theorem op_eq {op : Int} {s : Bool} {a b : Nat} (ha : a < 2 * signN s) (hb : b < 2 * signN s) (h0 : 0 ≤ op) (h6 : op ≤ 6) : applyV op s a b = (opR op s a b : Nat) := by
  have ho : op = 0 ∨ op = 1 ∨ op = 2 ∨ op = 3 ∨ op = 4 ∨ op = 5 ∨ op = 6 := by omega
  have k4 := sign_eq ha hb
  have k0 := add_eq ha hb
  have k1 := sub_eq ha hb
  have k2 := mul_eq ha hb
  have k3 := div_eq ha hb
  have k5 := ext_eq (least := true) ha hb
  have k6 := ext_eq (least := false) ha hb
  rcases ho with rfl | rfl | rfl | rfl | rfl | rfl | rfl
  all_goals
    simp only [applyV, opR, opB, Int.reduceEq, if_true, if_false, Int.toNat_natCast, decide_true, decide_false]
  · exact k0
  · exact k1
  · exact k2
  · exact k3
  · exact k4
  · exact k5
  · exact k6

set_option maxRecDepth 100000 in
set_option maxHeartbeats 1000000 in
theorem law_apply (op t a b : Int) (w : World) (ha : U64 a) (hb : U64 b) : Calls Tryd.prog 3 #[.int .i64 op, .int .i64 t, .agg #[.int .u64 a, .int .u64 b]] w (Ret (.bool true) w) := by
  have c1 := awake_c
  have c2 := fun w => Apply_c op t a b w ha hb
  have c3 := fun w => opErr_c op 7 w (by decide) (by decide)
  have c4 := fun w => threeErr_c t a b w
  by_cases hk : kindErrV op 7 = 0
  · have he : applyErrV op t a b = validV t [a, b] := by unfold applyErrV; rw [if_pos hk]
    rw [he] at c2
    rw [hk] at c3
    by_cases hv : validV t [a, b] = 0
    · obtain ⟨h0, h6⟩ := kindErr_ok hk
      obtain ⟨s, ht, hs, h1, h2⟩ := valid_s2 ha hb hv
      obtain rfl : t = tv s := ht

      obtain ⟨x, rfl⟩ := Int.eq_ofNat_of_zero_le ha.1
      obtain ⟨y, rfl⟩ := Int.eq_ofNat_of_zero_le hb.1
      have hx : x < 2 * signN s := by rw [top_sgn] at h1; exact_mod_cast h1
      have hy : y < 2 * signN s := by rw [top_sgn] at h2; exact_mod_cast h2
      have c5 := fun w => applyR_c op s x y w h1 h2 h0 (by omega)
      rw [hv] at c2 c4
      unfold orErr at c2
      rw [if_pos rfl, hs, op_eq hx hy h0 (by omega)] at c2
      generalize opR op s x y = R at *
      generalize tv s = t at *
      clear ha hb hk he hv h0 h6 hs h1 h2 hx hy
      go_enter Tryd.func3, Tryd.ntmps3
      go_upto_region 1 with (fail)
      refine hide1 w (fun W k0 s0 HE => ?_)
      go_wp2_with (first | (go_at_call 10; refine (c1 _).mono ?_; rintro e w1 ⟨rfl, hb1⟩; have HE1 := HE.call hb1) | (go_at_call 11; refine (c2 _).mono ?_; rintro e w2 ⟨rfl, hb2⟩; have HE2 := HE1.call hb2) | (go_at_call 12; refine (c3 _).mono ?_; rintro e w3 ⟨rfl, hb3⟩; have HE3 := HE2.call hb3) | (go_at_call 13; refine (c4 _).mono ?_; rintro e w4 ⟨rfl, hb4⟩; have HE4 := HE3.call hb4) | (go_at_call 14; refine (c5 _).mono ?_; rintro e w5 ⟨rfl, hb5⟩; have HE5 := HE4.call hb5))
      go_ret
      exact ⟨rfl, Ext.end HE5⟩
    · unfold orErr at c2
      rw [if_neg hv] at c2
      have b1 : (validV t [a, b] != 0) = true := by simpa using hv
      clear ha hb hk he hv
      generalize validV t [a, b] = V at *
      go_enter Tryd.func3, Tryd.ntmps3
      go_upto_region 1 with (fail)
      refine hide1 w (fun W k0 s0 HE => ?_)
      go_wp2_with (first | (go_at_call 10; refine (c1 _).mono ?_; rintro e w1 ⟨rfl, hb1⟩; have HE1 := HE.call hb1) | (go_at_call 11; refine (c2 _).mono ?_; rintro e w2 ⟨rfl, hb2⟩; have HE2 := HE1.call hb2) | (go_at_call 12; refine (c3 _).mono ?_; rintro e w3 ⟨rfl, hb3⟩; have HE3 := HE2.call hb3) | (go_at_call 13; refine (c4 _).mono ?_; rintro e w4 ⟨rfl, hb4⟩; have HE4 := HE3.call hb4))
      go_ret
      exact ⟨rfl, Ext.end HE4⟩
  · have he : applyErrV op t a b = kindErrV op 7 := by unfold applyErrV; rw [if_neg hk]
    rw [he] at c2
    unfold orErr at c2
    rw [if_neg hk] at c2
    have b1 : (kindErrV op 7 != 0) = true := by simpa using hk
    have b2 : (kindErrV op 7 == 0) = false := by simpa using hk
    clear ha hb hk he c4
    generalize kindErrV op 7 = K at *
    go_enter Tryd.func3, Tryd.ntmps3
    go_upto_region 1 with (fail)
    refine hide1 w (fun W k0 s0 HE => ?_)
    go_wp2_with (first | (go_at_call 10; refine (c1 _).mono ?_; rintro e w1 ⟨rfl, hb1⟩; have HE1 := HE.call hb1) | (go_at_call 11; refine (c2 _).mono ?_; rintro e w2 ⟨rfl, hb2⟩; have HE2 := HE1.call hb2) | (go_at_call 12; refine (c3 _).mono ?_; rintro e w3 ⟨rfl, hb3⟩; have HE3 := HE2.call hb3))
    go_ret
    exact ⟨rfl, Ext.end HE3⟩
end Go.Proofs.YtmoimcblmmcffaaDoor.NC

/-! Sums of several values, as contracts: the program's and the reference's. -/
namespace Go.Proofs.YtmoimcblmmcffaaDoor.NC
open Go.RowKit Go.Proofs.YtmoimcblmmcffaaDoor.B Go.Proofs.YtmoimcblmmcffaaDoor.N
set_option linter.unusedSimpArgs false
set_option linter.unusedVariables false

theorem addR_lt {s : Bool} {a b : Nat} (ha : a < 2 * signN s) (hb : b < 2 * signN s) : addR s a b < 2 * signN s := by
  have := res_rg s .add a b
  rw [add_eq ha hb] at this
  exact nat_rg this
theorem apply_add (s : Bool) (a b : Nat) (w : World) (ha : a < 2 * signN s) (hb : b < 2 * signN s) : Calls Tryd.prog 45 #[.int .i64 0, .int .i64 (tv s), .int .u64 (a : Int), .int .u64 (b : Int)] w (Ret (.int .u64 (addR s a b : Int)) w) := by
  have h := apply_c 0 s (a : Int) (b : Int) w (rg_nat ha).u64 (rg_nat hb).u64 (rg_nat ha).2 (rg_nat hb).2 (by decide) (by decide)
  rw [← add_eq ha hb]
  exact h
def cleanN (s : Bool) (a : Nat) : Nat := if (partsR s a).kind = 3 then nanN s else a
theorem clean_eq {s : Bool} {a : Nat} (ha : a < 2 * signN s) : cleanV s (a : Int) = (cleanN s a : Nat) := by
  unfold cleanV cleanN
  rw [told_nothing (told s a ha)]
  by_cases h : (partsR s a).kind = 3
  · rw [if_pos h, decide_eq_true h, if_pos rfl]; exact nan_eq s
  · rw [if_neg h, decide_eq_false h, if_neg (by decide)]
theorem cleanN_lt {s : Bool} {a : Nat} (ha : a < 2 * signN s) : cleanN s a < 2 * signN s := by
  unfold cleanN; split
  · cases s <;> decide
  · exact ha
/-- The sum of several values. -/
def sumL (s : Bool) : List Nat → Nat → Nat
  | [], o => o
  | a :: l, o => sumL s l (addR s o a)
def sumN (s : Bool) : List Nat → Nat
  | [] => 0
  | a :: l => sumL s l (cleanN s a)
/-- A slice's cells. -/
def SlR (w : World) (b o : Nat) (l : List Nat) : Prop := ∀ i, i < l.length → w.cell? ⟨b, o + i, none⟩ = some (.int .u64 ((l.getD i 0 : Nat) : Int))
theorem drop_cons (l : List Nat) (i : Nat) (h : i < l.length) : l.drop i = l.getD i 0 :: l.drop (i + 1) := by
  rw [List.drop_eq_getElem_cons h, List.getD_eq_getElem?_getD, List.getElem?_eq_getElem h]; rfl

set_option maxRecDepth 100000 in
set_option maxHeartbeats 4000000 in
/-- The reference's. -/
theorem sumR_c (s : Bool) (l : List Nat) (b o c : Nat) (w : World) (hl : ∀ x ∈ l, x < 2 * signN s) (hn : l.length ≤ 60) (h1 : 1 ≤ l.length) (hr : SlR w b o l) (hbw : b < w.heap.size) :
    Calls Tryd.prog 35 #[.int .i64 (tv s), .slice (some ⟨b, o, none⟩) l.length c] w (Ret (.int .u64 (sumN s l : Int)) w) := by
  cases l with
  | nil => simp at h1
  | cons a l =>
    have ha : a < 2 * signN s := hl a (List.mem_cons_self ..)
    have hlt : ∀ x ∈ l, x < 2 * signN s := fun x hx => hl x (List.mem_cons_of_mem _ hx)
    have hc0 : w.cell? ⟨b, o, none⟩ = some (.int .u64 (a : Int)) := hr 0 (by simp)
    have hrest : ∀ i, i < l.length → w.cell? ⟨b, o + (i + 1), none⟩ = some (.int .u64 ((l.getD i 0 : Nat) : Int)) := fun i hi => hr (i + 1) (by simp; omega)
    have cp := fun w => parts_c s a w (rg_nat ha).2
    have cn := nanR_c s
    rw [nan_eq] at cn
    have hF : sumN s (a :: l) = sumL s l (cleanN s a) := rfl
    obtain ⟨F, hFF⟩ : ∃ F, sumN s (a :: l) = F := ⟨_, rfl⟩
    rw [hFF]
    rw [hFF] at hF
    have hclt := cleanN_lt ha
    have hcl : ((partsR s a).kind = 3 ∧ cleanN s a = nanN s) ∨ ((partsR s a).kind ≠ 3 ∧ cleanN s a = a) := by
      unfold cleanN
      by_cases h : (partsR s a).kind = 3
      · exact .inl ⟨h, if_pos h⟩
      · exact .inr ⟨h, if_neg h⟩
    have HF := Lib.hid hF
    have HLT := Lib.hid hlt
    have HR := Lib.hid hrest
    clear hF hFF hr hl hlt hrest ha h1
    obtain ⟨p, hp⟩ : ∃ p, partsR s a = p := ⟨_, rfl⟩
    rw [hp] at cp hcl
    clear hp
    obtain ⟨pk, pn, pg, px⟩ := p
    simp only [PP.v] at cp
    simp only at hcl
    have hfd := fun w => fld0 w pk pn pg px
    have hlen : (a :: l).length = l.length + 1 := rfl
    rw [hlen] at *
    clear hlen
    have hm : l.length ≤ 59 := Nat.le_of_succ_le_succ hn
    clear hn
    have hca := fun x y w hx hy => add_c s x y w (rg_nat (s := s) (a := x) hx).2 (rg_nat (s := s) (a := y) hy).2
    have HA := Lib.hid hca
    clear hca
    rcases hcl with ⟨rfl, hq⟩ | ⟨hk, hq⟩
    · rw [hq] at HF hclt
      generalize nanN s = v at *
      go_enter Tryd.func35, Tryd.ntmps35
      go_upto_region 6 with (first | (go_at_call 19; refine (cp _).mono ?_; rintro e w1 ⟨rfl, hb1⟩) | (go_at_call 51; refine (cn _).mono ?_; rintro e w2 ⟨rfl, hb2⟩))
      have hb0 := below_call hb1 hb2
      clear hb1 hb2 cn cp hfd hc0 hq
      generalize w2 = w1 at *
      have kk : ∀ i, i < l.length → w1.cell? ⟨b, o + (i + 1), none⟩ = some (.int .u64 ((l.getD i 0 : Nat) : Int)) := fun i hi => ((bcell hb0).1 b _ hbw).trans (HR.out i hi)
      have hbw1 : b < w1.heap.size := Nat.lt_of_lt_of_le hbw hb0.size
      have KK := Lib.hid kk
      clear kk HR hbw
      have hst : Hid (sumL s (l.drop 0) v = F) := HF.out.symm
      have HC := Lib.hid hclt
      clear HF hclt
      go_wp2
      go_loopw [5, 6] (fun v5 v6 wr => ∃ k o : Nat, k ≤ l.length ∧ v5 = .int .u64 (o : Int) ∧ v6 = .int .i64 ((k : Int) + 1) ∧ o < 2 * signN s ∧ Hid (sumL s (l.drop k) o = F) ∧ Below w1.heap.size w1 wr) (fun _ v6 _ => l.length + 1 - (intOf v6).toNat)
      case atStart => exact ⟨0, v, Nat.zero_le _, rfl, rfl, HC.out, hst, Below.refl _ _⟩
      case round =>
        obtain ⟨k, q, hk, rfl, rfl, hq, hS, hb⟩ := hrel
        by_cases hlt : k < l.length
        · have hcell : wr.cell? ⟨b, o + (k + 1), none⟩ = some (.int .u64 ((l.getD k 0 : Nat) : Int)) := ((bcell hb).1 b _ hbw1).trans (KK.out k hlt)
          have hx : l.getD k 0 < 2 * signN s := by
            rw [List.getD_eq_getElem?_getD, List.getElem?_eq_getElem hlt]
            exact HLT.out _ (List.getElem_mem hlt)
          have c1 := HA.out q (l.getD k 0) wr hq hx
          have hlt2 := addR_lt hq hx
          have hs2 : Hid (sumL s (l.drop (k + 1)) (addR s q (l.getD k 0)) = F) := by
            have h := hS.out
            rw [drop_cons l k hlt] at h
            exact h
          have HQ := Lib.hid hlt2
          clear hq hx hlt2 hS
          generalize addR s q (l.getD k 0) = q2 at *
          generalize l.getD k 0 = x at *
          go_wp2_with (go_at_call 47; (with_reducible refine c1.mono ?_); rintro e w5 ⟨rfl, hb5⟩)
          go_roundw
          case rel => exact ⟨k + 1, q2, by omega, rfl, by go_num, HQ.out, hs2, below_call hb hb5⟩
          case measure => simp [intOf]; omega
        · have hS2 := hS.out
          rw [List.drop_eq_nil_of_le (by omega)] at hS2
          have hqF : q = F := hS2
          subst hqF
          clear hS hS2
          go_wp2
          go_ret
          exact ⟨rfl, below_call hb0 hb⟩
    · have f1 : (pk == 3) = false := by simpa using hk
      rw [hq] at HF hclt
      clear hq
      go_enter Tryd.func35, Tryd.ntmps35
      go_upto_region 6 with (go_at_call 19; refine (cp _).mono ?_; rintro e w1 ⟨rfl, hb0⟩)
      clear cn cp hfd hc0 f1 hk
      have kk : ∀ i, i < l.length → w1.cell? ⟨b, o + (i + 1), none⟩ = some (.int .u64 ((l.getD i 0 : Nat) : Int)) := fun i hi => ((bcell hb0).1 b _ hbw).trans (HR.out i hi)
      have hbw1 : b < w1.heap.size := Nat.lt_of_lt_of_le hbw hb0.size
      have KK := Lib.hid kk
      clear kk HR hbw
      have hst : Hid (sumL s (l.drop 0) a = F) := HF.out.symm
      have HC := Lib.hid hclt
      clear HF hclt
      go_wp2
      go_loopw [5, 6] (fun v5 v6 wr => ∃ k o : Nat, k ≤ l.length ∧ v5 = .int .u64 (o : Int) ∧ v6 = .int .i64 ((k : Int) + 1) ∧ o < 2 * signN s ∧ Hid (sumL s (l.drop k) o = F) ∧ Below w1.heap.size w1 wr) (fun _ v6 _ => l.length + 1 - (intOf v6).toNat)
      case atStart => exact ⟨0, a, Nat.zero_le _, rfl, rfl, HC.out, hst, Below.refl _ _⟩
      case round =>
        obtain ⟨k, q, hk, rfl, rfl, hq, hS, hb⟩ := hrel
        by_cases hlt : k < l.length
        · have hcell : wr.cell? ⟨b, o + (k + 1), none⟩ = some (.int .u64 ((l.getD k 0 : Nat) : Int)) := ((bcell hb).1 b _ hbw1).trans (KK.out k hlt)
          have hx : l.getD k 0 < 2 * signN s := by
            rw [List.getD_eq_getElem?_getD, List.getElem?_eq_getElem hlt]
            exact HLT.out _ (List.getElem_mem hlt)
          have c1 := HA.out q (l.getD k 0) wr hq hx
          have hlt2 := addR_lt hq hx
          have hs2 : Hid (sumL s (l.drop (k + 1)) (addR s q (l.getD k 0)) = F) := by
            have h := hS.out
            rw [drop_cons l k hlt] at h
            exact h
          have HQ := Lib.hid hlt2
          clear hq hx hlt2 hS
          generalize addR s q (l.getD k 0) = q2 at *
          generalize l.getD k 0 = x at *
          go_wp2_with (go_at_call 47; (with_reducible refine c1.mono ?_); rintro e w5 ⟨rfl, hb5⟩)
          go_roundw
          case rel => exact ⟨k + 1, q2, by omega, rfl, by go_num, HQ.out, hs2, below_call hb hb5⟩
          case measure => simp [intOf]; omega
        · have hS2 := hS.out
          rw [List.drop_eq_nil_of_le (by omega)] at hS2
          have hqF : q = F := hS2
          subst hqF
          clear hS hS2
          go_wp2
          go_ret
          exact ⟨rfl, below_call hb0 hb⟩
end Go.Proofs.YtmoimcblmmcffaaDoor.NC

/-! The program's sum of several values, as a contract. -/
namespace Go.Proofs.YtmoimcblmmcffaaDoor.NC
open Go.RowKit Go.Proofs.YtmoimcblmmcffaaDoor.B Go.Proofs.YtmoimcblmmcffaaDoor.N
set_option linter.unusedSimpArgs false
set_option linter.unusedVariables false

theorem SlR.reads {w : World} {b o : Nat} {l : List Nat} (h : SlR w b o l) : Reads w (some ⟨b, o, none⟩) (l.map fun x : Nat => (x : Int)) := by
  intro i hi
  rw [List.length_map] at hi
  refine ⟨_, rfl, ?_⟩
  rw [Go.WideShapes.add_plain]
  have := h i hi
  rw [this]
  simp [List.getD_eq_getElem?_getD, hi]
theorem bitsErr_list {s : Bool} {l : List Nat} (hl : ∀ x ∈ l, x < 2 * signN s) : bitsErrV (tv s) (l.map fun x : Nat => (x : Int)) = 0 := by
  unfold bitsErrV
  rw [if_neg]
  rintro ⟨ht, ha⟩
  have hs : s = true := by cases s <;> first | rfl | exact absurd ht (by decide)
  subst hs
  obtain ⟨x, hx, hxx⟩ := List.any_eq_true.1 ha
  obtain ⟨y, hy, rfl⟩ := List.mem_map.1 hx
  have := hl y hy
  have h2 : 2 * signN true = 4294967296 := by decide
  rw [h2] at this
  simp at hxx
  omega
theorem list_u64 {s : Bool} {l : List Nat} (hl : ∀ x ∈ l, x < 2 * signN s) : ∀ x ∈ (l.map fun x : Nat => (x : Int)), 0 ≤ x ∧ x ≤ 18446744073709551615 := by
  intro x hx
  obtain ⟨y, hy, rfl⟩ := List.mem_map.1 hx
  exact (rg_nat (hl y hy)).u64

set_option maxRecDepth 100000 in
set_option maxHeartbeats 4000000 in
theorem sumP_c (s : Bool) (l : List Nat) (b o c : Nat) (w : World) (hl : ∀ x ∈ l, x < 2 * signN s) (hn : l.length ≤ 60) (h1 : 1 ≤ l.length) (hr : SlR w b o l) (hbw : b < w.heap.size) (hcap : l.length ≤ c) :
    Calls Tryd.prog 34 #[.int .i64 (tv s), .slice (some ⟨b, o, none⟩) l.length c] w (Ret (.tuple #[.int .u64 (sumN s l : Int), .int .i64 0]) w) := by
  have ct := fun w => typeErr_c (tv s) w
  have ht0 : typeErrV (tv s) = 0 := by cases s <;> rfl
  rw [ht0] at ct
  have cb := fun w1 (hb : Below w.heap.size w w1) => bitsErr_c (tv s) (some ⟨b, o, none⟩) (l.map fun x : Nat => (x : Int)) c w1 (list_u64 hl) (by rw [List.length_map]; omega) (SlR.reads (fun i hi => ((bcell hb).1 b _ hbw).trans (hr i hi)))
  rw [List.length_map, bitsErr_list hl] at cb
  have cl := fun w => layoutOf_c (tv s) w
  rw [tv_eq] at cl
  cases l with
  | nil => simp at h1
  | cons a l =>
    have ha : a < 2 * signN s := hl a (List.mem_cons_self ..)
    have hlt : ∀ x ∈ l, x < 2 * signN s := fun x hx => hl x (List.mem_cons_of_mem _ hx)
    have hc0 : w.cell? ⟨b, o, none⟩ = some (.int .u64 (a : Int)) := hr 0 (by simp)
    have hrest : ∀ i, i < l.length → w.cell? ⟨b, o + 1 + i, none⟩ = some (.int .u64 ((l.getD i 0 : Nat) : Int)) := fun i hi => by
      have := hr (i + 1) (by simp; omega)
      rw [show o + (i + 1) = o + 1 + i by omega] at this
      exact this
    have cn := fun w => clean_c s (a : Int) w
    rw [clean_eq ha] at cn
    have hF : sumN s (a :: l) = sumL s l (cleanN s a) := rfl
    obtain ⟨F, hFF⟩ : ∃ F, sumN s (a :: l) = F := ⟨_, rfl⟩
    rw [hFF]
    rw [hFF] at hF
    have hclt := cleanN_lt ha
    have HF := Lib.hid hF
    have HLT := Lib.hid hlt
    have HR := Lib.hid hrest
    clear hF hFF hr hl hlt hrest ha h1
    have hlen : (a :: l).length = l.length + 1 := rfl
    rw [hlen] at *
    clear hlen
    have hm : l.length ≤ 59 := Nat.le_of_succ_le_succ hn
    clear hn
    have hca := fun x y w hx hy => apply_add s x y w hx hy
    have HA := Lib.hid hca
    clear hca
    generalize cleanN s a = v at *
    have hcap : l.length + 1 ≤ c := hcap
    obtain ⟨c, rfl⟩ : ∃ d, c = d + 1 := ⟨c - 1, by omega⟩
    have hcm : l.length ≤ c := Nat.le_of_succ_le_succ hcap
    clear hcap
    have hz : (((l.length : Int) + 1) == 0) = false := by simpa using (show ((l.length : Int) + 1) ≠ 0 by omega)
    go_enter Tryd.func34, Tryd.ntmps34
    go_upto_region 9 with (first | (go_at_call 54; refine (ct _).mono ?_; rintro e w1 ⟨rfl, hb1⟩) | (go_at_call 55; refine (cb _ (by assumption)).mono ?_; rintro e w2 ⟨rfl, hb2⟩))
    have hb0 := below_call hb1 hb2
    clear hb1 hb2 ct cb
    have HZ : Ext w w w2 := ⟨fun b o hb => (bcell hb0).1 b o hb, fun b o hb => (bcell hb0).2 b o hb, hb0.size, hb0⟩
    have hc2 : w2.cell? ⟨b, o, none⟩ = some (.int .u64 (a : Int)) := ((bcell hb0).1 b _ hbw).trans hc0
    have hbw2 : b < w2.heap.size := Nat.lt_of_lt_of_le hbw hb0.size
    have kk : ∀ i, i < l.length → w2.cell? ⟨b, o + 1 + i, none⟩ = some (.int .u64 ((l.getD i 0 : Nat) : Int)) := fun i hi => ((bcell hb0).1 b _ hbw).trans (HR.out i hi)
    have KK := Lib.hid kk
    have hE2 : Ext w w2 w2 := Ext.refl hb0
    clear hc0 hbw kk HR HZ
    go_region_held3 (fun w' => Ext w w2 w') (first | assumption | (with_reducible exact Ext.call (by assumption) hb1) | (with_reducible exact Ext.call (by assumption) hb3) | ((with_reducible refine Ext.drew ?_); assumption)) (first | (go_at_call 68; (with_reducible refine (cl _).mono ?_); rintro e w1 ⟨rfl, hb1⟩; have HE1 : Ext w w2 w1 := Ext.call (by assumption) hb1) | (go_at_call 69; (with_reducible refine (cn _).mono ?_); rintro e w3 ⟨rfl, hb3⟩; have HE3 : Ext w w2 w3 := Ext.call (by assumption) hb3))
    clear hb1 hb3 HE1 hE2 cl cn hc2
    have HL := HE3
    have kk : ∀ i, i < l.length → w3.cell? ⟨b, o + 1 + i, none⟩ = some (.int .u64 ((l.getD i 0 : Nat) : Int)) := fun i hi => (HE3.1 b _ hbw2).trans (KK.out i hi)
    have hbw3 : b < w3.heap.size := Nat.lt_of_lt_of_le hbw2 HE3.2.2.1
    have hB3 := HE3.2.2.2
    have KK3 := Lib.hid kk
    clear kk KK hbw2 HE3 hb0 HL ht0
    have hc00 : c = 0 ∨ 1 ≤ c := by omega
    rcases hc00 with rfl | hc1
    · have hl0 : l = [] := List.eq_nil_of_length_eq_zero (Nat.le_zero.1 hcm)
      subst hl0
      have hFv : F = v := HF.out
      subst hFv
      go_wp2
      go_loopw [8, 39] (fun v8 v39 wr => v8 = .int .u64 (F : Int) ∧ v39 = .int .i64 0 ∧ Below w3.heap.size w3 wr) (fun _ _ _ => 0)
      case atStart => exact ⟨rfl, rfl, Below.refl _ _⟩
      case round =>
        obtain ⟨rfl, rfl, hb⟩ := hrel
        go_wp2
        exact bodyPost_ret (v := .tuple #[.int .u64 (F : Int), .int .i64 0]) (by simp [results, Tryd.results34, go_sem]) rfl ⟨rfl, below_call hB3 hb⟩
    · go_wp2
      have hst : Hid (sumL s (l.drop 0) v = F) := Lib.hid HF.out.symm
      go_loopw [8, 39] (fun v8 v39 wr => ∃ k o : Nat, k ≤ l.length ∧ v8 = .int .u64 (o : Int) ∧ v39 = .int .i64 (k : Int) ∧ o < 2 * signN s ∧ Hid (sumL s (l.drop k) o = F) ∧ Below w3.heap.size w3 wr) (fun _ v39 _ => l.length - (intOf v39).toNat)
      case atStart => exact ⟨0, v, Nat.zero_le _, rfl, rfl, hclt, hst, Below.refl _ _⟩
      case round =>
        obtain ⟨k, q, hk, rfl, rfl, hq, hS, hb⟩ := hrel
        by_cases hlt : k < l.length
        · have hcell : wr.cell? ⟨b, o + 1 + k, none⟩ = some (.int .u64 ((l.getD k 0 : Nat) : Int)) := ((bcell hb).1 b _ hbw3).trans (KK3.out k hlt)
          have hx : l.getD k 0 < 2 * signN s := by
            rw [List.getD_eq_getElem?_getD, List.getElem?_eq_getElem hlt]
            exact HLT.out _ (List.getElem_mem hlt)
          have c1 := HA.out q (l.getD k 0) wr hq hx
          have hlt2 := addR_lt hq hx
          have hs2 : Hid (sumL s (l.drop (k + 1)) (addR s q (l.getD k 0)) = F) := by
            have h := hS.out
            rw [drop_cons l k hlt] at h
            exact h
          have HQ := Lib.hid hlt2
          clear hq hx hlt2 hS hst HF
          generalize addR s q (l.getD k 0) = q2 at *
          generalize l.getD k 0 = x at *
          go_wp2_with (go_at_call 45; (with_reducible refine c1.mono ?_); rintro e w5 ⟨rfl, hb5⟩)
          go_roundw
          case rel => exact ⟨k + 1, q2, by omega, rfl, by go_num, HQ.out, hs2, below_call hb hb5⟩
          case measure => simp [intOf]; omega
        · have hS2 := hS.out
          rw [List.drop_eq_nil_of_le (by omega)] at hS2
          have hqF : q = F := hS2
          subst hqF
          clear hS hS2 hst HF
          go_wp2
          exact bodyPost_ret (v := .tuple #[.int .u64 (q : Int), .int .i64 0]) (by simp [results, Tryd.results34, go_sem]) rfl ⟨rfl, below_call hB3 hb⟩
end Go.Proofs.YtmoimcblmmcffaaDoor.NC

/-! The law on sums, walked. -/
namespace Go.Proofs.YtmoimcblmmcffaaDoor.NC
open Go.RowKit Go.Proofs.YtmoimcblmmcffaaDoor.B Go.Proofs.YtmoimcblmmcffaaDoor.N
set_option linter.unusedSimpArgs false
set_option linter.unusedVariables false

/-- The error of a list. -/
def sumErrV (t : Int) (xs : List Int) : Int := if typeErrV t = 0 then (if 60 < xs.length then 8 else bitsErrV t xs) else typeErrV t

set_option maxRecDepth 100000 in
set_option maxHeartbeats 4000000 in
theorem sumBad_c (t : Int) (A : Option Addr) (xs : List Int) (c : Nat) (w : World) (hx : ∀ x ∈ xs, 0 ≤ x ∧ x ≤ 18446744073709551615) (hl : xs.length ≤ 1000) (hr : Reads w A xs) (h : sumErrV t xs ≠ 0 ∨ xs = []) :
    Calls Tryd.prog 34 #[.int .i64 t, .slice A xs.length c] w (Ret (.tuple #[.int .u64 0, .int .i64 (sumErrV t xs)]) w) := by
  have ct := fun w => typeErr_c t w
  unfold sumErrV at *
  by_cases h0 : typeErrV t = 0
  · rw [if_pos h0] at *
    rw [h0] at ct
    by_cases h1 : 60 < xs.length
    · rw [if_pos h1] at *
      clear h h0 hr hx
      generalize xs.length = n at *
      go_enter Tryd.func34, Tryd.ntmps34
      go_wp2_with (first | (go_at_call 54; refine (ct _).mono ?_; rintro e w1 ⟨rfl, hb1⟩))
      exact bodyPost_ret (v := .tuple #[.int .u64 0, .int .i64 8]) (by simp [results, Tryd.results34, go_sem]) rfl ⟨rfl, hb1⟩
    · rw [if_neg h1] at *
      have cb := fun w1 (hb : Below w.heap.size w w1) => bitsErr_c t A xs c w1 hx hl (by
        intro i hi
        obtain ⟨ad, rfl, hc⟩ := hr i hi
        exact ⟨ad, rfl, (hb.cell (World.block_lt_of_cell? w _ hc)).trans hc⟩)
      by_cases h2 : bitsErrV t xs = 0
      · have hn : xs = [] := by
          rcases h with h | h
          · exact absurd h2 h
          · exact h
        subst hn
        rw [h2] at cb ⊢
        clear h h0 hr hx h1 h2 hl
        go_enter Tryd.func34, Tryd.ntmps34
        go_wp2_with (first | (go_at_call 54; refine (ct _).mono ?_; rintro e w1 ⟨rfl, hb1⟩) | (go_at_call 55; refine (cb _ (by assumption)).mono ?_; rintro e w2 ⟨rfl, hb2⟩))
        exact bodyPost_ret (v := .tuple #[.int .u64 0, .int .i64 0]) (by simp [results, Tryd.results34, go_sem]) rfl ⟨rfl, below_call hb1 hb2⟩
      · have hq : (bitsErrV t xs != 0) = true := by simpa using h2
        clear h h0 hr hx h2
        generalize bitsErrV t xs = B at *
        have hn : xs.length ≤ 60 := by omega
        clear hl h1
        generalize xs.length = n at *
        go_enter Tryd.func34, Tryd.ntmps34
        go_wp2_with (first | (go_at_call 54; refine (ct _).mono ?_; rintro e w1 ⟨rfl, hb1⟩) | (go_at_call 55; refine (cb _ (by assumption)).mono ?_; rintro e w2 ⟨rfl, hb2⟩))
        exact bodyPost_ret (v := .tuple #[.int .u64 0, .int .i64 B]) (by simp [results, Tryd.results34, go_sem]) rfl ⟨rfl, below_call hb1 hb2⟩
  · rw [if_neg h0] at *
    have hq : (typeErrV t != 0) = true := by simpa using h0
    clear h h0 hr hx hl
    generalize typeErrV t = B at *
    generalize xs.length = n at *
    go_enter Tryd.func34, Tryd.ntmps34
    go_wp2_with (first | (go_at_call 54; refine (ct _).mono ?_; rintro e w1 ⟨rfl, hb1⟩))
    exact bodyPost_ret (v := .tuple #[.int .u64 0, .int .i64 B]) (by simp [results, Tryd.results34, go_sem]) rfl ⟨rfl, hb1⟩

theorem infoU64 : (Tryd.prog.info? 22).map (fun i => (i.zero, i.size, i.bytes)) = some (some (.int .u64 0), 1, 8) := by kernel_rfl
/-- A copy of a slice: what the law's own append brings. -/
def Copied (w w' : World) (xs : List Int) (v : Value) : Prop := ∃ A c, v = .slice A xs.length c ∧ Reads w' A xs ∧ Below w.heap.size w w' ∧ xs.length ≤ c ∧ (∀ ad, A = some ad → ad.spot = none)
theorem Reads.below {w w' : World} {A : Option Addr} {xs : List Int} (h : Reads w A xs) (hb : Below w.heap.size w w') : Reads w' A xs := by
  intro i hi
  obtain ⟨ad, rfl, hc⟩ := h i hi
  exact ⟨ad, rfl, (hb.cell (World.block_lt_of_cell? w _ hc)).trans hc⟩
/-- The error as the law's own loop knows it, at the round k. -/
def sumP (t : Int) (xs : List Int) (k : Nat) : Int := if typeErrV t = 0 then (if 60 < xs.length then 8 else bitsErrV t (xs.take k)) else typeErrV t
theorem sumP_end (t : Int) (xs : List Int) : sumP t xs xs.length = sumErrV t xs := by unfold sumP sumErrV; rw [List.take_length]
theorem sumP_stop {t : Int} {xs : List Int} {k : Nat} (h : sumP t xs k ≠ 0) : sumP t xs k = sumErrV t xs := by
  unfold sumP sumErrV at *
  by_cases h0 : typeErrV t = 0
  · rw [if_pos h0] at *
    by_cases h1 : 60 < xs.length
    · rw [if_pos h1, if_pos h0, if_pos h1]
    · rw [if_neg h1] at *
      rw [if_pos h0, if_neg h1]
      unfold bitsErrV at *
      by_cases h2 : t = 1 ∧ ((xs.take k).any fun a => decide (4294967296 ≤ a)) = true
      · rw [if_pos h2] at *
        have h3 : t = 1 ∧ (xs.any fun a => decide (4294967296 ≤ a)) = true := by
          refine ⟨h2.1, ?_⟩
          obtain ⟨x, hx, hxx⟩ := List.any_eq_true.1 h2.2
          exact List.any_eq_true.2 ⟨x, List.mem_of_mem_take hx, hxx⟩
        rw [if_pos h3]
      · rw [if_neg h2] at h; exact absurd rfl h
  · rw [if_neg h0, if_neg h0]
theorem sumP_step {t : Int} {xs : List Int} {k : Nat} (hk : k < xs.length) (h : sumP t xs k = 0) : bitsErrV t [xs.getD k 0] = sumP t xs (k + 1) := by
  unfold sumP at *
  by_cases h0 : typeErrV t = 0
  · rw [if_pos h0] at *
    by_cases h1 : 60 < xs.length
    · rw [if_pos h1] at h; exact absurd h (by decide)
    · rw [if_neg h1] at *
      have e : xs.take (k + 1) = xs.take k ++ [xs.getD k 0] := by
        rw [List.take_succ_eq_append_getElem hk, List.getD_eq_getElem?_getD, List.getElem?_eq_getElem hk]; rfl
      rw [e]
      unfold bitsErrV at *
      by_cases h2 : t = 1 ∧ ((xs.take k).any fun a => decide (4294967296 ≤ a)) = true
      · rw [if_pos h2] at h; exact absurd h (by decide)
      · by_cases ht : t = 1
        · have h3 : ((xs.take k).any fun a => decide (4294967296 ≤ a)) = false := by
            cases hq : ((xs.take k).any fun a => decide (4294967296 ≤ a))
            · rfl
            · exact absurd ⟨ht, hq⟩ h2
          rw [List.any_append, h3, Bool.false_or]
        · rw [if_neg (fun h => ht h.1), if_neg (fun h => ht h.1)]
  · rw [if_neg h0] at h; exact absurd h h0

theorem own_reads {w : World} {base e : Nat} {v : Value} {xs : List Int} {n : Nat} (h : w.ownsRow base e 1 v n ([] ++ xs.map (Value.int .u64))) (hn : 1 ≤ n) :
    ∃ g cap, v = .slice (some ⟨g, 0, none⟩) n cap ∧ base ≤ g ∧ n ≤ cap ∧ Reads w (some ⟨g, 0, none⟩) xs := by
  obtain ⟨hlen, h⟩ := h
  rcases h with ⟨-, h0⟩ | ⟨g, cap, cur, hv, hb, hg, hc, -, -, ht⟩
  · omega
  · refine ⟨g, cap, hv, hb, hc, fun i hi => ⟨_, rfl, ?_⟩⟩
    rw [List.nil_append, List.length_map, Nat.mul_one] at hlen
    rw [Go.WideShapes.add_plain, cell_of_row _ _ _ cur _ _ hg, Nat.zero_add]
    rw [List.nil_append, Nat.mul_one] at ht
    have h1 : (cur.toList.take n)[i]? = (xs.map (Value.int .u64))[i]? := by rw [ht]
    rw [List.getElem?_take_of_lt (by omega)] at h1
    rw [Array.getElem?_toList] at h1
    rw [h1, List.getElem?_map, List.getD_eq_getElem?_getD, List.getElem?_eq_getElem hi]
    rfl

set_option maxRecDepth 100000 in
set_option maxHeartbeats 4000000 in
theorem law_sums_some (t : Int) (ad : Addr) (xs : List Int) (c : Nat) (w : World) (V : Int) (hV : sumErrV t xs ≠ 0 → V = 0) (hF : sumErrV t xs = 0 → ∀ w', Below w.heap.size w w' → Calls Tryd.prog 35 #[.int .i64 t, .slice (some ad) xs.length c] w' (Ret (.int .u64 V) w')) (hx : ∀ x ∈ xs, 0 ≤ x ∧ x ≤ 18446744073709551615) (hl : xs.length ≤ 62) (h1 : 1 ≤ xs.length) (hr : Reads w (some ad) xs)
    (hS : ∀ (A : Option Addr) (c : Nat) (w : World), Reads w A xs → xs.length ≤ c → (∀ ad, A = some ad → ad.spot = none) → Calls Tryd.prog 34 #[.int .i64 t, .slice A xs.length c] w (Ret (.tuple #[.int .u64 V, .int .i64 (sumErrV t xs)]) w)) :
    Calls Tryd.prog 7 #[.int .i64 t, .slice (some ad) xs.length c] w (Ret (.bool true) w) := by
  have c1 := awake_c
  have c2 := fun w => typeErrR_c t w
  obtain ⟨i0, hi, hz0, hz1, hz2⟩ := info_parts infoU64
  have HX := Lib.hid hx
  have HR := Lib.hid hr
  have HS := Lib.hid hS
  have HF := Lib.hid hF
  have HV := Lib.hid hV
  clear hx hr hS hF hV
  generalize hn : xs.length = n at *
  have HN := Lib.hid hn
  clear hn
  go_enter Tryd.func7, Tryd.ntmps7
  go_wp2_with (first | (go_at_call 10; refine (c1 _).mono ?_; rintro e w1 ⟨rfl, hb1⟩) | (at_builtin; go_loud (refine wpList_append_grows _ rfl (.tmp 16) (.tmp 17) 52 rfl 22 i0 (.int .u64 0) 1 8 Tryd.underlying52 hi hz0 hz1 hz2 rfl (by decide) _ 0 0 [] rfl (fun _ => ⟨rfl, rfl⟩) rfl (by intro _ _ _ _ h; simp at h) ad n c (xs.map (Value.int .u64)) rfl ?c0 ?c1 ?c2 (by omega) (by unfold maxLen; omega) (by omega) ?grow)))
  case c0 => have := HN.out; simp; omega
  case c1 =>
    intro j u hj
    obtain ⟨x, hx, rfl⟩ : ∃ x, xs[j]? = some x ∧ .int .u64 x = u := by simpa using hj
    have hjl : j < xs.length := (List.getElem?_eq_some_iff.1 hx).1
    obtain ⟨ad', e', hc⟩ := HR.out j hjl
    obtain rfl : ad = ad' := Option.some.inj e'
    rw [List.getD_eq_getElem?_getD, hx] at hc
    have hlt := World.block_lt_of_cell? w _ hc
    exact ((below_alloc0 hb1 _).cell hlt).trans hc
  case c2 => intro u hu; obtain ⟨x, hx, rfl⟩ := List.mem_map.1 hu; rfl
  case grow =>
    intro v' w' hown hgrow
    obtain ⟨g, cap, rfl, hg, hcap, hR⟩ := own_reads hown h1
    have hb2 : Below w.heap.size w w' := (below_alloc0 hb1 _).grown hgrow (by have := hb1.size; simp; omega) (fun k h => by cases h)
    have c3 := HS.out _ cap w' hR hcap (fun ad h => by cases h; rfl)
    clear hown hgrow hcap hg hz0 hz1 hz2 hi hb1 hR
    go_upto_region 6 with (first | (go_at_call 34; refine c3.mono ?_; rintro e w3 ⟨rfl, hb3⟩))
    have hb4 := below_call hb2 hb3
    clear hb2 hb3 c3 HS c1
    generalize w3 = w4 at *
    have hP0 := Lib.hid (show sumP t xs 0 = (if typeErrV t = 0 then (if 60 < n then 8 else 0) else typeErrV t) by
      unfold sumP
      rw [HN.out, List.take_zero]
      have : bitsErrV t [] = 0 := by unfold bitsErrV; rw [if_neg (by simp)]
      rw [this])
    have HP := Lib.hid (show ∀ k, k ≤ n → sumP t xs k = 0 → k < n → bitsErrV t [xs.getD k 0] = sumP t xs (k + 1) from fun k hk h hlt => sumP_step (by rw [HN.out]; exact hlt) h)
    have HQ := Lib.hid (show ∀ k, sumP t xs k ≠ 0 → sumP t xs k = sumErrV t xs from fun k h => sumP_stop h)
    have HE := Lib.hid (show sumP t xs n = sumErrV t xs by have := sumP_end t xs; rw [HN.out] at this; exact this)
    generalize sumErrV t xs = E at *
    obtain ⟨P, hP⟩ : ∃ P, sumP t xs = P := ⟨_, rfl⟩
    rw [hP] at hP0 HP HQ HE
    clear hP
    have hc : (typeErrV t = 0 ∧ n ≤ 60 ∧ Hid (P 0 = 0)) ∨ (typeErrV t = 0 ∧ 60 < n ∧ Hid (P 0 = 8)) ∨ ((typeErrV t == 0) = false ∧ Hid (P 0 = typeErrV t)) := by
      have := hP0.out
      by_cases h0 : typeErrV t = 0
      · rw [if_pos h0] at this
        by_cases h60 : 60 < n
        · rw [if_pos h60] at this; exact .inr (.inl ⟨h0, h60, Lib.hid this⟩)
        · rw [if_neg h60] at this; exact .inl ⟨h0, by omega, Lib.hid this⟩
      · rw [if_neg h0] at this; exact .inr (.inr ⟨by simpa using h0, Lib.hid this⟩)
    clear hP0
    generalize typeErrV t = T at *
    rcases hc with ⟨rfl, h60, hS⟩ | ⟨rfl, h60, hS⟩ | ⟨hT, hS⟩
    · go_upto_region 9 with (go_at_call 16; refine (c2 _).mono ?_; rintro e w5 ⟨rfl, hb5⟩)
      have hb6 := below_call hb4 hb5
      clear hb4 hb5 c2
      go_wp2
      go_loopw [7, 8] (fun v7 v8 wr => ∃ k : Nat, k ≤ n ∧ v7 = .int .i64 (P k) ∧ v8 = .int .i64 (k : Int) ∧ Below w.heap.size w wr) (fun _ v8 _ => n - (intOf v8).toNat)
      case atStart => exact ⟨0, Nat.zero_le _, by rw [hS.out], rfl, hb6⟩
      case round =>
        obtain ⟨k, hk, rfl, rfl, hb⟩ := hrel
        clear hS
        by_cases hlt : k < n
        · by_cases hp : P k = 0
          · have hs := HP.out k hk hp hlt
            have hRd := HR.out k (by rw [HN.out]; exact hlt)
            obtain ⟨ad', e', hc⟩ := hRd
            obtain rfl : ad = ad' := Option.some.inj e'
            have hcell : wr.cell? (ad.add k) = _ := (hb.cell (World.block_lt_of_cell? w _ hc)).trans hc
            clear hc e' HP HQ HE
            have c4 := fun w => bitsErrR_c t (xs.getD k 0) w
            rw [hs] at c4
            clear hs
            rw [hp]
            generalize xs.getD k 0 = x at *
            have hpk := Lib.hid hp
            clear hp
            generalize hq1 : P (k + 1) = q at *
            have hq2 := Lib.hid hq1
            clear hq1
            go_wp2_with (go_at_call 17; refine (c4 _).mono ?_; rintro e w7 ⟨rfl, hb7⟩)
            go_roundw
            case rel => exact ⟨k + 1, by omega, by rw [hq2.out], by go_num, below_call hb hb7⟩
            case measure => simp [intOf]; omega
          · have hE := HQ.out k hp
            rw [hE] at hp ⊢
            have hpe : (E == 0) = false := by simpa using hp
            have hV0 : V = 0 := HV.out hp
            subst hV0
            have hpn : (E != 0) = true := by simpa using hp
            clear hE HP HQ HE HF HV
            go_wp2
            go_ret
            exact ⟨rfl, hb⟩
        · have hE : P k = E := by
            have : k = n := by omega
            rw [this]; exact HE.out
          rw [hE]
          by_cases hp : E = 0
          · have c5 := HF.out hp wr hb
            subst hp
            clear hE HP HQ HE HF HV
            go_wp2_with (go_at_call 35; (with_reducible refine c5.mono ?_); rintro e w7 ⟨rfl, hb7⟩)
            go_ret
            exact ⟨by simp, below_call hb hb7⟩
          · have hV0 : V = 0 := HV.out hp
            have hpn : (E != 0) = true := by simpa using hp
            subst hV0
            clear hE HP HQ HE HF HV
            go_wp2
            go_ret
            exact ⟨rfl, hb⟩
    · have hE : E = 8 := (HQ.out 0 (by rw [hS.out]; decide)).symm.trans hS.out
      subst hE
      have hV0 : V = 0 := HV.out (by decide)
      subst hV0
      clear hS HP HQ HE HF HV
      go_upto_region 9 with (go_at_call 16; refine (c2 _).mono ?_; rintro e w5 ⟨rfl, hb5⟩)
      have hb6 := below_call hb4 hb5
      clear hb4 hb5 c2
      go_wp2
      go_loopw [7, 8] (fun v7 v8 wr => v7 = .int .i64 8 ∧ v8 = .int .i64 0 ∧ Below w.heap.size w wr) (fun _ v8 _ => n - (intOf v8).toNat)
      case atStart => exact ⟨rfl, rfl, hb6⟩
      case round =>
        obtain ⟨rfl, rfl, hb⟩ := hrel
        go_wp2
        go_ret
        exact ⟨rfl, hb⟩
    · have hT0 : T ≠ 0 := by simpa using hT
      have hE : E = T := (HQ.out 0 (by rw [hS.out]; exact hT0)).symm.trans hS.out
      subst hE
      have hV0 : V = 0 := HV.out hT0
      subst hV0
      have hpn : (E != 0) = true := by simpa using hT0
      clear hS HP HQ HE HF HV hT0
      go_upto_region 9 with (go_at_call 16; refine (c2 _).mono ?_; rintro e w5 ⟨rfl, hb5⟩)
      have hb6 := below_call hb4 hb5
      clear hb4 hb5 c2
      go_wp2
      go_loopw [7, 8] (fun v7 v8 wr => v7 = .int .i64 E ∧ v8 = .int .i64 0 ∧ Below w.heap.size w wr) (fun _ v8 _ => n - (intOf v8).toNat)
      case atStart => exact ⟨rfl, rfl, hb6⟩
      case round =>
        obtain ⟨rfl, rfl, hb⟩ := hrel
        go_wp2
        go_ret
        exact ⟨rfl, hb⟩
end Go.Proofs.YtmoimcblmmcffaaDoor.NC

/-! The law on sums: lists that are empty or too long, and all. -/
namespace Go.Proofs.YtmoimcblmmcffaaDoor.NC
open Go.RowKit Go.Proofs.YtmoimcblmmcffaaDoor.B Go.Proofs.YtmoimcblmmcffaaDoor.N
set_option linter.unusedSimpArgs false
set_option linter.unusedVariables false

set_option maxRecDepth 100000 in
set_option maxHeartbeats 4000000 in
theorem law_sums_long (t : Int) (A : Option Addr) (n c : Nat) (w : World) (hn : 62 < n) (hn2 : n ≤ 9223372036854775807) :
    Calls Tryd.prog 7 #[.int .i64 t, .slice A n c] w (Ret (.bool true) w) := by
  have c1 := awake_c
  go_enter Tryd.func7, Tryd.ntmps7
  go_wp2_with (first | (go_at_call 10; refine (c1 _).mono ?_; rintro e w1 ⟨rfl, hb1⟩))
  go_ret
  exact ⟨rfl, hb1⟩

theorem sumR_empty (s : Bool) (A : Option Addr) (c : Nat) (w : World) : Calls Tryd.prog 35 #[.int .i64 (tv s), .slice A 0 c] w (Ret (.int .u64 0) w) := by
  have cz := fun w => zeroR_c s false w
  have h0 : bitsR s ⟨0, false, 0, 0⟩ = 0 := by cases s <;> rfl
  rw [h0] at cz
  go_enter Tryd.func35, Tryd.ntmps35
  go_wp2_with (first | (go_at_call 76; refine (cz _).mono ?_; rintro e w1 ⟨rfl, hb1⟩))
  go_ret
  exact ⟨rfl, hb1⟩

set_option maxRecDepth 100000 in
set_option maxHeartbeats 4000000 in
theorem law_sums_empty (t : Int) (A : Option Addr) (c : Nat) (w : World) :
    Calls Tryd.prog 7 #[.int .i64 t, .slice A 0 c] w (Ret (.bool true) w) := by
  have c1 := awake_c
  have c2 := fun w => typeErrR_c t w
  have c3 := fun A c w => sumBad_c t A [] c w (fun _ h => by cases h) (by decide) (fun i h => by simp at h) (.inr rfl)
  obtain ⟨i0, hi, hz0, hz1, hz2⟩ := info_parts infoU64
  have hE : sumErrV t [] = typeErrV t := by
    unfold sumErrV
    by_cases h : typeErrV t = 0
    · rw [if_pos h, h, if_neg (by simp)]; unfold bitsErrV; rw [if_neg (by simp)]
    · rw [if_neg h]
  rw [hE] at c3
  clear hE hi hz0 hz1 hz2
  rw [List.length_nil] at c3
  by_cases h0 : typeErrV t = 0
  · have ht : ∃ s, t = tv s := by
      unfold typeErrV at h0
      by_cases h1 : t = 1
      · exact ⟨true, h1⟩
      · rw [if_neg h1] at h0
        by_cases h2 : t = 2
        · exact ⟨false, h2⟩
        · rw [if_neg h2] at h0; exact absurd h0 (by decide)
    obtain ⟨s, rfl⟩ := ht
    have c4 := fun A c w => sumR_empty s A c w
    rw [h0] at c2 c3
    generalize tv s = t at *
    cases A with
    | none =>
      go_enter Tryd.func7, Tryd.ntmps7
      go_wp2_with (first | (go_at_call 10; refine (c1 _).mono ?_; rintro e w1 ⟨rfl, hb1⟩) | (go_at_call 34; refine (c3 _ _ _).mono ?_; rintro e w2 ⟨rfl, hb2⟩; have hb3 := below_call (below_alloc0 hb1 _) hb2) | (go_at_call 16; refine (c2 _).mono ?_; rintro e w4 ⟨rfl, hb4⟩; have hb5 := below_call hb3 hb4))
      go_loopw [7, 8] (fun v7 v8 wr => v7 = .int .i64 0 ∧ v8 = .int .i64 0 ∧ Below w.heap.size w wr) (fun _ _ _ => 0)
      case atStart => exact ⟨rfl, rfl, hb5⟩
      case round =>
        obtain ⟨rfl, rfl, hb⟩ := hrel
        go_wp2_with (go_at_call 35; (with_reducible refine (c4 _ _ _).mono ?_); rintro e w7 ⟨rfl, hb7⟩)
        go_ret
        exact ⟨rfl, below_call hb hb7⟩
    | some ad =>
      go_enter Tryd.func7, Tryd.ntmps7
      go_wp2_with (first | (go_at_call 10; refine (c1 _).mono ?_; rintro e w1 ⟨rfl, hb1⟩) | (go_at_call 34; refine (c3 _ _ _).mono ?_; rintro e w2 ⟨rfl, hb2⟩; have hb3 := below_call (below_alloc0 hb1 _) hb2) | (go_at_call 16; refine (c2 _).mono ?_; rintro e w4 ⟨rfl, hb4⟩; have hb5 := below_call hb3 hb4))
      go_loopw [7, 8] (fun v7 v8 wr => v7 = .int .i64 0 ∧ v8 = .int .i64 0 ∧ Below w.heap.size w wr) (fun _ _ _ => 0)
      case atStart => exact ⟨rfl, rfl, hb5⟩
      case round =>
        obtain ⟨rfl, rfl, hb⟩ := hrel
        go_wp2_with (go_at_call 35; (with_reducible refine (c4 _ _ _).mono ?_); rintro e w7 ⟨rfl, hb7⟩)
        go_ret
        exact ⟨rfl, below_call hb hb7⟩
  · have hT : (typeErrV t == 0) = false := by simpa using h0
    have hT2 : (typeErrV t != 0) = true := by simpa using h0
    generalize typeErrV t = T at *
    cases A with
    | none =>
      go_enter Tryd.func7, Tryd.ntmps7
      go_wp2_with (first | (go_at_call 10; refine (c1 _).mono ?_; rintro e w1 ⟨rfl, hb1⟩) | (go_at_call 34; refine (c3 _ _ _).mono ?_; rintro e w2 ⟨rfl, hb2⟩; have hb3 := below_call (below_alloc0 hb1 _) hb2) | (go_at_call 16; refine (c2 _).mono ?_; rintro e w4 ⟨rfl, hb4⟩; have hb5 := below_call hb3 hb4))
      go_loopw [7, 8] (fun v7 v8 wr => v7 = .int .i64 T ∧ v8 = .int .i64 0 ∧ Below w.heap.size w wr) (fun _ _ _ => 0)
      case atStart => exact ⟨rfl, rfl, hb5⟩
      case round =>
        obtain ⟨rfl, rfl, hb⟩ := hrel
        go_wp2
        go_ret
        exact ⟨rfl, hb⟩
    | some ad =>
      go_enter Tryd.func7, Tryd.ntmps7
      go_wp2_with (first | (go_at_call 10; refine (c1 _).mono ?_; rintro e w1 ⟨rfl, hb1⟩) | (go_at_call 34; refine (c3 _ _ _).mono ?_; rintro e w2 ⟨rfl, hb2⟩; have hb3 := below_call (below_alloc0 hb1 _) hb2) | (go_at_call 16; refine (c2 _).mono ?_; rintro e w4 ⟨rfl, hb4⟩; have hb5 := below_call hb3 hb4))
      go_loopw [7, 8] (fun v7 v8 wr => v7 = .int .i64 T ∧ v8 = .int .i64 0 ∧ Below w.heap.size w wr) (fun _ _ _ => 0)
      case atStart => exact ⟨rfl, rfl, hb5⟩
      case round =>
        obtain ⟨rfl, rfl, hb⟩ := hrel
        go_wp2
        go_ret
        exact ⟨rfl, hb⟩

theorem reads_slr {w : World} {ad : Addr} {l : List Nat} (h : Reads w (some ad) (l.map fun x : Nat => (x : Int))) (h1 : 1 ≤ l.length) : ∃ b o, ad = ⟨b, o, none⟩ ∧ SlR w b o l ∧ b < w.heap.size := by
  have h0 := h 0 (by rw [List.length_map]; exact h1)
  obtain ⟨ad', e', hc⟩ := h0
  obtain rfl : ad = ad' := Option.some.inj e'
  obtain ⟨b, o, spot⟩ := ad
  have hsp : spot = none := by simpa [Addr.add] using World.cell?_spot hc
  subst hsp
  refine ⟨b, o, rfl, fun i hi => ?_, World.block_lt_of_cell? w _ hc⟩
  obtain ⟨ad', e', hc⟩ := h i (by rw [List.length_map]; exact hi)
  obtain rfl := Option.some.inj e'
  rw [Go.WideShapes.add_plain] at hc
  rw [hc]
  simp [List.getD_eq_getElem?_getD, hi]
theorem sumErr_ok {t : Int} {xs : List Int} (hx : ∀ x ∈ xs, 0 ≤ x ∧ x ≤ 18446744073709551615) (h : sumErrV t xs = 0) :
    ∃ (s : Bool) (l : List Nat), t = tv s ∧ xs = l.map (fun x : Nat => (x : Int)) ∧ (∀ x ∈ l, x < 2 * signN s) ∧ l.length ≤ 60 := by
  unfold sumErrV at h
  have h0 : typeErrV t = 0 := by
    by_cases h0 : typeErrV t = 0
    · exact h0
    · rw [if_neg h0] at h; exact h
  rw [if_pos h0] at h
  have h60 : ¬ 60 < xs.length := by
    intro h6; rw [if_pos h6] at h; exact absurd h (by decide)
  rw [if_neg h60] at h
  have hmap : xs = (xs.map Int.toNat).map (fun x : Nat => (x : Int)) := by
    rw [List.map_map]
    refine (List.map_id' xs).symm.trans (List.map_congr_left fun x hxx => ?_)
    have := hx x hxx
    show x = ((x.toNat : Nat) : Int)
    omega
  have ht : ∃ s, t = tv s := by
    unfold typeErrV at h0
    by_cases h1 : t = 1
    · exact ⟨true, h1⟩
    · rw [if_neg h1] at h0
      by_cases h2 : t = 2
      · exact ⟨false, h2⟩
      · rw [if_neg h2] at h0; exact absurd h0 (by decide)
  obtain ⟨s, rfl⟩ := ht
  refine ⟨s, xs.map Int.toNat, rfl, hmap, fun y hy => ?_, by rw [List.length_map]; omega⟩
  obtain ⟨x, hxx, rfl⟩ := List.mem_map.1 hy
  have hb := hx x hxx
  cases s
  · have : 2 * signN false = 18446744073709551616 := by decide
    rw [this]; omega
  · have h2 : 2 * signN true = 4294967296 := by decide
    rw [h2]
    unfold bitsErrV at h
    by_cases hq : tv true = 1 ∧ (xs.any fun a => decide (4294967296 ≤ a)) = true
    · rw [if_pos hq] at h; exact absurd h (by decide)
    · have : ¬ 4294967296 ≤ x := fun hc => hq ⟨rfl, List.any_eq_true.2 ⟨x, hxx, by simpa using hc⟩⟩
      omega

theorem law_sums (t : Int) (A : Option Addr) (xs : List Int) (c : Nat) (w : World) (hx : ∀ x ∈ xs, 0 ≤ x ∧ x ≤ 18446744073709551615) (hn : xs.length ≤ 9223372036854775807) (hr : Reads w A xs) :
    Calls Tryd.prog 7 #[.int .i64 t, .slice A xs.length c] w (Ret (.bool true) w) := by
  by_cases h62 : 62 < xs.length
  · exact law_sums_long t A _ c w h62 hn
  · by_cases h0 : xs = []
    · subst h0
      exact law_sums_empty t A c w
    · have h1 : 1 ≤ xs.length := by
        cases xs with
        | nil => exact absurd rfl h0
        | cons a l => simp
      obtain ⟨ad, rfl, -⟩ := hr 0 h1
      by_cases hE : sumErrV t xs = 0
      · obtain ⟨s, l, rfl, rfl, hl, h60⟩ := sumErr_ok hx hE
        have h1' : 1 ≤ l.length := by rw [List.length_map] at h1; exact h1
        refine law_sums_some (tv s) ad _ c w (sumN s l : Int) (fun h => absurd hE h) (fun _ w' hb => ?_) hx (by omega) h1 hr (fun A c w hR hcap hsp => ?_)
        · obtain ⟨b, o, rfl, hS, hlt⟩ := reads_slr (w := w') (ad := ad) (Reads.below hr hb) h1'
          rw [List.length_map]
          exact sumR_c s l b o c w' hl h60 h1' hS hlt
        · obtain ⟨ad, rfl, -⟩ := hR 0 h1
          obtain ⟨b, o, rfl, hS, hlt⟩ := reads_slr hR h1'
          rw [List.length_map] at hcap ⊢
          rw [hE]
          exact sumP_c s l b o c w hl h60 h1' hS hlt hcap
      · exact law_sums_some t ad xs c w 0 (fun _ => rfl) (fun h => absurd h hE) hx (by omega) h1 hr (fun A c w hR hcap hsp => sumBad_c t A xs c w hx (by omega) hR (.inl hE))
end Go.Proofs.YtmoimcblmmcffaaDoor.NC

/-! PROVED: formularylaw08.RealsSums returns true for every input, and leaves its arguments as they were: the sum of a list is as specified, or the error. CONDITIONS: the row's own: math/bits.deBruijn64tab holds at the start what the program's text lays (tied by the card); nothing else. -/
namespace Go.Proofs.YtmoimcblmmcffaaDoor.Law
open Go.ChangeShapes Go.WideShapes Go.ChangeAt Go.RowKit

set_option maxRecDepth 100000 in
theorem realsSums_contract (H : Type) (enc : TypeId × Value → H) (W : World) (base : Nat) (args : Array Value) (ds gs : List (DataW H)) (before : List MemPlace)
    (hval : ∀ (j : Nat) t v, Tryd.f7.params[j]? = some t → args[j]? = some v → Value.okWide Tryd.prog W .any base t v)
    (hW : DataW.Whole enc Tryd.prog Tryd.f7.params.toList Rows.realsSumsSpec.vars false W args.toList ds gs before) :
    Calls Tryd.prog 7 args W fun e W' => ∃ v, e = .returned v ∧ Rows.realsSumsSpec.post enc Tryd.prog Tryd.f7 false true false false W args v W' := by
  have hW' := hW
  obtain ⟨p, q, hA0, hV, rfl, hfz, hnd⟩ := hW
  have hA : DataW.TrodAll enc Tryd.prog W 0 (fun _ => true) true Tryd.f7.params.toList args.toList ds p := hA0
  rw [Tryd.params7] at hA hval
  obtain ⟨v0, vs0, d0, ds0, p0, q0, hargs, rfl, rfl, h0, r0⟩ := trodAll_cons hA
  obtain ⟨v1, vs1, d1, ds1, p1, q1, rfl, rfl, rfl, h1, r1⟩ := trodAll_cons r0
  obtain ⟨rfl, rfl, rfl⟩ := trodAll_nil r1
  obtain rfl : args = #[v0, v1] := by cases args; simp_all
  obtain ⟨rfl, rfl⟩ := trodVars_none hV
  obtain ⟨z0, rfl, rfl, rfl, w0⟩ := open_int Tryd.underlying3 (hval 0 3 v0 rfl rfl) h0
  obtain ⟨a0, len, cap, rfl⟩ := okWide_slice Tryd.underlying52 (hval 1 52 v1 rfl rfl)
  have h1k := h1
  obtain ⟨fuel1, hf⟩ := h1
  clear hA0 hA
  simp only [List.append_nil, List.nil_append] at hW'
  have hlt : ∀ x ∈ p1, x.block < W.heap.size := fun x hx => hW'.lt x (by simp [hx])
  have hargs : ∀ (W' : World), Below W.heap.size W W' → DataW.Trod enc Tryd.prog W' 0 (fun b => decide (b < W.heap.size)) true 52 (.slice a0 len cap) d1 p1 :=
    fun W' hn => Below.trod (by kernel_rfl) (by kernel_rfl) (of_decide_eq_true (by kernel_rfl)) h1k hn hlt
  have hrd : ∃ xs : List Int, len = xs.length ∧ xs.length ≤ 9223372036854775807 ∧ (∀ x ∈ xs, 0 ≤ x ∧ x ≤ 18446744073709551615) ∧ B.Reads W a0 xs := by
    rcases open_ints Tryd.underlying52 Tryd.underlying22 (show Tryd.prog.cellsOf 22 = 1 by kernel_rfl) hf with ⟨hcs, hx⟩ | ⟨a, len', cap', zs, hcs, _, hl, hm, hz, hx, hcell, hwz⟩
    · simp [Value.cells] at hcs
      obtain ⟨rfl, rfl, rfl⟩ := hcs
      exact ⟨[], rfl, by decide, (fun x hx => by cases hx), (fun i hi => by simp at hi)⟩
    · simp [Value.cells] at hcs
      obtain ⟨rfl, rfl, rfl⟩ := hcs
      have hlz : len ≤ zs.length := by rw [hz]; split <;> omega
      refine ⟨zs.take len, by rw [List.length_take]; omega, by rw [List.length_take]; simp only [maxLen] at hm; omega, fun x hx => u64_wf (hwz x (List.mem_of_mem_take hx)), fun i hi => ⟨a, rfl, ?_⟩⟩
      rw [List.length_take] at hi
      rw [hcell i (by omega)]
      simp [List.getD, show i < len by omega]
  obtain ⟨xs, rfl, hxl, hxr, hrd⟩ := hrd
  refine (NC.law_sums z0 a0 xs cap W hxr hxl hrd).mono fun e W' ⟨he, hg⟩ => ?_
  subst he
  exact ⟨_, rfl, _, _, _, [], _, [], hW', trodAll_mk1 (shut_bool Tryd.underlying4 _), (trodAll_cons_mk (shut_int Tryd.underlying3 w0) (trodAll_cons_mk (hargs _ hg) trodAll_mk0)), rfl, hg.frame _, fun h => by cases h⟩

theorem realsSums_met (os : Os) : laidMet Tryd.prog Rows.realsSumsRow.laid ((laidWorld os).forCall (fun _ _ => 0) ⟨#[], #[Value.int .i64 0, .slice none 0 0], []⟩).memory :=
  laidMet_of_run' 8 (by kernel_rfl) (by kernel_rfl)
theorem realsSums_reads (os : Os) {H : Type} (enc : TypeId × Value → H) : ∃ places, DataW.whole enc Tryd.prog ((laidWorld os).forCall (fun _ _ => 0) ⟨#[], #[Value.int .i64 0, .slice none 0 0], []⟩).memory Tryd.f7.params.toList Rows.realsSumsSpec.vars false (#[Value.int .i64 0, .slice none 0 0] : Array Value).toList 8 = some ([.lit (.int .i64 0), .nil], [], places) :=
  ⟨[], by kernel_rfl⟩
set_option maxRecDepth 100000 in
theorem realsSums_lifted (os : Os) (started : os.Started) (H : Type) (enc : TypeId × Value → H) (F : Stop.Interp) :
    ReturnsInHanded {} Tryd.checked os 7 .any ((OpenSpec.ofChange Rows.realsSumsSpec).preRow enc Tryd.prog Tryd.f7 Rows.realsSumsRow.domain false Rows.realsSumsRow.laid) (((OpenSpec.ofChange Rows.realsSumsSpec).at F).post enc Tryd.prog Tryd.f7 false true false false) := by
  obtain ⟨places, hx⟩ := realsSums_reads os enc
  refine returnsInHanded_of_row (C := Tryd.checked) (s := OpenSpec.ofChange Rows.realsSumsSpec) own started (by kernel_rfl) Tryd.func7
    (witness_row_at (enc := enc) (C := Tryd.checked) false (laidWorld os) #[Value.int .i64 0, .slice none 0 0] rfl (by kernel_rfl) (by kernel_rfl) (by kernel_rfl)
      (OpenSpec.preRow_of_cond 8 hx (by kernel_rfl) (fun k hk => by cases hk) (by kernel_rfl) (realsSums_met os))) ?_
  intro W base args ds gs before hval hW _ _ _ hL _ _
  exact realsSums_contract H enc W base args ds gs before hval hW
theorem realsSums_said : Rows.RealsSumsSaid :=
  OpenClaim.holds_of_cond 7 Tryd.f7 rfl rfl rfl rfl rfl rfl rfl ⟨rfl, rfl, rfl, rfl, rfl⟩ rfl rfl rfl rfl rfl (by kernel_rfl) Tryd.func7 (by kernel_rfl)
    (of_decide_eq_true (by kernel_rfl)) (by unfold Func.isWrapper; first | (rw [if_pos (by decide +kernel)]; kernel_rfl) | (rw [if_neg (by decide +kernel)]; exact ⟨rfl, rfl⟩))
    (fun os started H enc _ F => by rw [OpenClaim.pre_eq_preRow]; exact realsSums_lifted os started H enc F)
theorem realsSums_plain (f : FuncId) (fn : Func) (hf : Tryd.pinned.checked.prog.funcNamed "formulary/formularylaw08.RealsSums" = some f) (hfn : Tryd.pinned.checked.prog.funcs[f]? = some fn) :
    false = Tryd.pinned.checked.prog.looks [] ∧ ∀ (j : Nat) t, fn.params[j]? = some t → Tryd.pinned.checked.prog.wantsStandIn t = false := by
  obtain rfl : f = 7 := Option.some.inj ((show Tryd.prog.funcNamed "formulary/formularylaw08.RealsSums" = some 7 by kernel_rfl).symm.trans hf) |>.symm
  obtain rfl : fn = Tryd.f7 := (Option.some.inj (Tryd.func7.symm.trans hfn)).symm
  refine ⟨by kernel_rfl, fun j t ht => ?_⟩
  rw [Tryd.params7] at ht
  have hm := Array.mem_of_getElem? ht
  simp at hm
  rcases hm with rfl | rfl
  · exact (show Tryd.prog.wantsStandIn 3 = false by kernel_rfl)
  · exact (show Tryd.prog.wantsStandIn 52 = false by kernel_rfl)
theorem realsSums_card : Rows.RealsSumsCardSaid :=
  Claim7.holds_tied_plain_at .later [] _ _ _ _ realsSums_said (fun _ h => by cases h) (by kernel_rfl) (fun _ h => by cases h) realsSums_row_tie rfl ⟨rfl, rfl⟩ (by kernel_rfl) rfl realsSums_plain (by kernel_rfl)
end Go.Proofs.YtmoimcblmmcffaaDoor.Law
