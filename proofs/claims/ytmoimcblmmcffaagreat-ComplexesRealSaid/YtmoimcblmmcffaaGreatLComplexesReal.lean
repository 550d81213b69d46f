/- PROVED: formularylaw10.ComplexesReal returns true for every input, and leaves its arguments as they were: sums, differences and products of finite values without imaginary parts are those of chapter 8, but for the signs of zeros; the power to 1 is the value, to 2 its product with itself, likewise; the power to 0 is (1, 0). CONDITIONS: the row's own; nothing else. -/
import Derived.Test.YtmoimcblmmcffaaGreatQComplexesRealK
import Derived.Test.YtmoimcblmmcffaaGreatQComplexesRealL
import Derived.Test.YtmoimcblmmcffaaGreatRows
import Derived.WalkKit
import Derived.ProofKit
import Derived.OpenShut
import Derived.ShutString
import Derived.ChangeOld
import Derived.Below
import Derived.SizedLaws
import Derived.Lib.SmallJoins

namespace Go.Proofs.YtmoimcblmmcffaaGreat.B
open Go.RowKit NC N PPC PRA PLR Go.Proofs.YtmoimcblmmcffaaGreatW.PrintWords
set_option linter.unusedSimpArgs false
set_option linter.unusedVariables false
theorem equal_f {s : Bool} {x y : Nat} (hx : x < 2 * signN s) (hy : y < 2 * signN s) (h : Eqv s x y) : l10_equal.f (tv s) (x : Int) (y : Int) = some true := by
 unfold l10_equal.f
 by_cases e : (x : Int) = (y : Int)
 ·rw [if_pos e]
 ·rw [if_neg e, rcmp hx hy, Option.bind_some]
  rcases h.equal with k | k
  ·exact absurd (by rw [k]) e
  ·rw [k]; rfl
theorem near_f {s : Bool} {p q : Nat × Nat} {S S' : ByteArray} (hp : okP s p) (hq : okP s q) (h : nearP s p q) : l10_near.f (ct s) (p.1 : Int) (p.2 : Int) S (ct s) (q.1 : Int) (q.2 : Int) S' = some true := by
 unfold l10_near.f
 rw [rpart, Option.bind_some, if_pos rfl, equal_f hp.1 hq.1 h.1, Option.bind_some, if_pos rfl, equal_f hp.2 hq.2 h.2, Option.bind_some]
theorem isnum_f {s : Bool} {x : Nat} (hx : x < 2 * signN s) : r8_IsNumber.f (tv s) (x : Int) = some (isNumR s x) := by
 unfold r8_IsNumber.f
 rw [if_pos (okW_nat hx), tv_eq]; rfl
theorem parts_f {s : Bool} {x : Nat} (hx : x < 2 * signN s) : ∃ a b c, r8_Parts.f (tv s) (x : Int) = some ((partsR s x).kind, a, b, c) := by
 unfold r8_Parts.f
 rw [if_pos (okW_nat hx), tv_eq]
 exact ⟨_, _, _, rfl⟩
theorem rop_f {op : Int} {s : Bool} {x y : Nat} (h0 : 0 ≤ op) (h6 : op ≤ 6) (hx : x < 2 * signN s) (hy : y < 2 * signN s) : r8_Apply.f op (tv s) (x : Int) (y : Int) = some ((opR op s x y : Nat) : Int) := by
 unfold r8_Apply.f
 rw [decide_eq_true h0, decide_eq_true h6, if_pos (by decide)]
 exact on2_tv hx hy
theorem from_f (s : Bool) : r8_FromInteger.f (tv s) 1 = some ((fromR s 1 : Nat) : Int) := by cases s <;> rfl
section
variable {s : Bool} {x y u v : Nat} {S S' : ByteArray} (hS : S.toList = []) (hx : x < 2 * signN s) (hy : y < 2 * signN s) (hu : u < 2 * signN s) (nx : isNumR s x = true) (ny : isNumR s y = true) (nu : isNumR s u = true)
include hS hx hy hu nx ny nu
theorem real_end (k : Nat) (hpw : ∀ n : Nat, n ≤ 2147483647 → cx_PowerOf.f k (ct s) (x : Int) (y : Int) S (n : Int) = some (ct s, ((powC s n (x, y) 32 (fromR s 1, 0)).1 : Int), ((powC s n (x, y) 32 (fromR s 1, 0)).2 : Int), NB, 0)) : l10_ComplexesReal.l0 (k + 1) (tv s) [0, 1, 2] [0, 1, 2] 3 (ct s) (x : Int) (y : Int) S (ct s) (u : Int) (v : Int) S' = some true := by
 obtain ⟨n1, q1, m1, e1, k1⟩ := num_of hx nx
 obtain ⟨n2, q2, m2, e2, k2⟩ := num_of hy ny
 have hp : okP s (x, y) := ⟨hx, hy⟩
 have h1 : okP s (fromR s 1, 0) := ⟨fromR_lt s 1, by cases s <;> decide⟩
 have hF : okP s (timesP s (fromR s 1, 0) (x, y)) := timesP_ok h1 hp
 have nF := one_near k1 k2
 have nG := times_near k1 k2 nF
 have w0 := hpw 0 (by decide)
 have w1 := hpw 1 (by decide)
 have w2 := hpw 2 (by decide)
 rw [pow_zero] at w0
 rw [pow_one] at w1
 rw [pow_two] at w2
 have w3 := val_mul hS hS hp hp
 dsimp only at w0 w1 w2 w3
 simp only [l10_ComplexesReal.l0]
 rw [if_neg (by decide)]
 rw [show ((0 : Nat) : Int) = 0 from rfl] at w0
 rw [show ((1 : Nat) : Int) = 1 from rfl] at w1
 rw [show ((2 : Nat) : Int) = 2 from rfl] at w2
 rw [w0, Option.bind_some, w1, Option.bind_some, w2, Option.bind_some, w3, Option.bind_some]
 dsimp only
 rw [if_pos rfl, from_f, Option.bind_some]
 unfold r10_Made.f
 rw [Option.bind_some]
 dsimp only
 rw [if_pos (by simp), if_pos rfl, near_f hF hp nF, Option.bind_some, if_pos rfl, if_pos rfl, if_pos rfl, near_f (timesP_ok hF hF) (timesP_ok hp hp) nG, Option.bind_some]
omit hS in
theorem real_round (k : Nat) (i : Int) (h : i = 0 ∨ i = 1 ∨ i = 2) : l10_ComplexesReal.l0 (k + 1) (tv s) [0, 1, 2] [0, 1, 2] i (ct s) (x : Int) (y : Int) S (ct s) (u : Int) (v : Int) S' = l10_ComplexesReal.l0 k (tv s) [0, 1, 2] [0, 1, 2] (i + 1) (ct s) (x : Int) (y : Int) S (ct s) (u : Int) (v : Int) S' := by
 obtain ⟨n1, q1, m1, e1, k1⟩ := num_of hx nx
 obtain ⟨n3, q3, m3, e3, k3⟩ := num_of hu nu
 have h0 : (0 : Nat) < 2 * signN s := by cases s <;> decide
 have hp : okP s (x, 0) := ⟨hx, h0⟩
 have hq : okP s (u, 0) := ⟨hu, h0⟩
 have z0 : ((0 : Nat) : Int) = 0 := rfl
 have key : ∀ (r : Nat × Nat), okP s r → rd [0, 1, 2] i = i → cx_Apply.f i (ct s) (x : Int) 0 NB (ct s) (u : Int) 0 NB = some (ct s, (r.1 : Int), (r.2 : Int), NB, 0) → Eqv s r.1 (opR i s x u) → opR i s x u < 2 * signN s → (partsR s r.2).kind = 0 → l10_ComplexesReal.l0 (k + 1) (tv s) [0, 1, 2] [0, 1, 2] i (ct s) (x : Int) (y : Int) S (ct s) (u : Int) (v : Int) S' = l10_ComplexesReal.l0 k (tv s) [0, 1, 2] [0, 1, 2] (i + 1) (ct s) (x : Int) (y : Int) S (ct s) (u : Int) (v : Int) S' := by
  intro r hr hrd hA hE hl hk
  obtain ⟨a, b, c, hP⟩ := parts_f hr.2
  simp only [l10_ComplexesReal.l0]
  rw [if_pos (show i < 3 by omega), if_pos (show 0 ≤ i by omega), if_pos (show i < (([0, 1, 2] : List Int).length : Int) by show i < 3; omega)]
  unfold r10_Made.f
  rw [Option.bind_some, Option.bind_some]
  dsimp only
  rw [hrd, hA, Option.bind_some]
  dsimp only
  rw [if_pos rfl, if_pos (show i < (([0, 1, 2] : List Int).length : Int) by show i < 3; omega), rop_f (by omega) (by omega) hx hu, Option.bind_some, equal_f hr.1 hl hE, Option.bind_some, if_pos rfl, if_pos rfl, hP, Option.bind_some]
  dsimp only
  rw [if_pos hk, show wrap64 (i + 1) = i + 1 from by unfold wrap64; omega]
 have o0 : opR 0 s x u = addR s x u := by unfold opR; rw [if_pos rfl]
 have o1 : opR 1 s x u = subR s x u := by unfold opR; rw [if_neg (by decide), if_pos rfl]
 have o2 : opR 2 s x u = mulR s x u := by unfold opR; rw [if_neg (by decide), if_neg (by decide), if_pos rfl]
 rcases h with rfl | rfl | rfl
 ·have hA := val_add nb_text nb_text hp hq
  exact key (plusP s (x, 0) (u, 0)) ⟨addR_lt hx hu, addR_lt h0 h0⟩ rfl hA (by rw [o0]; exact .refl _ _) (by rw [o0]; exact addR_lt hx hu) (real_zero s).1
 ·have hA := val_sub nb_text nb_text hp hq
  exact key (minusP s (x, 0) (u, 0)) ⟨subR_lt hx hu, subR_lt h0 h0⟩ rfl hA (by rw [o1]; exact .refl _ _) (by rw [o1]; exact subR_lt hx hu) (real_zero s).2
 ·have hA := val_mul nb_text nb_text hp hq
  obtain ⟨g1, g2⟩ := real_mul k1 k3
  exact key (timesP s (x, 0) (u, 0)) (timesP_ok hp hq) rfl hA (by rw [o2]; exact g1) (by rw [o2]; exact mulR_lt hx hu) g2
theorem real_main : l10_ComplexesReal.j0 47 (tv s) false (ct s) (x : Int) (y : Int) S (ct s) (u : Int) (v : Int) S' = some true := by
 simp only [l10_ComplexesReal.j0]
 rw [if_neg (by decide), real_round hx hy hu nx ny nu 45 0 (.inl rfl), show (0 : Int) + 1 = 1 from rfl, real_round hx hy hu nx ny nu 44 1 (.inr (.inl rfl)), show (1 : Int) + 1 = 2 from rfl, real_round hx hy hu nx ny nu 43 2 (.inr (.inr rfl))]
 exact real_end hS hx hy hu nx ny nu 42 (fun n hn => val_pow (p := (x, y)) hS ⟨hx, hy⟩ hn)
end
theorem real_f {t a b t' a' b' : Int} {S S' : ByteArray} (ha : U64 a) (hb : U64 b) (ha' : U64 a') (hb' : U64 b') : l10_ComplexesReal.f 47 t a b S t' a' b' S' = some true := by
 have hj : ∀ p a b c d e f g h, l10_ComplexesReal.j0 47 p true a b c d e f g h = some true := fun p a b c d e f g h => by simp only [l10_ComplexesReal.j0, if_true]
 unfold l10_ComplexesReal.f
 rw [show l10_awake.f = some true from rfl, Option.bind_some, if_pos rfl, twoErr_f S S' ha hb ha' hb', Option.bind_some]
 by_cases hv : twoV t a b S t' a' b' S' = 0
 ·obtain ⟨s, x, y, u, v, rfl, rfl, rfl, rfl, rfl, rfl, hx, hy, hu, hv', hS, hS'⟩ := two_ok ha hb ha' hb' hv
  rw [if_pos hv, rpart, Option.bind_some, isnum_f hx, Option.bind_some]
  by_cases nx : isNumR s x = true
  ·rw [if_pos nx, isnum_f hy, Option.bind_some]
   by_cases ny : isNumR s y = true
   ·rw [if_pos ny, isnum_f hu, Option.bind_some]
    by_cases nu : isNumR s u = true
    ·rw [nu]; exact real_main hS hx hy hu nx ny nu
    ·rw [Bool.eq_false_iff.2 nu]; exact hj _ _ _ _ _ _ _ _ _
   ·rw [if_neg ny]; exact hj _ _ _ _ _ _ _ _ _
  ·rw [if_neg nx]; exact hj _ _ _ _ _ _ _ _ _
 ·rw [if_neg hv]
theorem law_real (t a b : Int) (S : ByteArray) (t' a' b' : Int) (S' : ByteArray) (w : World) (ha : U64 a) (hb : U64 b) (ha' : U64 a') (hb' : U64 b') :
  Calls Tryz.prog 4 #[.agg #[.int .i64 t, .int .u64 a, .int .u64 b, .string S], .agg #[.int .i64 t', .int .u64 a', .int .u64 b', .string S']] w (Ret (.bool true) w) :=
 l10_ComplexesReal.calls 47 t a b S t' a' b' S' w (real_f ha hb ha' hb')
end Go.Proofs.YtmoimcblmmcffaaGreat.B

namespace Go.Proofs.YtmoimcblmmcffaaGreat.Law
open Go.ChangeShapes Go.WideShapes Go.ChangeAt Go.RowKit
open Go.ChangeMaps (open_string shut_string)
set_option linter.unusedVariables false
theorem own : ownKnob Tryz.prog.godebug = none := by kernel_rfl
theorem u64_wf {a : Int} (h : (Lit.int .u64 a).wf = true) : 0 ≤ a ∧ a ≤ 18446744073709551615 := by
 have h' : (decide (0 ≤ a) && decide (a ≤ 18446744073709551615)) = true := h
 simpa using h'
theorem value_cells : Tryz.prog.cellsOf 24 = 4 := by kernel_rfl
set_option maxRecDepth 100000 in
theorem complexesReal_lifted (os : Os) (started : os.Started) (H : Type) (enc : TypeId × Value → H) :
  ReturnsInHanded {} Tryz.checked os 4 .any (Rows.complexesRealSpec.pre6 enc Tryz.prog Tryz.f4 Rows.complexesRealRow.domain false) (Rows.complexesRealSpec.post enc Tryz.prog Tryz.f4 false true false false) := by
 refine returnsInHanded_of_change_sized (C := Tryz.checked) own started (by kernel_rfl) Tryz.func4
  (ChangeSpec.witness6 (enc := enc) (C := Tryz.checked) false ⟨#[], #[.agg #[.int .i64 0, .int .u64 0, .int .u64 0, .string ByteArray.empty], .agg #[.int .i64 0, .int .u64 0, .int .u64 0, .string ByteArray.empty]], []⟩ 8 (by kernel_rfl) (by kernel_rfl) (by kernel_rfl) (by kernel_rfl)) ?_
 intro W base args ds gs before hval0 hW hcnd hsz0 _
 have hval : ∀ (j : Nat) t v, Tryz.f4.params[j]? = some t → args[j]? = some v → Value.okWide Tryz.prog W .any base t v := hval0
 have hW' := hW
 obtain ⟨p, q, hA0, hV, rfl, hfz, hnd⟩ := hW
 have hA : DataW.TrodAll enc Tryz.prog W 0 (fun _ => true) true Tryz.f4.params.toList args.toList ds p := hA0
 rw [Tryz.params4] at hA hval
 obtain ⟨v0, vs0, d0, ds0, p0, q0, hargs, rfl, rfl, h0, r0⟩ := trodAll_cons hA
 obtain ⟨v1, vs1, d1, ds1, p1, q1, rfl, rfl, rfl, h1, r1⟩ := trodAll_cons r0
 obtain ⟨rfl, rfl, rfl⟩ := trodAll_nil r1
 obtain rfl : args = #[v0, v1] := by cases args; simp_all
 obtain ⟨rfl, rfl⟩ := trodVars_none hV
 obtain ⟨c00, c01, c02, c03, y00, y01, y02, y03, m0, rfl, rfl, rfl, g00, g01, g02, g03⟩ := Joins.open_agg4 Tryz.underlying24 (by kernel_rfl) value_cells (hval 0 24 v0 rfl rfl) h0
 obtain ⟨t0, e00, rfl, u00⟩ := DataW.trod_int Tryz.underlying3 g00
 obtain ⟨a0, e01, rfl, u01⟩ := DataW.trod_int Tryz.underlying22 g01
 obtain ⟨b0, e02, rfl, u02⟩ := DataW.trod_int Tryz.underlying22 g02
 obtain ⟨s0, e03, rfl, u03⟩ := DataW.trod_string Tryz.underlying9 g03
 simp at e00 e01 e02 e03
 subst e00 e01 e02 e03
 have reads0 : ∀ (W' : World) (sp : Nat → Bool), DataW.Trod enc Tryz.prog W' 0 sp true 24 (.agg #[.int .i64 t0, .int .u64 a0, .int .u64 b0, .string s0]) (.agg [.lit (.int .i64 t0), .lit (.int .u64 a0), .lit (.int .u64 b0), .lit (.string s0.data.toList)]) [] := fun W' sp =>
  Joins.shut_agg4 (y0 := (.lit (.int .i64 t0), [])) (y1 := (.lit (.int .u64 a0), [])) (y2 := (.lit (.int .u64 b0), [])) (y3 := (.lit (.string s0.data.toList), [])) Tryz.underlying24 (by kernel_rfl) value_cells ⟨1, by simp [DataW.trod, Tryz.underlying3, u00]⟩ ⟨1, by simp [DataW.trod, Tryz.underlying22, u01]⟩ ⟨1, by simp [DataW.trod, Tryz.underlying22, u02]⟩ ⟨1, by simp [DataW.trod, Tryz.underlying9, u03]⟩
 obtain ⟨c10, c11, c12, c13, y10, y11, y12, y13, m1, rfl, rfl, rfl, g10, g11, g12, g13⟩ := Joins.open_agg4 Tryz.underlying24 (by kernel_rfl) value_cells (hval 1 24 v1 rfl rfl) h1
 obtain ⟨t1, e10, rfl, u10⟩ := DataW.trod_int Tryz.underlying3 g10
 obtain ⟨a1, e11, rfl, u11⟩ := DataW.trod_int Tryz.underlying22 g11
 obtain ⟨b1, e12, rfl, u12⟩ := DataW.trod_int Tryz.underlying22 g12
 obtain ⟨s1, e13, rfl, u13⟩ := DataW.trod_string Tryz.underlying9 g13
 simp at e10 e11 e12 e13
 subst e10 e11 e12 e13
 have reads1 : ∀ (W' : World) (sp : Nat → Bool), DataW.Trod enc Tryz.prog W' 0 sp true 24 (.agg #[.int .i64 t1, .int .u64 a1, .int .u64 b1, .string s1]) (.agg [.lit (.int .i64 t1), .lit (.int .u64 a1), .lit (.int .u64 b1), .lit (.string s1.data.toList)]) [] := fun W' sp =>
  Joins.shut_agg4 (y0 := (.lit (.int .i64 t1), [])) (y1 := (.lit (.int .u64 a1), [])) (y2 := (.lit (.int .u64 b1), [])) (y3 := (.lit (.string s1.data.toList), [])) Tryz.underlying24 (by kernel_rfl) value_cells ⟨1, by simp [DataW.trod, Tryz.underlying3, u10]⟩ ⟨1, by simp [DataW.trod, Tryz.underlying22, u11]⟩ ⟨1, by simp [DataW.trod, Tryz.underlying22, u12]⟩ ⟨1, by simp [DataW.trod, Tryz.underlying9, u13]⟩
 clear hA0 hval0 hsz0
 simp only [List.append_nil] at hW'
 refine (B.law_real t0 a0 b0 s0 t1 a1 b1 s1 W (u64_wf u01) (u64_wf u02) (u64_wf u11) (u64_wf u12)).mono fun e W' ⟨he, bel⟩ => ?_
 subst he
 exact ⟨_, rfl, _, _, _, [], [], [], hW', trodAll_mk1 (shut_bool Tryz.underlying4 _), (trodAll_cons_mk (reads0 _ _) (trodAll_cons_mk (reads1 _ _) trodAll_mk0)), rfl, bel.frame _, fun h => by cases h⟩
theorem complexesReal_over : Rows.complexesRealRow.holds Tryz.pinned (OpenSpec.ofChange Rows.complexesRealSpec) :=
 OpenClaim.holds_of_wide 4 Tryz.f4 rfl rfl rfl rfl rfl rfl rfl ⟨rfl, rfl, rfl, rfl, rfl⟩ rfl rfl rfl rfl rfl (by kernel_rfl) Tryz.func4 (by kernel_rfl)
  (of_decide_eq_true (by kernel_rfl)) (by unfold Func.isWrapper; first | (rw [if_pos (by decide +kernel)]; kernel_rfl) | (rw [if_neg (by decide +kernel)]; exact ⟨rfl, rfl⟩))
  (fun os started H enc _ => complexesReal_lifted os started H enc)
theorem complexesReal_holds : Rows.ComplexesRealSaid := complexesReal_over
end Go.Proofs.YtmoimcblmmcffaaGreat.Law
