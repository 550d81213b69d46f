/- PROVED: formularylaw10.ComplexesSymmetries returns true for every input, and leaves its arguments as they were: sums and products are commutative to the bit; the conjugate of a sum and a product is that of the conjugates, but for the signs of zeros; the size is that of the conjugate, and of the parts exchanged. CONDITIONS: the row's own; nothing else. -/
import Derived.Test.YtmoimcblmmcffaaGreatQComplexesSymmetriesK
import Derived.Test.YtmoimcblmmcffaaGreatQComplexesSymmetriesL
import Derived.Test.YtmoimcblmmcffaaGreatRows
import Derived.WalkKit
import Derived.ProofKit
import Derived.OpenShut
import Derived.ShutString
import Derived.ChangeOld
import Derived.Below
import Derived.SizedLaws
import Derived.Lib.SmallJoins

namespace Go.Proofs.YtmoimcblmmcffaaGreat.B
open Go.RowKit NC N PPC PRA PLY Go.Proofs.YtmoimcblmmcffaaGreatW.PrintWords
set_option linter.unusedSimpArgs false
set_option linter.unusedVariables false
theorem equal_f {s : Bool} {x y : Nat} (hx : x < 2 * signN s) (hy : y < 2 * signN s) (h : Eqv s x y) : l10_equal.f (tv s) (x : Int) (y : Int) = some true := by
 unfold l10_equal.f
 by_cases e : (x : Int) = (y : Int)
 ·rw [if_pos e]
 ·rw [if_neg e, rcmp hx hy, Option.bind_some]
  rcases h.equal with k | k
  ·exact absurd (by rw [k]) e
  ·rw [k]; rfl
theorem near_f {s : Bool} {p q : Nat × Nat} {S S' : ByteArray} (hp : okP s p) (hq : okP s q) (h : nearP s p q) : l10_near.f (ct s) (p.1 : Int) (p.2 : Int) S (ct s) (q.1 : Int) (q.2 : Int) S' = some true := by
 unfold l10_near.f
 rw [rpart, Option.bind_some, if_pos rfl, equal_f hp.1 hq.1 h.1, Option.bind_some, if_pos rfl, equal_f hp.2 hq.2 h.2, Option.bind_some]
theorem parts_f {s : Bool} {x : Nat} (hx : x < 2 * signN s) : ∃ a b c, r8_Parts.f (tv s) (x : Int) = some ((partsR s x).kind, a, b, c) := by
 unfold r8_Parts.f
 rw [if_pos (okW_nat hx), tv_eq]
 exact ⟨_, _, _, rfl⟩
theorem conjP_ok {s : Bool} {p : Nat × Nat} (hp : okP s p) : okP s (conjP s p) := ⟨hp.1, negR_lt _⟩
theorem plusP_ok {s : Bool} {p q : Nat × Nat} (hp : okP s p) (hq : okP s q) : okP s (plusP s p q) := ⟨addR_lt hp.1 hq.1, addR_lt hp.2 hq.2⟩
section
variable {s : Bool} {p q : Nat × Nat} {S S' : ByteArray} (hS : S.toList = []) (hS' : S'.toList = []) (hp : okP s p) (hq : okP s q)
include hS hS' hp hq
omit hS' hq in
theorem sym_end (k : Nat) (hsz : ∀ (r : Nat × Nat) (R : ByteArray), R.toList = [] → okP s r → cx_SizeOf.f k (ct s) (r.1 : Int) (r.2 : Int) R = some (tv s, ((distR s r.1 r.2 : Nat) : Int), 0, NB, 0)) : l10_ComplexesSymmetries.l0 (k + 1) [0, 2] 2 (ct s) (p.1 : Int) (p.2 : Int) S (ct s) (q.1 : Int) (q.2 : Int) S' (ct s) ((conjP s p).1 : Int) ((conjP s p).2 : Int) NB (ct s) ((conjP s q).1 : Int) ((conjP s q).2 : Int) NB = some true := by
 have hc := conjP_ok hp
 have w0 := val_conj nb_text hc
 have w1 := hsz p S hS hp
 have w2 := hsz _ NB nb_text hc
 have w3 := hsz (p.2, p.1) NB nb_text ⟨hp.2, hp.1⟩
 obtain ⟨a, b, c, hP⟩ := parts_f hp.2
 have d1 : distR s (conjP s p).1 (conjP s p).2 = distR s p.1 p.2 := dist_conj hp.2
 have d2 : distR s p.2 p.1 = distR s p.1 p.2 := dist_comm hp.2 hp.1
 rw [d1] at w2
 dsimp only at w3
 rw [d2] at w3
 generalize distR s p.1 p.2 = D at *
 simp only [l10_ComplexesSymmetries.l0]
 rw [if_neg (by decide), w0, Option.bind_some, w1, Option.bind_some, w2, Option.bind_some]
 unfold r10_Made.f
 rw [Option.bind_some]
 dsimp only
 rw [w3, Option.bind_some, rpart, Option.bind_some, hP, Option.bind_some]
 dsimp only
 have e1 : (conjP s (conjP s p)).1 = p.1 := rfl
 have e2 : (conjP s (conjP s p)).2 = negR s (negR s p.2) := rfl
 rw [e1, e2, if_pos rfl, hS, nb_text]
 rcases conj_conj (s := s) hp.2 with hk | hk
 ·rw [hk]
  simp
 ·rw [hk]
  simp
theorem sym_round (k : Nat) (i : Int) (h : i = 0 ∨ i = 1) : l10_ComplexesSymmetries.l0 (k + 1) [0, 2] i (ct s) (p.1 : Int) (p.2 : Int) S (ct s) (q.1 : Int) (q.2 : Int) S' (ct s) ((conjP s p).1 : Int) ((conjP s p).2 : Int) NB (ct s) ((conjP s q).1 : Int) ((conjP s q).2 : Int) NB = l10_ComplexesSymmetries.l0 k [0, 2] (i + 1) (ct s) (p.1 : Int) (p.2 : Int) S (ct s) (q.1 : Int) (q.2 : Int) S' (ct s) ((conjP s p).1 : Int) ((conjP s p).2 : Int) NB (ct s) ((conjP s q).1 : Int) ((conjP s q).2 : Int) NB := by
 have hc := conjP_ok hp
 have hd := conjP_ok hq
 have key : ∀ (o : Int) (r r' : Nat × Nat), okP s r → okP s r' → rd [0, 2] i = o → cx_Apply.f o (ct s) (p.1 : Int) (p.2 : Int) S (ct s) (q.1 : Int) (q.2 : Int) S' = some (ct s, (r.1 : Int), (r.2 : Int), NB, 0) → cx_Apply.f o (ct s) (q.1 : Int) (q.2 : Int) S' (ct s) (p.1 : Int) (p.2 : Int) S = some (ct s, (r.1 : Int), (r.2 : Int), NB, 0) → cx_Apply.f o (ct s) ((conjP s p).1 : Int) ((conjP s p).2 : Int) NB (ct s) ((conjP s q).1 : Int) ((conjP s q).2 : Int) NB = some (ct s, (r'.1 : Int), (r'.2 : Int), NB, 0) → nearP s r' (conjP s r) → l10_ComplexesSymmetries.l0 (k + 1) [0, 2] i (ct s) (p.1 : Int) (p.2 : Int) S (ct s) (q.1 : Int) (q.2 : Int) S' (ct s) ((conjP s p).1 : Int) ((conjP s p).2 : Int) NB (ct s) ((conjP s q).1 : Int) ((conjP s q).2 : Int) NB = l10_ComplexesSymmetries.l0 k [0, 2] (i + 1) (ct s) (p.1 : Int) (p.2 : Int) S (ct s) (q.1 : Int) (q.2 : Int) S' (ct s) ((conjP s p).1 : Int) ((conjP s p).2 : Int) NB (ct s) ((conjP s q).1 : Int) ((conjP s q).2 : Int) NB := by
  intro o r r' hr hr' hrd h1 h2 h3 hn
  have w0 := val_conj nb_text hr
  have w1 := near_f (S := NB) (S' := NB) hr' (conjP_ok hr) hn
  simp only [l10_ComplexesSymmetries.l0]
  rw [if_pos (show i < 2 by omega), if_pos (show 0 ≤ i by omega), if_pos (show i < (([0, 2] : List Int).length : Int) by show i < 2; omega)]
  rw [hrd, h1, Option.bind_some, h2, Option.bind_some, h3, Option.bind_some]
  dsimp only
  rw [w0, Option.bind_some]
  dsimp only
  rw [if_pos rfl, if_pos rfl, if_neg (by simp), if_pos rfl, if_pos rfl, w1, Option.bind_some, if_pos rfl, show wrap64 (i + 1) = i + 1 from by unfold wrap64; omega]
 rcases h with rfl | rfl
 ·have g1 := val_add hS hS' hp hq
  have g2 := val_add hS' hS hq hp
  rw [← plus_comm hp hq] at g2
  exact key 0 (plusP s p q) (plusP s (conjP s p) (conjP s q)) (plusP_ok hp hq) (plusP_ok hc hd) rfl g1 g2 (val_add nb_text nb_text hc hd) (conj_plus hp hq)
 ·have g1 := val_mul hS hS' hp hq
  have g2 := val_mul hS' hS hq hp
  rw [← times_comm hp hq] at g2
  exact key 2 (timesP s p q) (timesP s (conjP s p) (conjP s q)) (timesP_ok hp hq) (timesP_ok hc hd) rfl g1 g2 (val_mul nb_text nb_text hc hd) (conj_times hp hq)
theorem sym_main : l10_ComplexesSymmetries.j0 16 false (ct s) (p.1 : Int) (p.2 : Int) S (ct s) (q.1 : Int) (q.2 : Int) S' (ct s) ((conjP s p).1 : Int) ((conjP s p).2 : Int) NB (ct s) ((conjP s q).1 : Int) ((conjP s q).2 : Int) NB = some true := by
 simp only [l10_ComplexesSymmetries.j0]
 rw [if_neg (by decide), sym_round hS hS' hp hq 14 0 (.inl rfl), show (0 : Int) + 1 = 1 from rfl, sym_round hS hS' hp hq 13 1 (.inr rfl)]
 exact sym_end hS hp 12 (fun r R hR hr => val_size hR hr 10)
end
theorem sym_f {t a b t' a' b' : Int} {S S' : ByteArray} (ha : U64 a) (hb : U64 b) (ha' : U64 a') (hb' : U64 b') : l10_ComplexesSymmetries.f 16 t a b S t' a' b' S' = some true := by
 unfold l10_ComplexesSymmetries.f
 rw [show l10_awake.f = some true from rfl, Option.bind_some, if_pos rfl, twoErr_f S S' ha hb ha' hb', Option.bind_some]
 by_cases hv : twoV t a b S t' a' b' S' = 0
 ·obtain ⟨s, x, y, u, v, rfl, rfl, rfl, rfl, rfl, rfl, hx, hy, hu, hv', hS, hS'⟩ := two_ok ha hb ha' hb' hv
  have hp : okP s (x, y) := ⟨hx, hy⟩
  have hq : okP s (u, v) := ⟨hu, hv'⟩
  have w0 := val_conj hS hp
  have w1 := val_conj hS' hq
  dsimp only at w0 w1
  rw [if_pos hv, w0, Option.bind_some, w1, Option.bind_some]
  dsimp only
  rw [if_pos rfl]
  exact sym_main hS hS' hp hq
 ·rw [if_neg hv]
theorem law_symm (t a b : Int) (S : ByteArray) (t' a' b' : Int) (S' : ByteArray) (w : World) (ha : U64 a) (hb : U64 b) (ha' : U64 a') (hb' : U64 b') :
  Calls Tryz.prog 5 #[.agg #[.int .i64 t, .int .u64 a, .int .u64 b, .string S], .agg #[.int .i64 t', .int .u64 a', .int .u64 b', .string S']] w (Ret (.bool true) w) :=
 l10_ComplexesSymmetries.calls 16 t a b S t' a' b' S' w (sym_f ha hb ha' hb')
end Go.Proofs.YtmoimcblmmcffaaGreat.B

namespace Go.Proofs.YtmoimcblmmcffaaGreat.Law
open Go.ChangeShapes Go.WideShapes Go.ChangeAt Go.RowKit
open Go.ChangeMaps (open_string shut_string)
set_option linter.unusedVariables false
theorem own : ownKnob Tryz.prog.godebug = none := by kernel_rfl
theorem u64_wf {a : Int} (h : (Lit.int .u64 a).wf = true) : 0 ≤ a ∧ a ≤ 18446744073709551615 := by
 have h' : (decide (0 ≤ a) && decide (a ≤ 18446744073709551615)) = true := h
 simpa using h'
theorem value_cells : Tryz.prog.cellsOf 24 = 4 := by kernel_rfl
set_option maxRecDepth 100000 in
theorem complexesSymmetries_lifted (os : Os) (started : os.Started) (H : Type) (enc : TypeId × Value → H) :
  ReturnsInHanded {} Tryz.checked os 5 .any (Rows.complexesSymmetriesSpec.pre6 enc Tryz.prog Tryz.f5 Rows.complexesSymmetriesRow.domain false) (Rows.complexesSymmetriesSpec.post enc Tryz.prog Tryz.f5 false true false false) := by
 refine returnsInHanded_of_change_sized (C := Tryz.checked) own started (by kernel_rfl) Tryz.func5
  (ChangeSpec.witness6 (enc := enc) (C := Tryz.checked) false ⟨#[], #[.agg #[.int .i64 0, .int .u64 0, .int .u64 0, .string ByteArray.empty], .agg #[.int .i64 0, .int .u64 0, .int .u64 0, .string ByteArray.empty]], []⟩ 8 (by kernel_rfl) (by kernel_rfl) (by kernel_rfl) (by kernel_rfl)) ?_
 intro W base args ds gs before hval0 hW hcnd hsz0 _
 have hval : ∀ (j : Nat) t v, Tryz.f5.params[j]? = some t → args[j]? = some v → Value.okWide Tryz.prog W .any base t v := hval0
 have hW' := hW
 obtain ⟨p, q, hA0, hV, rfl, hfz, hnd⟩ := hW
 have hA : DataW.TrodAll enc Tryz.prog W 0 (fun _ => true) true Tryz.f5.params.toList args.toList ds p := hA0
 rw [Tryz.params5] at hA hval
 obtain ⟨v0, vs0, d0, ds0, p0, q0, hargs, rfl, rfl, h0, r0⟩ := trodAll_cons hA
 obtain ⟨v1, vs1, d1, ds1, p1, q1, rfl, rfl, rfl, h1, r1⟩ := trodAll_cons r0
 obtain ⟨rfl, rfl, rfl⟩ := trodAll_nil r1
 obtain rfl : args = #[v0, v1] := by cases args; simp_all
 obtain ⟨rfl, rfl⟩ := trodVars_none hV
 obtain ⟨c00, c01, c02, c03, y00, y01, y02, y03, m0, rfl, rfl, rfl, g00, g01, g02, g03⟩ := Joins.open_agg4 Tryz.underlying24 (by kernel_rfl) value_cells (hval 0 24 v0 rfl rfl) h0
 obtain ⟨t0, e00, rfl, u00⟩ := DataW.trod_int Tryz.underlying3 g00
 obtain ⟨a0, e01, rfl, u01⟩ := DataW.trod_int Tryz.underlying22 g01
 obtain ⟨b0, e02, rfl, u02⟩ := DataW.trod_int Tryz.underlying22 g02
 obtain ⟨s0, e03, rfl, u03⟩ := DataW.trod_string Tryz.underlying9 g03
 simp at e00 e01 e02 e03
 subst e00 e01 e02 e03
 have reads0 : ∀ (W' : World) (sp : Nat → Bool), DataW.Trod enc Tryz.prog W' 0 sp true 24 (.agg #[.int .i64 t0, .int .u64 a0, .int .u64 b0, .string s0]) (.agg [.lit (.int .i64 t0), .lit (.int .u64 a0), .lit (.int .u64 b0), .lit (.string s0.data.toList)]) [] := fun W' sp =>
  Joins.shut_agg4 (y0 := (.lit (.int .i64 t0), [])) (y1 := (.lit (.int .u64 a0), [])) (y2 := (.lit (.int .u64 b0), [])) (y3 := (.lit (.string s0.data.toList), [])) Tryz.underlying24 (by kernel_rfl) value_cells ⟨1, by simp [DataW.trod, Tryz.underlying3, u00]⟩ ⟨1, by simp [DataW.trod, Tryz.underlying22, u01]⟩ ⟨1, by simp [DataW.trod, Tryz.underlying22, u02]⟩ ⟨1, by simp [DataW.trod, Tryz.underlying9, u03]⟩
 obtain ⟨c10, c11, c12, c13, y10, y11, y12, y13, m1, rfl, rfl, rfl, g10, g11, g12, g13⟩ := Joins.open_agg4 Tryz.underlying24 (by kernel_rfl) value_cells (hval 1 24 v1 rfl rfl) h1
 obtain ⟨t1, e10, rfl, u10⟩ := DataW.trod_int Tryz.underlying3 g10
 obtain ⟨a1, e11, rfl, u11⟩ := DataW.trod_int Tryz.underlying22 g11
 obtain ⟨b1, e12, rfl, u12⟩ := DataW.trod_int Tryz.underlying22 g12
 obtain ⟨s1, e13, rfl, u13⟩ := DataW.trod_string Tryz.underlying9 g13
 simp at e10 e11 e12 e13
 subst e10 e11 e12 e13
 have reads1 : ∀ (W' : World) (sp : Nat → Bool), DataW.Trod enc Tryz.prog W' 0 sp true 24 (.agg #[.int .i64 t1, .int .u64 a1, .int .u64 b1, .string s1]) (.agg [.lit (.int .i64 t1), .lit (.int .u64 a1), .lit (.int .u64 b1), .lit (.string s1.data.toList)]) [] := fun W' sp =>
  Joins.shut_agg4 (y0 := (.lit (.int .i64 t1), [])) (y1 := (.lit (.int .u64 a1), [])) (y2 := (.lit (.int .u64 b1), [])) (y3 := (.lit (.string s1.data.toList), [])) Tryz.underlying24 (by kernel_rfl) value_cells ⟨1, by simp [DataW.trod, Tryz.underlying3, u10]⟩ ⟨1, by simp [DataW.trod, Tryz.underlying22, u11]⟩ ⟨1, by simp [DataW.trod, Tryz.underlying22, u12]⟩ ⟨1, by simp [DataW.trod, Tryz.underlying9, u13]⟩
 clear hA0 hval0 hsz0
 simp only [List.append_nil] at hW'
 refine (B.law_symm t0 a0 b0 s0 t1 a1 b1 s1 W (u64_wf u01) (u64_wf u02) (u64_wf u11) (u64_wf u12)).mono fun e W' ⟨he, bel⟩ => ?_
 subst he
 exact ⟨_, rfl, _, _, _, [], [], [], hW', trodAll_mk1 (shut_bool Tryz.underlying4 _), (trodAll_cons_mk (reads0 _ _) (trodAll_cons_mk (reads1 _ _) trodAll_mk0)), rfl, bel.frame _, fun h => by cases h⟩
theorem complexesSymmetries_over : Rows.complexesSymmetriesRow.holds Tryz.pinned (OpenSpec.ofChange Rows.complexesSymmetriesSpec) :=
 OpenClaim.holds_of_wide 5 Tryz.f5 rfl rfl rfl rfl rfl rfl rfl ⟨rfl, rfl, rfl, rfl, rfl⟩ rfl rfl rfl rfl rfl (by kernel_rfl) Tryz.func5 (by kernel_rfl)
  (of_decide_eq_true (by kernel_rfl)) (by unfold Func.isWrapper; first | (rw [if_pos (by decide +kernel)]; kernel_rfl) | (rw [if_neg (by decide +kernel)]; exact ⟨rfl, rfl⟩))
  (fun os started H enc _ => complexesSymmetries_lifted os started H enc)
theorem complexesSymmetries_holds : Rows.ComplexesSymmetriesSaid := complexesSymmetries_over
end Go.Proofs.YtmoimcblmmcffaaGreat.Law
