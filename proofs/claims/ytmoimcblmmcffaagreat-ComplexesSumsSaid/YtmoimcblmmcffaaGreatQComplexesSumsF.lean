/- Contracts and plain laws that the law ComplexesSums leans on (texts joined by program; what it does not come to is left out). -/
import Derived.Test.YtmoimcblmmcffaaGreatQComplexesSumsE
import Derived.Laws.BitsAllLaws
import Derived.Test.YtmoimcblmmcffaaGreatQComplexesSumsC
import Derived.Test.YtmoimcblmmcffaaGreatQComplexesSumsD

namespace Go.Proofs.YtmoimcblmmcffaaGreat.NC
open Go.RowKit Go.Proofs.YtmoimcblmmcffaaGreat.B Go.Proofs.YtmoimcblmmcffaaGreat.N
set_option linter.unusedSimpArgs false
set_option linter.unusedVariables false
theorem sg_zero (s : Bool) (k : Nat) : Ieee.signed s 0 k = 0 := by unfold Ieee.signed; simp
theorem sg_val (s : Bool) (m : Nat) : Ieee.signed s m 0 = if s then -(m : Int) else (m : Int) := by unfold Ieee.signed; simp
theorem sumX_total (a : Bool) (x : Nat) (b : Bool) (y : Nat) : sumX a x b y = (decide (Ieee.signed a x 0 + Ieee.signed b y 0 < 0), (Ieee.signed a x 0 + Ieee.signed b y 0).natAbs) := by
 rw [sg_val, sg_val]
 unfold sumX
 cases a <;> cases b <;> simp only [if_true, if_false, Bool.false_eq_true, Bool.true_eq_false, Bool.false_and, Bool.true_and, reduceCtorEq]
 ·rw [decide_eq_false (by omega)]; congr 1 <;> omega
 ·by_cases h : x < y
  ·rw [if_pos h, decide_eq_true (by omega)]; congr 1 <;> omega
  ·rw [if_neg h, decide_eq_false (by omega)]; congr 1 <;> omega
 ·by_cases h : x < y
  ·rw [if_pos h, decide_eq_false (by omega)]; congr 1 <;> omega
  ·rw [if_neg h]
   by_cases h2 : x = y
   ·rw [decide_eq_false (by omega), decide_eq_false (by omega)]; congr 1 <;> omega
   ·rw [decide_eq_true (by omega), decide_eq_true (by omega)]; congr 1 <;> omega
 ·by_cases h : x + y = 0
  ·rw [decide_eq_false (by omega), decide_eq_false (by omega)]; congr 1 <;> omega
  ·rw [decide_eq_true (by omega), decide_eq_true (by omega)]; congr 1 <;> omega
theorem res_num {s : Bool} {op : BinOp} {a b : Nat} {n : Bool} {m : Nat} {e : Int} (h : floatBits op (fkOf s) a b = some ((fm s).nearest n m e)) : resV s op a b = ((fm s).nearest n m e : Nat) := by
 unfold resV; rw [h]; exact clean_near s n m e
theorem res_inf {s : Bool} {op : BinOp} {a b : Nat} {n : Bool} (h : floatBits op (fkOf s) a b = some ((fm s).word n (fm s).infRung)) : resV s op a b = (bitsR s ⟨2, n, 0, 0⟩ : Nat) := by
 unfold resV; rw [h, bits_inf]; exact clean_word s n (Nat.le_refl _)
theorem res_nan {s : Bool} {op : BinOp} {a b : Nat} (h : floatBits op (fkOf s) a b = none) : resV s op a b = (nanN s : Nat) := by
 unfold resV; rw [h]; exact nan_eq s
theorem near_shift (s n : Bool) (g : Nat) (x e : Int) (h : e ≤ x) : (fm s).nearest n (g * 2 ^ (x - e).toNat) e = (fm s).nearest n g x := by
 rw [Fl.nearest_rung, Fl.nearest_rung, Fl.rung_scale]
 congr 2; omega
theorem near_zero (s n : Bool) (e : Int) : (fm s).nearest n 0 e = bitsR s ⟨0, n, 0, 0⟩ := by
 rw [Fl.nearest_rung, Fl.rung_zero, bits_zero]
theorem natAbs_sg (s : Bool) (m k : Nat) : (Ieee.signed s m k).natAbs = m * 2 ^ k ∧ (0 < m → decide (Ieee.signed s m k < 0) = s) ∧ (0 < m → Ieee.signed s m k ≠ 0) := by
 rw [Fl.signed_eq, sg_val]
 have hp : 0 < 2 ^ k := Nat.two_pow_pos _
 have hq : 0 < m → 0 < m * 2 ^ k := fun h => Nat.mul_pos h hp
 generalize m * 2 ^ k = z at *
 refine ⟨?_, fun h => ?_, fun h => ?_⟩
 ·cases s <;> simp
 ·have := hq h
  cases s <;> simp <;> omega
 ·have := hq h
  cases s <;> simp <;> omega
theorem add_told {s : Bool} {a b : Nat} {p q : PP} (ha : Told s a p) (hb : Told s b q) : resV s .add a b = (addP s p q : Nat) := by
 have hf : floatBits .add (fkOf s) a b = ((((fm s).read a).sum ((fm s).read b)).map (fm s).write) := rfl
 unfold addP
 cases ha with
 | nan n1 r1 t1 u1 h10 h11 h1 hr1 =>
  simp only [true_or, if_true]
  refine res_nan ?_
  rw [hf, hr1]; rfl
 | inf n1 h1 hr1 =>
  cases hb with
  | nan n2 r2 t2 u2 h20 h21 h2 hr2 =>
   simp only [or_true, if_true]
   refine res_nan ?_
   rw [hf, hr1, hr2]; rfl
  | inf n2 h2 hr2 =>
   simp only [Int.reduceEq, or_self, if_false, if_true, true_and]
   by_cases hn : n1 = n2
   ·subst hn
    simp only [ne_eq, not_true_eq_false, if_false]
    refine res_inf ?_
    rw [hf, hr1, hr2]
    show Option.map _ (if n1 = n1 then some (Ieee.Datum.infinity n1) else none) = _
    rw [if_pos rfl]; rfl
   ·simp only [ne_eq, hn, not_false_eq_true, if_true]
    refine res_nan ?_
    rw [hf, hr1, hr2]
    show Option.map _ (if n1 = n2 then some (Ieee.Datum.infinity n1) else none) = _
    rw [if_neg hn]; rfl
  | zero n2 h2 hr2 =>
   simp only [Int.reduceEq, or_self, if_false, if_true, false_and]
   refine res_inf ?_
   rw [hf, hr1, hr2]; rfl
  | fin n2 m2 e2 r2 h20 h21 h2 hm2 hm22 he2 he22 hb2 hr2 =>
   simp only [Int.reduceEq, or_self, if_false, if_true, false_and]
   refine res_inf ?_
   rw [hf, hr1, hr2]; rfl
 | zero n1 h1 hr1 =>
  cases hb with
  | nan n2 r2 t2 u2 h20 h21 h2 hr2 =>
   simp only [or_true, if_true]
   refine res_nan ?_
   rw [hf, hr1, hr2]; rfl
  | inf n2 h2 hr2 =>
   simp only [Int.reduceEq, or_self, if_false, if_true]
   refine res_inf ?_
   rw [hf, hr1, hr2]; rfl
  | zero n2 h2 hr2 =>
   simp only [Int.reduceEq, or_self, if_false, if_true, and_self]
   rw [← near_zero s (n1 && n2) (leastN s)]
   refine res_num ?_
   rw [hf, hr1, hr2]
   show some ((fm s).nearest _ _ _) = _
   simp only [sg_zero, Int.add_zero, if_true, Int.natAbs_zero, Int.min_self]
  | fin n2 m2 e2 r2 h20 h21 h2 hm2 hm22 he2 he22 hb2 hr2 =>
   simp only [Int.reduceEq, or_self, if_false, and_false, Nat.zero_mul]
   rw [sumX_total, round_near]
   simp only [sg_zero, Int.zero_add]
   obtain ⟨k1, k2, k3⟩ := natAbs_sg n2 (m2 * 2 ^ (e2 - min 0 e2).toNat) 0
   have hpos : 0 < m2 * 2 ^ (e2 - min 0 e2).toNat := Nat.mul_pos hm2 (Nat.two_pow_pos _)
   rw [k1, k2 hpos, Nat.pow_zero, Nat.mul_one, near_shift s n2 m2 e2 _ (by omega)]
   obtain ⟨j1, j2, j3⟩ := natAbs_sg n2 m2 (e2 - min (leastN s) e2).toNat
   rw [← near_shift s n2 m2 e2 (min (leastN s) e2) (by omega), ← j1]
   refine res_num ?_
   rw [hf, hr1, hr2]
   show some ((fm s).nearest _ _ _) = _
   simp only [sg_zero, Int.zero_add]
   rw [if_neg (j3 hm2), j2 hm2]
 | fin n1 m1 e1 r1 h10 h11 h1 hm1 hm12 he1 he12 hb1 hr1 =>
  cases hb with
  | nan n2 r2 t2 u2 h20 h21 h2 hr2 =>
   simp only [or_true, if_true]
   refine res_nan ?_
   rw [hf, hr1, hr2]; rfl
  | inf n2 h2 hr2 =>
   simp only [Int.reduceEq, or_self, if_false, if_true]
   refine res_inf ?_
   rw [hf, hr1, hr2]; rfl
  | zero n2 h2 hr2 =>
   simp only [Int.reduceEq, or_self, if_false, false_and, Nat.zero_mul]
   rw [sumX_total, round_near]
   simp only [sg_zero, Int.add_zero]
   obtain ⟨k1, k2, k3⟩ := natAbs_sg n1 (m1 * 2 ^ (e1 - min e1 0).toNat) 0
   have hpos : 0 < m1 * 2 ^ (e1 - min e1 0).toNat := Nat.mul_pos hm1 (Nat.two_pow_pos _)
   rw [k1, k2 hpos, Nat.pow_zero, Nat.mul_one, near_shift s n1 m1 e1 _ (by omega)]
   obtain ⟨j1, j2, j3⟩ := natAbs_sg n1 m1 (e1 - min e1 (leastN s)).toNat
   rw [← near_shift s n1 m1 e1 (min e1 (leastN s)) (by omega), ← j1]
   refine res_num ?_
   rw [hf, hr1, hr2]
   show some ((fm s).nearest _ _ _) = _
   simp only [sg_zero, Int.add_zero]
   rw [if_neg (j3 hm1), j2 hm1]
  | fin n2 m2 e2 r2 h20 h21 h2 hm2 hm22 he2 he22 hb2 hr2 =>
   simp only [Int.reduceEq, or_self, if_false, and_self]
   rw [sumX_total, round_near]
   refine res_num ?_
   rw [hf, hr1, hr2]
   show some ((fm s).nearest _ _ _) = _
   simp only [← Fl.signed_eq]
   generalize hT : Ieee.signed n1 m1 (e1 - min e1 e2).toNat + Ieee.signed n2 m2 (e2 - min e1 e2).toNat = T
   by_cases h0 : T = 0
   ·rw [if_pos h0, h0]
    simp only [Int.natAbs_zero]
    have hne : (n1 && n2) = false := by
     cases n1 <;> cases n2 <;> simp
     rw [Fl.signed_eq true m1, Fl.signed_eq true m2, sg_val, sg_val, h0] at hT
     have : 0 < m1 * 2 ^ (e1 - min e1 e2).toNat := Nat.mul_pos hm1 (Nat.two_pow_pos _)
     generalize m1 * 2 ^ (e1 - min e1 e2).toNat = z1 at *
     simp only [if_true] at hT
     omega
    rw [hne]
    rfl
   ·rw [if_neg h0]
end Go.Proofs.YtmoimcblmmcffaaGreat.NC

namespace Go.Proofs.YtmoimcblmmcffaaGreat.NC
open Go.RowKit Go.Proofs.YtmoimcblmmcffaaGreat.B Go.Proofs.YtmoimcblmmcffaaGreat.N
set_option linter.unusedSimpArgs false
set_option linter.unusedVariables false
theorem add_eq {s : Bool} {a b : Nat} (ha : a < 2 * signN s) (hb : b < 2 * signN s) : resV s .add a b = (addR s a b : Nat) := add_told (told s a ha) (told s b hb)
theorem neg_told {s : Bool} {b : Nat} {p : PP} (hb : Told s b p) (hk : p.kind ≠ 3) : (fm s).read (bitsR s { p with neg := !p.neg && p.kind != 3 }) = ((fm s).read b).opposite := by
 cases hb with
 | nan n2 r2 t2 u2 h20 h21 h2 hr2 => exact absurd rfl hk
 | zero n h hr =>
  rw [hr]
  simp only [Int.reduceEq]
  show (fm s).read (bitsR s ⟨0, !n && true, 0, 0⟩) = .number (!n) 0 (leastN s)
  rw [Bool.and_true, bits_zero, Fl.read_word_sub (fm s) (!n) 0 (by rw [fm_binade]; exact low_pos s), fm_least]
 | inf n h hr =>
  rw [hr]
  show (fm s).read (bitsR s ⟨2, !n && true, 0, 0⟩) = .infinity (!n)
  rw [Bool.and_true, bits_inf, Fl.read_word_inf (fm s) (!n) (inf_ge s)]
 | fin n m e r h0 h1 h hm hm2 he he2 hbn hr =>
  rw [hr]
  show (fm s).read (bitsR s ⟨1, !n && true, m, e⟩) = .number (!n) m e
  rw [Bool.and_true, hbn]
  rw [h] at hr
  have hlt : r < (fm s).signWeight := by rw [fm_sign]; exact Nat.lt_trans h1 (inf_lt s)
  obtain ⟨a1, a2⟩ := Fl.word_parts (fm s) n r hlt
  obtain ⟨b1, b2⟩ := Fl.word_parts (fm s) (!n) r hlt
  unfold Ieee.Format.read at hr ⊢
  simp only [a1, a2, b1, b2] at hr ⊢
  split at hr
  ·rename_i h3; rw [if_pos h3]; injection hr with h4 h5 h6; rw [h5, h6]
  ·rename_i h3
   rw [if_neg h3]
   rw [if_pos h1]
   first | (rw [if_pos h1] at hr; injection hr with h5 h6 h7; rw [h6, h7]) | (injection hr with h5 h6 h7; rw [h6, h7])
theorem sub_eq {s : Bool} {a b : Nat} (ha : a < 2 * signN s) (hb : b < 2 * signN s) : resV s .sub a b = (subR s a b : Nat) := by
 have hf : floatBits .sub (fkOf s) a b = ((((fm s).read a).sum ((fm s).read b).opposite).map (fm s).write) := rfl
 have ht := told s b hb
 unfold subR
 by_cases hk : (partsR s b).kind = 3
 ·rw [if_pos hk]
  refine res_nan ?_
  rw [hf]
  generalize partsR s b = p at *
  cases ht with
  | nan n2 r2 t2 u2 h20 h21 h2 hr2 =>
   rw [hr2]
   cases (fm s).read a <;> rfl
  | zero n h hr => exact absurd (show (0 : Int) = 3 from hk) (by decide)
  | inf n h hr => exact absurd (show (2 : Int) = 3 from hk) (by decide)
  | fin n m e r h0 h1 h hm hm2 he he2 hbn hr => exact absurd (show (1 : Int) = 3 from hk) (by decide)
 ·rw [if_neg hk]
  have hn := neg_told ht hk
  have hlt : negR s b < 2 * signN s := by have := neg_lt s b; rw [top_sgn] at this; exact Int.ofNat_lt.1 this
  rw [← add_eq ha hlt]
  unfold resV
  have : floatBits .sub (fkOf s) a b = floatBits .add (fkOf s) a (negR s b) := by
   rw [hf]
   show _ = (((fm s).read a).sum ((fm s).read (negR s b))).map (fm s).write
   unfold negR
   rw [hn]
  rw [this]
theorem bne_xor (a b : Bool) : (a ^^ b) = (a != b) := by cases a <;> cases b <;> rfl
theorem mul_told {s : Bool} {a b : Nat} {p q : PP} (ha : Told s a p) (hb : Told s b q) : resV s .mul a b = (mulP s p q : Nat) := by
 have hf : floatBits .mul (fkOf s) a b = ((((fm s).read a).product ((fm s).read b)).map (fm s).write) := rfl
 unfold mulP
 cases ha with
 | nan n1 r1 t1 u1 h10 h11 h1 hr1 =>
  simp only [true_or, if_true]
  refine res_nan ?_
  rw [hf, hr1]; rfl
 | inf n1 h1 hr1 =>
  cases hb with
  | nan n2 r2 t2 u2 h20 h21 h2 hr2 =>
   simp only [or_true, true_or, if_true]
   refine res_nan ?_
   rw [hf, hr1, hr2]; rfl
  | inf n2 h2 hr2 =>
   simp only [Int.reduceEq, or_self, and_false, false_and, if_false, if_true]
   rw [← bne_xor]
   refine res_inf ?_
   rw [hf, hr1, hr2]; rfl
  | zero n2 h2 hr2 =>
   simp only [Int.reduceEq, or_true, true_or, and_self, if_true]
   refine res_nan ?_
   rw [hf, hr1, hr2]; rfl
  | fin n2 m2 e2 r2 h20 h21 h2 hm2 hm22 he2 he22 hb2 hr2 =>
   simp only [Int.reduceEq, or_self, and_false, false_and, if_false, true_or, if_true]
   rw [← bne_xor]
   refine res_inf ?_
   rw [hf, hr1, hr2]
   show Option.map _ (if m2 = 0 then none else some (Ieee.Datum.infinity (n1 ^^ n2))) = _
   rw [if_neg (by omega)]; rfl
 | zero n1 h1 hr1 =>
  cases hb with
  | nan n2 r2 t2 u2 h20 h21 h2 hr2 =>
   simp only [or_true, true_or, if_true]
   refine res_nan ?_
   rw [hf, hr1, hr2]; rfl
  | inf n2 h2 hr2 =>
   simp only [Int.reduceEq, or_true, and_self, if_true]
   refine res_nan ?_
   rw [hf, hr1, hr2]; rfl
  | zero n2 h2 hr2 =>
   simp only [Int.reduceEq, or_self, and_false, false_and, if_false, Nat.zero_mul]
   rw [round_near, ← bne_xor, near_zero, ← near_zero s _ (leastN s + leastN s)]
   refine res_num ?_
   rw [hf, hr1, hr2]; rfl
  | fin n2 m2 e2 r2 h20 h21 h2 hm2 hm22 he2 he22 hb2 hr2 =>
   simp only [Int.reduceEq, or_self, and_false, false_and, if_false, Nat.zero_mul]
   rw [round_near, ← bne_xor, near_zero, ← near_zero s _ (leastN s + e2)]
   refine res_num ?_
   rw [hf, hr1, hr2]
   show some ((fm s).nearest (n1 ^^ n2) (0 * m2) (leastN s + e2)) = _
   rw [Nat.zero_mul]
 | fin n1 m1 e1 r1 h10 h11 h1 hm1 hm12 he1 he12 hb1 hr1 =>
  cases hb with
  | nan n2 r2 t2 u2 h20 h21 h2 hr2 =>
   simp only [or_true, true_or, if_true]
   refine res_nan ?_
   rw [hf, hr1, hr2]; rfl
  | inf n2 h2 hr2 =>
   simp only [Int.reduceEq, or_self, and_false, false_and, if_false, or_true, if_true]
   rw [← bne_xor]
   have hx : (n1 ^^ n2) = (n2 ^^ n1) := by cases n1 <;> cases n2 <;> rfl
   rw [hx]
   refine res_inf ?_
   rw [hf, hr1, hr2]
   show Option.map _ (if m1 = 0 then none else some (Ieee.Datum.infinity (n2 ^^ n1))) = _
   rw [if_neg (by omega)]; rfl
  | zero n2 h2 hr2 =>
   simp only [Int.reduceEq, or_self, and_false, false_and, if_false, Nat.mul_zero]
   rw [round_near, ← bne_xor, near_zero, ← near_zero s _ (e1 + leastN s)]
   refine res_num ?_
   rw [hf, hr1, hr2]; rfl
  | fin n2 m2 e2 r2 h20 h21 h2 hm2 hm22 he2 he22 hb2 hr2 =>
   simp only [Int.reduceEq, or_self, and_false, false_and, if_false]
   rw [round_near, ← bne_xor]
   refine res_num ?_
   rw [hf, hr1, hr2]; rfl
theorem mul_eq {s : Bool} {a b : Nat} (ha : a < 2 * signN s) (hb : b < 2 * signN s) : resV s .mul a b = (mulR s a b : Nat) := mul_told (told s a ha) (told s b hb)
theorem frac_le (s : Bool) : (fm s).fractionBits + 2 ≤ 54 ∧ lowN s = 2 ^ (fm s).fractionBits := by cases s <;> exact ⟨by decide, rfl⟩
theorem qs_ge {m n k F : Nat} (hn : 0 < n) (h : n * 2 ^ (F + 1) ≤ m * 2 ^ k) : 2 ^ (F + 2) ≤ Fl.qs (m * 2 ^ k) n := by
 unfold Fl.qs
 have h1 : 2 ^ (F + 1) ≤ m * 2 ^ k / n := (Nat.le_div_iff_mul_le hn).2 (by rw [Nat.mul_comm]; exact h)
 rw [show F + 2 = F + 1 + 1 from rfl, Nat.pow_succ]
 omega
theorem div_num (s : Bool) (n : Bool) (m1 m2 : Nat) (e1 e2 : Int) (hm1 : 1 ≤ m1) (hm2 : 1 ≤ m2) (hm22 : m2 < 2 * lowN s) :
  let more := (fm s).fractionBits + 2 + m2.log2 - m1.log2
  (fm s).nearest n (2 * ((m1 <<< more) / m2) + ((m1 <<< more) % m2 != 0).toNat) (e1 - e2 - more - 1) = roundR s n (m1 * 2 ^ 120 / m2) (e1 - e2 - 120) (decide (0 < m1 * 2 ^ 120 % m2)) := by
 intro more
 obtain ⟨f1, f2⟩ := frac_le s
 have hlog : m2 < 2 ^ (m2.log2 + 1) := Nat.lt_log2_self
 have hlog1 := Nat.log2_self_le (show m1 ≠ 0 by omega)
 have hm2b : m2 < 2 ^ 54 := by
  rw [f2] at hm22
  have : 2 * 2 ^ (fm s).fractionBits = 2 ^ ((fm s).fractionBits + 1) := by rw [Nat.pow_succ, Nat.mul_comm]
  rw [this] at hm22
  exact Nat.lt_of_lt_of_le hm22 (Nat.pow_le_pow_right (by decide) (by omega))
 have hbig1 : 2 ^ ((fm s).fractionBits + 2) ≤ Fl.qs (m1 * 2 ^ more) m2 := by
  refine qs_ge (by omega) ?_
  have h1 : m2 * 2 ^ ((fm s).fractionBits + 1) ≤ 2 ^ (m2.log2 + 1) * 2 ^ ((fm s).fractionBits + 1) := Nat.mul_le_mul_right _ (Nat.le_of_lt hlog)
  have h2 : 2 ^ m1.log2 * 2 ^ more ≤ m1 * 2 ^ more := Nat.mul_le_mul_right _ hlog1
  refine Nat.le_trans h1 (Nat.le_trans ?_ h2)
  rw [← Nat.pow_add, ← Nat.pow_add]
  exact Nat.pow_le_pow_right (by decide) (by omega)
 have hq : 2 ^ ((fm s).fractionBits + 1) ≤ m1 * 2 ^ 120 / m2 := by
  refine (Nat.le_div_iff_mul_le (by omega)).2 ?_
  have h1 : 2 ^ ((fm s).fractionBits + 1) * m2 ≤ 2 ^ 53 * 2 ^ 54 := Nat.mul_le_mul (Nat.pow_le_pow_right (by decide) (by omega)) (Nat.le_of_lt hm2b)
  have h2 : 1 * 2 ^ 120 ≤ m1 * 2 ^ 120 := Nat.mul_le_mul_right _ hm1
  exact Nat.le_trans h1 (Nat.le_trans (by decide) h2)
 have hbig2 : 2 ^ ((fm s).fractionBits + 2) ≤ Fl.qs (m1 * 2 ^ 120) m2 := by
  refine qs_ge (by omega) ?_
  have := (Nat.le_div_iff_mul_le (by omega : 0 < m2)).1 hq
  rw [Nat.mul_comm]; exact this
 have hp : 0 < 2 ^ ((fm s).fractionBits + 1) := Nat.two_pow_pos _
 rw [round_word _ _ _ _ _ (by omega), Fl.rung_more (fm s) _ _ _ hq, Fl.nearest_rung, Nat.shiftLeft_eq]
 congr 1
 have hr := Fl.rung_qs (fm s) m1 m2 more 120 (e1 - e2 - 1) (by omega) hbig1 hbig2
 unfold Fl.qs at hr
 have hd : (decide (0 < m1 * 2 ^ 120 % m2)).toNat = (m1 * 2 ^ 120 % m2 != 0).toNat := by
  congr 1
  rw [Bool.eq_iff_iff]; simp; omega
 rw [hd, show e1 - e2 - (more : Int) - 1 = e1 - e2 - 1 - (more : Int) from by omega, hr]
 congr 1
 omega
theorem div_told {s : Bool} {a b : Nat} {p q : PP} (ha : Told s a p) (hb : Told s b q) : resV s .quo a b = (divP s p q : Nat) := by
 have hf : floatBits .quo (fkOf s) a b = ((((fm s).read a).quotient ((fm s).fractionBits + 2) ((fm s).read b)).map (fm s).write) := rfl
 unfold divP
 cases ha with
 | nan n1 r1 t1 u1 h10 h11 h1 hr1 =>
  simp only [true_or, if_true]
  refine res_nan ?_
  rw [hf, hr1]; rfl
 | inf n1 h1 hr1 =>
  cases hb with
  | nan n2 r2 t2 u2 h20 h21 h2 hr2 =>
   simp only [or_true, true_or, if_true]
   refine res_nan ?_
   rw [hf, hr1, hr2]; rfl
  | inf n2 h2 hr2 =>
   simp only [Int.reduceEq, ne_eq, not_false_eq_true, and_self, or_true, if_true]
   refine res_nan ?_
   rw [hf, hr1, hr2]; rfl
  | zero n2 h2 hr2 =>
   simp only [Int.reduceEq, ne_eq, not_false_eq_true, and_true, or_self, if_false, true_or, if_true]
   rw [← bne_xor]
   refine res_inf ?_
   rw [hf, hr1, hr2]; rfl
  | fin n2 m2 e2 r2 h20 h21 h2 hm2 hm22 he2 he22 hb2 hr2 =>
   simp only [Int.reduceEq, ne_eq, not_false_eq_true, and_true, or_self, if_false, true_or, if_true]
   rw [← bne_xor]
   refine res_inf ?_
   rw [hf, hr1, hr2]; rfl
 | zero n1 h1 hr1 =>
  cases hb with
  | nan n2 r2 t2 u2 h20 h21 h2 hr2 =>
   simp only [or_true, true_or, if_true]
   refine res_nan ?_
   rw [hf, hr1, hr2]; rfl
  | inf n2 h2 hr2 =>
   simp only [Int.reduceEq, ne_eq, not_false_eq_true, and_true, or_self, if_false, or_true, if_true]
   rw [← bne_xor, ← near_zero s _ 0]
   refine res_num ?_
   rw [hf, hr1, hr2]; rfl
  | zero n2 h2 hr2 =>
   simp only [Int.reduceEq, ne_eq, not_false_eq_true, and_self, or_true, if_true]
   refine res_nan ?_
   rw [hf, hr1, hr2]; rfl
  | fin n2 m2 e2 r2 h20 h21 h2 hm2 hm22 he2 he22 hb2 hr2 =>
   simp only [Int.reduceEq, ne_eq, not_false_eq_true, and_true, or_self, if_false, true_or, if_true]
   rw [← bne_xor, ← near_zero s _ (leastN s - e2 - ((fm s).fractionBits + 2 + m2.log2 - (0 : Nat).log2 : Nat) - 1)]
   refine res_num ?_
   rw [hf, hr1, hr2]
   show Option.map (fm s).write (if m2 = 0 then _ else some (Ieee.Datum.number (n1 ^^ n2) (2 * ((0 <<< ((fm s).fractionBits + 2 + m2.log2 - (0 : Nat).log2)) / m2) + ((0 <<< ((fm s).fractionBits + 2 + m2.log2 - (0 : Nat).log2)) % m2 != 0).toNat) _)) = _
   rw [if_neg (by omega)]
   simp only [Nat.zero_shiftLeft, Nat.zero_div, Nat.zero_mod, Nat.mul_zero]
   rfl
 | fin n1 m1 e1 r1 h10 h11 h1 hm1 hm12 he1 he12 hb1 hr1 =>
  cases hb with
  | nan n2 r2 t2 u2 h20 h21 h2 hr2 =>
   simp only [or_true, true_or, if_true]
   refine res_nan ?_
   rw [hf, hr1, hr2]; rfl
  | inf n2 h2 hr2 =>
   simp only [Int.reduceEq, ne_eq, not_true_eq_false, and_false, or_self, if_false, or_true, if_true]
   rw [← bne_xor, ← near_zero s _ 0]
   refine res_num ?_
   rw [hf, hr1, hr2]; rfl
  | zero n2 h2 hr2 =>
   simp only [Int.reduceEq, ne_eq, not_true_eq_false, and_false, or_self, if_false, or_true, if_true]
   rw [← bne_xor]
   refine res_inf ?_
   rw [hf, hr1, hr2]
   simp only [Ieee.Datum.quotient, if_true]
   rw [if_neg (by omega)]; rfl
  | fin n2 m2 e2 r2 h20 h21 h2 hm2 hm22 he2 he22 hb2 hr2 =>
   simp only [Int.reduceEq, ne_eq, not_true_eq_false, and_false, or_self, if_false]
   rw [← bne_xor, ← div_num s (n1 ^^ n2) m1 m2 e1 e2 hm1 hm2 hm22]
   refine res_num ?_
   rw [hf, hr1, hr2]
   show Option.map (fm s).write (if m2 = 0 then _ else some _) = _
   rw [if_neg (by omega)]; rfl
theorem div_eq {s : Bool} {a b : Nat} (ha : a < 2 * signN s) (hb : b < 2 * signN s) : resV s .quo a b = (divR s a b : Nat) := div_told (told s a ha) (told s b hb)
end Go.Proofs.YtmoimcblmmcffaaGreat.NC

namespace Go.Proofs.YtmoimcblmmcffaaGreat.NC
open Go.RowKit Go.Proofs.YtmoimcblmmcffaaGreat.B Go.Proofs.YtmoimcblmmcffaaGreat.N
set_option linter.unusedSimpArgs false
set_option linter.unusedVariables false
theorem sgn_eq (s : Bool) : signV s = (signN s : Int) := by cases s <;> rfl
theorem told_nothing {s : Bool} {a : Nat} {p : PP} (h : Told s a p) : nothingV s (a : Int) = decide (p.kind = 3) := by
 have hl := inf_lt s
 cases h with
 | zero n h hr => rw [h, nothing_word s n (by omega), decide_eq_false (by omega)]; rfl
 | inf n h hr => rw [h, nothing_word s n (by omega), decide_eq_false (by omega)]; rfl
 | fin n m e r h0 h1 h hm hm2 he he2 hb hr => rw [h, nothing_word s n (by omega), decide_eq_false (by omega)]; rfl
 | nan n r t u h0 h1 h hr => rw [h, nothing_word s n h1, decide_eq_true h0]; rfl
theorem told_size {s : Bool} {a : Nat} {p : PP} (h : Told s a p) : p.kind = 3 ∨ ∃ r, r ≤ (fm s).infRung ∧ a = (fm s).word p.neg r ∧ (r = 0 ↔ p.kind = 0) ∧ ∀ n, bitsR s { p with neg := n } = (fm s).word n r := by
 cases h with
 | zero n h hr => exact .inr ⟨0, Nat.zero_le _, h, by simp, fun n => bits_zero s n⟩
 | inf n h hr => exact .inr ⟨_, Nat.le_refl _, h, by have := inf_ge s; have := Fl.binade_pos (fm s); simp; omega, fun n => bits_inf s n⟩
 | fin n m e r h0 h1 h hm hm2 he he2 hb hr => exact .inr ⟨r, Nat.le_of_lt h1, h, by simp; omega, hb⟩
 | nan n r t u h0 h1 h hr => exact .inl rfl
theorem andNot_word (s n : Bool) {r : Nat} (h : r < signN s) : bits .andNot .u64 ((fm s).word n r : Nat) (signV s) = (r : Int) := by
 rw [andNot_sign s _ (by omega) (by rw [top_sgn]; exact_mod_cast word_lt s n h), word_mod s n h]
theorem xor_word (s n : Bool) {r : Nat} (h : r < signN s) : bits .xor .u64 ((fm s).word n r : Nat) (signV s) = ((fm s).word (!n) r : Nat) := by
 rw [xor_sign s _ (by omega) (by rw [top_sgn]; exact_mod_cast word_lt s n h), sgn_eq, fm_word, fm_word]
 unfold sgnN
 cases n
 ·simp only [Bool.false_eq_true, if_false, Bool.not_false, if_true]
  rw [if_pos (by omega)]; omega
 ·simp only [Bool.false_eq_true, if_false, Bool.not_true, if_true]
  rw [if_neg (by omega)]; omega
theorem nan_clean2 {s : Bool} {a : Int} (h : nothingV s a = true) : cleanV s a = (nanN s : Nat) := by
 unfold cleanV; rw [if_pos h]; exact nan_eq s
theorem told_nan {s : Bool} {a : Nat} {p : PP} (h : Told s a p) (hk : p.kind = 3) : p = ⟨3, false, 0, 0⟩ ∧ ∃ n r, (fm s).infRung < r ∧ r < signN s ∧ a = (fm s).word n r := by
 cases h with
 | nan n r t u h0 h1 h hr => exact ⟨rfl, n, r, h0, h1, h⟩
 | zero n h hr => exact absurd (show (0 : Int) = 3 from hk) (by decide)
 | inf n h hr => exact absurd (show (2 : Int) = 3 from hk) (by decide)
 | fin n m e r h0 h1 h hm hm2 he he2 hbn hr => exact absurd (show (1 : Int) = 3 from hk) (by decide)
theorem neg_eq {s : Bool} {a : Nat} (ha : a < 2 * signN s) : negV (tv s) a = (negR s a : Nat) := by
 have ht := told s a ha
 unfold negV negR
 rw [tv_eq]
 by_cases hk : (partsR s a).kind = 3
 ·obtain ⟨hp, n, r, h0, h1, h⟩ := told_nan ht hk
  rw [hp]
  show _ = ((bitsR s ⟨3, _, 0, 0⟩ : Nat) : Int)
  rw [bits_nan]
  rw [show (a : Int) = ((fm s).word n r : Nat) from by rw [h], xor_word s n h1]
  refine nan_clean2 ?_
  rw [nothing_word s (!n) h1, decide_eq_true h0]
 ·rcases told_size ht with h | ⟨r, h1, h2, h3, h4⟩
  ·exact absurd h hk
  ·have hlt : r < signN s := Nat.lt_of_le_of_lt h1 (inf_lt s)
   have hb : ((partsR s a).kind != 3) = true := by simpa using hk
   rw [h4 _, hb, Bool.and_true, show (a : Int) = ((fm s).word (partsR s a).neg r : Nat) from by rw [← h2], xor_word s _ hlt]
   exact clean_word s _ h1
theorem sign_eq {s : Bool} {a b : Nat} (ha : a < 2 * signN s) (hb : b < 2 * signN s) : signOfV s a b = (signR s a b : Nat) := by
 have ht := told s a ha
 unfold signOfV signR
 rw [told_nothing ht]
 by_cases hk : (partsR s a).kind = 3
 ·rw [if_pos hk, decide_eq_true hk, if_pos rfl]; exact nan_eq s
 ·rw [if_neg hk, decide_eq_false hk, if_neg (by decide)]
  rcases told_size ht with h | ⟨r, h1, h2, h3, h4⟩
  ·exact absurd h hk
  ·have hlt : r < signN s := Nat.lt_of_le_of_lt h1 (inf_lt s)
   have hs0 : 0 < signN s := by omega
   rw [h4 _, show (a : Int) = ((fm s).word (partsR s a).neg r : Nat) from by rw [← h2], andNot_word s _ hlt]
   rw [and_sign s _ (by omega) (by rw [top_sgn]; exact_mod_cast hb), sgn_eq]
   rw [or_sign s _ _ (by omega) (by rw [sgn_eq]; omega) (by rw [sgn_eq]; split <;> simp)]
   rw [fm_word]
   unfold sgnN
   by_cases hlow : b < signN s
   ·rw [if_pos (by omega), Nat.div_eq_of_lt hlow]; simp
   ·rw [if_neg (by omega), Nat.div_eq_of_lt_le (k := 1) (by omega) (by omega)]
    simp; omega
theorem rank_word {s : Bool} {a r : Nat} (h4 : ∀ n, bitsR s { partsR s a with neg := n } = (fm s).word n r) : rankR s a = Fl.rk (partsR s a).neg r := by
 unfold rankR Fl.rk sizeR
 rw [h4 false, fm_word]
 unfold sgnN
 cases (partsR s a).neg <;> simp
end Go.Proofs.YtmoimcblmmcffaaGreat.NC

namespace Go.Proofs.YtmoimcblmmcffaaGreat.NC
open Go.RowKit Go.Proofs.YtmoimcblmmcffaaGreat.B Go.Proofs.YtmoimcblmmcffaaGreat.N
set_option linter.unusedSimpArgs false
set_option linter.unusedVariables false
theorem zero_word (s n : Bool) {r : Nat} (h : r < signN s) : zeroV s ((fm s).word n r : Nat) = decide (r = 0) := by
 unfold zeroV
 rw [andNot_word s n h]
 rw [Bool.eq_iff_iff]; simp
theorem ext_eq {s least : Bool} {a b : Nat} (ha : a < 2 * signN s) (hb : b < 2 * signN s) : extremeV least s a b = (extR (!least) s a b : Nat) := by
 have hta := told s a ha
 have htb := told s b hb
 unfold extremeV extR extP
 rw [told_nothing hta, told_nothing htb]
 by_cases hk : (partsR s a).kind = 3
 ·rw [if_pos hk, decide_eq_true hk, if_pos rfl]
  by_cases hk2 : (partsR s b).kind = 3
  ·rw [if_pos hk2]
   exact nan_clean2 (by rw [told_nothing htb, decide_eq_true hk2])
  ·rw [if_neg hk2]
   unfold cleanV
   rw [told_nothing htb, decide_eq_false hk2, if_neg (by decide)]
 ·rw [if_neg hk, decide_eq_false hk, if_neg (by decide)]
  by_cases hk2 : (partsR s b).kind = 3
  ·rw [if_pos hk2, decide_eq_true hk2, if_pos rfl]
  ·rw [if_neg hk2, decide_eq_false hk2, if_neg (by decide)]
   have hless : lessV s a b = decide ((if cmpR s a b = 0 then ((partsR s b).neg.toNat : Int) - (partsR s a).neg.toNat else cmpR s a b) < 0) := by
    rcases told_size hta with h | ⟨r, h1, h2, h3, h4⟩
    ·exact absurd h hk
    ·rcases told_size htb with h | ⟨t, j1, j2, j3, j4⟩
     ·exact absurd h hk2
     ·have hlt : r < signN s := Nat.lt_of_le_of_lt h1 (inf_lt s)
      have hlt2 : t < signN s := Nat.lt_of_le_of_lt j1 (inf_lt s)
      have ho := Fl.order_word (fm s) (inf_ge s) (partsR s a).neg (partsR s b).neg h1 j1
      have hc : cmpR s a b = if Fl.rk (partsR s a).neg r < Fl.rk (partsR s b).neg t then -1 else if Fl.rk (partsR s a).neg r = Fl.rk (partsR s b).neg t then 0 else 1 := by
       unfold cmpR
       rw [if_neg (by rintro (h | h) <;> contradiction), rank_word h4, rank_word j4]
      have z1 : zeroV s (a : Int) = decide (r = 0) := by rw [show (a : Int) = ((fm s).word (partsR s a).neg r : Nat) from by rw [← h2]]; exact zero_word s _ hlt
      have z2 : zeroV s (b : Int) = decide (t = 0) := by rw [show (b : Int) = ((fm s).word (partsR s b).neg t : Nat) from by rw [← j2]]; exact zero_word s _ hlt2
      have hord : ordV s a b = some (compare (Fl.rk (partsR s a).neg r) (Fl.rk (partsR s b).neg t)) := by
       show (fm s).order a b = _
       rw [← ho, ← h2, ← j2]
      unfold lessV
      rw [z1, z2, hord]
      generalize cmpR s a b = c at *
      rw [fm_word] at h2 j2
      unfold sgnN at h2 j2
      clear hord ho z1 z2 h3 h4 j3 j4 hta htb hk hk2
      generalize (partsR s a).neg = n at *
      generalize (partsR s b).neg = m at *
      have hs0 : 0 < signN s := by omega
      by_cases hr0 : r = 0 ∧ t = 0
      ·obtain ⟨rfl, rfl⟩ := hr0
       have hba : decide ((b : Int) < (a : Int)) = (n && !m) := by
        cases n <;> cases m <;> simp at h2 j2 <;> rw [h2, j2] <;> simp <;> omega
       have hc0 : c = 0 := by rw [hc]; cases n <;> cases m <;> decide
       rw [hba, hc0]
       cases n <;> cases m <;> decide
      ·have hz : (decide (r = 0) && (decide (t = 0) && decide ((b : Int) < (a : Int)))) = false := by
        by_cases h : r = 0
        ·have : ¬ t = 0 := fun h' => hr0 ⟨h, h'⟩
         simp [this]
        ·simp [h]
       rw [hz, Bool.or_false]
       rcases Int.lt_trichotomy (Fl.rk n r) (Fl.rk m t) with h | h | h
       ·have hc0 : c = -1 := by rw [hc, if_pos h]
        rw [Int.compare_eq_lt.2 h, hc0]; simp
       ·have hc0 : c = 0 := by rw [hc, if_neg (by omega), if_pos h]
        rw [Int.compare_eq_eq.2 h, hc0]
        have hnm : n = m := by
         unfold Fl.rk at h
         cases n <;> cases m <;> simp at h ⊢ <;> omega
        subst hnm
        cases n <;> decide
       ·have hc0 : c = 1 := by rw [hc, if_neg (by omega), if_neg (by omega)]
        rw [Int.compare_eq_gt.2 h, hc0]; simp
   rw [hless]
   generalize decide ((if cmpR s a b = 0 then ((partsR s b).neg.toNat : Int) - (partsR s a).neg.toNat else cmpR s a b) < 0) = z
   cases z <;> cases least <;> simp
end Go.Proofs.YtmoimcblmmcffaaGreat.NC

namespace Go.Proofs.YtmoimcblmmcffaaGreat.NC
open Go.RowKit Go.Proofs.YtmoimcblmmcffaaGreat.B Go.Proofs.YtmoimcblmmcffaaGreat.N
set_option linter.unusedSimpArgs false
set_option linter.unusedVariables false
theorem f2f_number {y : Nat} {s : Bool} {m : Nat} {e : Int} (h : Ieee.double.read y = .number s m e) (hi : (Ieee.single.read (Ieee.single.nearest s m e)).isInfinity = false) : floatToFloatBits .f64 y .f32 = some (Ieee.single.nearest s m e) := by
 unfold floatToFloatBits
 rw [if_neg (by decide)]
 have h' : FloatKind.f64.decode y = .number s m e := h
 rw [h']
 show (if (Ieee.single.read (Ieee.single.nearest s m e)).isInfinity = true then none else some (Ieee.single.nearest s m e)) = _
 rw [hi, if_neg (by decide)]
theorem f2f_inf {y : Nat} {s : Bool} (h : Ieee.double.read y = .infinity s) : floatToFloatBits .f64 y .f32 = some (Ieee.single.word s Ieee.single.infRung) := by
 unfold floatToFloatBits
 rw [if_neg (by decide)]
 have h' : FloatKind.f64.decode y = .infinity s := h
 rw [h']
 rfl
theorem number_not_inf (neg : Bool) {r : Nat} (h : r < Ieee.single.infRung) : (Ieee.single.read (Ieee.single.word neg r)).isInfinity = false := by
 obtain ⟨m, p, e, _⟩ := Fl.read_number Ieee.single neg r h
 rw [e]; rfl
theorem double_small {x : Nat} {neg : Bool} {m : Nat} {p : Int} (h : Ieee.double.read x = .number neg m p) : m < 2 ^ 53 := by
 have hb : Ieee.double.binade = 2 ^ 52 := rfl
 rcases Fl.read_cases Ieee.double x with ⟨n, k, e, hk⟩ | ⟨n, k, q, e, h1, h2, h3⟩ | ⟨n, e⟩ | ⟨n, k, e⟩
 ·rw [e] at h; cases h; rw [hb] at hk; exact Nat.lt_trans hk (by decide)
 ·rw [e] at h; cases h; rw [hb] at h2; exact Nat.lt_of_lt_of_le h2 (by decide)
 ·rw [e] at h; cases h
 ·rw [e] at h; cases h
theorem sqrt_narrow : B.SqrtNarrow := by
 intro n x hn hsame
 unfold Ieee.Format.sqrt
 cases hd : Ieee.single.read n with
 | nan s t =>
  rw [hd] at hsame
  cases hx : Ieee.double.read x with
  | nan s' t' => rfl
  | infinity s' => rw [hx] at hsame; exact hsame.elim
  | number s' m' i' => rw [hx] at hsame; exact hsame.elim
 | infinity s =>
  rw [hd] at hsame
  cases hx : Ieee.double.read x with
  | nan s' t' => rw [hx] at hsame; exact hsame.elim
  | number s' m' i' => rw [hx] at hsame; exact hsame.elim
  | infinity s' =>
   rw [hx] at hsame
   obtain rfl : s' = s := hsame
   cases s'
   ·show ∃ z, floatToFloatBits .f64 (Ieee.double.word false Ieee.double.infRung) .f32 = some z ∧ some (Ieee.single.word false Ieee.single.infRung) = some z
    exact ⟨_, f2f_inf (Fl.read_word_inf Ieee.double false (by decide)), rfl⟩
   ·rfl
 | number s m i =>
  rw [hd] at hsame
  obtain ⟨hm, hi1, hi2⟩ := Fl.single_number hd
  cases hx : Ieee.double.read x with
  | nan s' t' => rw [hx] at hsame; exact hsame.elim
  | infinity s' => rw [hx] at hsame; exact hsame.elim
  | number s' m' i' =>
   rw [hx] at hsame
   obtain ⟨rfl, b, hb1, hb2, hv⟩ := hsame
   have hm' := double_small hx
   have p1 : 0 < 2 ^ (i' - b).toNat := Nat.two_pow_pos _
   have p2 : 0 < 2 ^ (i - b).toNat := Nat.two_pow_pos _
   by_cases h0 : m = 0
   ·subst h0
    rw [Nat.zero_mul] at hv
    obtain rfl : m' = 0 := by rcases Nat.mul_eq_zero.1 hv with h | h <;> omega
    simp only [Ieee.Datum.root, if_true, Option.map_some]
    have e1 : Ieee.double.write (.number s' 0 i') = Ieee.double.word s' 0 := by
     show Ieee.double.nearest s' 0 i' = _
     rw [Fl.nearest_rung, Fl.rung_zero]
    have e2 : Ieee.single.write (.number s' 0 i) = Ieee.single.word s' 0 := by
     show Ieee.single.nearest s' 0 i = _
     rw [Fl.nearest_rung, Fl.rung_zero]
    rw [e1, e2]
    refine ⟨Ieee.single.word s' 0, ?_, rfl⟩
    have hr := Fl.read_word_sub Ieee.double s' 0 (by decide)
    have h1 : Ieee.single.nearest s' 0 Ieee.double.leastPlace = Ieee.single.word s' 0 := by rw [Fl.nearest_rung, Fl.rung_zero]
    rw [f2f_number hr (by rw [h1]; exact number_not_inf s' (by decide)), h1]
   ·have h0' : m' ≠ 0 := by
     rintro rfl
     rw [Nat.zero_mul] at hv
     rcases Nat.mul_eq_zero.1 hv.symm with h | h <;> omega
    cases s'
    ·-- a number above 0
     have hii : (i - i').toNat + 2 ≤ 2 * 100 := by
      by_cases hle : i ≤ i'
      ·omega
      ·have e1 : (i - b).toNat = (i' - b).toNat + (i - i').toNat := by omega
       rw [e1, Nat.pow_add, Nat.mul_left_comm, Nat.mul_comm m'] at hv
       have hq := Nat.eq_of_mul_eq_mul_left p1 hv
       have h3 : 2 ^ (i - i').toNat < 2 ^ 53 := by
        refine Nat.lt_of_le_of_lt ?_ hm'
        rw [hq]
        exact Nat.le_mul_of_pos_left _ (by omega)
       have := (Nat.pow_lt_pow_iff_right (by decide : 1 < 2)).1 h3
       omega
     have ha : m * 2 ^ (i % 2).toNat ≠ 0 := by
      intro h
      have := Nat.two_pow_pos (i % 2).toNat
      rcases Nat.mul_eq_zero.1 h with h | h <;> omega
     have ha2 : m * 2 ^ (i % 2).toNat < 2 ^ 25 := by
      have h1 : m * 2 ^ (i % 2).toNat ≤ m * 2 ^ 1 := Nat.mul_le_mul_left _ (Nat.pow_le_pow_right (by decide) (by omega))
      omega
     have hR := Fl.root_is (m * 2 ^ (i % 2).toNat * 4 ^ 100)
     generalize Ieee.Datum.rootFrom (m * 2 ^ (i % 2).toNat * 4 ^ 100) _ 0 = R at hR
     obtain ⟨k1, k2, k3, k4⟩ := Fl.narrow_rung (m * 2 ^ (i % 2).toNat) 100 R ((i - i % 2) / 2 - 1 - (100 : Nat)) ha ha2 rfl hR (by omega) (by omega)
     obtain ⟨S1, q1, j1, j2, j3⟩ := Fl.root_rung Ieee.single m i h0
     have j4 := j3 100 R hR (Nat.le_trans (by decide) k4)
     obtain ⟨S2, q2, l1, l2, l3⟩ := Fl.root_same Ieee.double h0 hb2 hb1 hv.symm 100 R hR (Nat.le_trans (by decide) k4) hii
     have e1 : ((Ieee.Datum.number false m' i').root (Ieee.double.fractionBits + 2)).map Ieee.double.write = some (Ieee.double.word false (Fl.rung Ieee.double (Fl.rs (m * 2 ^ (i % 2).toNat * 4 ^ 100) R) ((i - i % 2) / 2 - 1 - (100 : Nat)))) := by
      rw [l1, ← l3, ← Fl.nearest_rung]; rfl
     have e2 : ((Ieee.Datum.number false m i).root (Ieee.single.fractionBits + 2)).map Ieee.single.write = some (Ieee.single.word false (Fl.rung Ieee.single (Fl.rs (m * 2 ^ (i % 2).toNat * 4 ^ 100) R) ((i - i % 2) / 2 - 1 - (100 : Nat)))) := by
      rw [j1, ← j4, ← Fl.nearest_rung]; rfl
     rw [e1, e2]
     refine ⟨_, ?_, rfl⟩
     have hne : Fl.rs (m * 2 ^ (i % 2).toNat * 4 ^ 100) R ≠ 0 := by
      have : 0 < 2 ^ 100 := Nat.two_pow_pos _
      omega
     have hread := Fl.read_rung Ieee.double false hne ((i - i % 2) / 2 - 1 - (100 : Nat)) k1
     generalize Fl.rs (m * 2 ^ (i % 2).toNat * 4 ^ 100) R = S at *
     generalize (i - i % 2) / 2 - 1 - ((100 : Nat) : Int) = Q at *
     obtain ⟨mm, pp, r1, r2, r3, r4, r5⟩ := Fl.read_number Ieee.double false _ k1
     rw [r1] at hread
     obtain ⟨-, c, c1, c2, c3⟩ := hread
     have hz : Ieee.single.nearest false mm pp = Ieee.single.word false (Fl.rung Ieee.single S Q) := by
      rw [Fl.nearest_rung, Fl.rung_same Ieee.single c1 c2 c3, k2]
     show floatToFloatBits .f64 _ .f32 = some _
     rw [f2f_number r1 (by rw [hz]; exact number_not_inf false k3), hz]
    ·simp only [Ieee.Datum.root, h0, h0', if_false, if_true, Option.map_none]
end Go.Proofs.YtmoimcblmmcffaaGreat.NC

namespace Go.Proofs.YtmoimcblmmcffaaGreat.NC
open Go.RowKit Go.Proofs.YtmoimcblmmcffaaGreat.B Go.Proofs.YtmoimcblmmcffaaGreat.N
set_option linter.unusedSimpArgs false
set_option linter.unusedVariables false
theorem rg_nat {s : Bool} {a : Nat} (h : a < 2 * signN s) : Rg s (a : Int) := ⟨by omega, by rw [top_sgn]; exact_mod_cast h⟩
theorem nat_rg {s : Bool} {a : Nat} (h : Rg s (a : Int)) : a < 2 * signN s := by have := h.2; rw [top_sgn] at this; exact_mod_cast this
theorem mulR_lt {s : Bool} {a b : Nat} (ha : a < 2 * signN s) (hb : b < 2 * signN s) : mulR s a b < 2 * signN s := by
 have := res_rg s .mul a b
 rw [mul_eq ha hb] at this
 exact nat_rg this
end Go.Proofs.YtmoimcblmmcffaaGreat.NC

namespace Go.Proofs.YtmoimcblmmcffaaGreat.NC
open Go.RowKit Go.Proofs.YtmoimcblmmcffaaGreat.B Go.Proofs.YtmoimcblmmcffaaGreat.N
set_option linter.unusedSimpArgs false
set_option linter.unusedVariables false
theorem wrap_i64 {m : Int} (h0 : -9223372036854775808 ≤ m) (h1 : m < 9223372036854775808) : IntKind.i64.wrap m = m := by
 unfold IntKind.wrap
 simp [IntKind.signed, IntKind.bits]
 omega
theorem op_eq {op : Int} {s : Bool} {a b : Nat} (ha : a < 2 * signN s) (hb : b < 2 * signN s) (h0 : 0 ≤ op) (h6 : op ≤ 6) : applyV op s a b = (opR op s a b : Nat) := by
 have ho : op = 0 ∨ op = 1 ∨ op = 2 ∨ op = 3 ∨ op = 4 ∨ op = 5 ∨ op = 6 := by omega
 have k4 := sign_eq ha hb
 have k0 := add_eq ha hb
 have k1 := sub_eq ha hb
 have k2 := mul_eq ha hb
 have k3 := div_eq ha hb
 have k5 := ext_eq (least := true) ha hb
 have k6 := ext_eq (least := false) ha hb
 rcases ho with rfl | rfl | rfl | rfl | rfl | rfl | rfl
 all_goals
  simp only [applyV, opR, opB, Int.reduceEq, if_true, if_false, Int.toNat_natCast, decide_true, decide_false]
 ·exact k0
 ·exact k1
 ·exact k2
 ·exact k3
 ·exact k4
 ·exact k5
 ·exact k6
end Go.Proofs.YtmoimcblmmcffaaGreat.NC

namespace Go.Proofs.YtmoimcblmmcffaaGreat.NC
open Go.RowKit Go.Proofs.YtmoimcblmmcffaaGreat.B Go.Proofs.YtmoimcblmmcffaaGreat.N
set_option linter.unusedSimpArgs false
set_option linter.unusedVariables false
theorem hideO {P : Program} {c : Code} {Q : Exit → Act → World → Prop} {a : Act} {w : World} {cs : Array Value} {t : TypeId}
  (h : ∀ W, Own W w.heap.size cs.size → Ext w W W → c.wp P Q a W) : c.wp P Q a (w.alloc (.cells cs t (0, 0))) :=
 h _ (own_new w cs t) (Ext.refl (below_alloc0 (Below.refl _ _) _))
structure PSt (w V : World) (g0 g1 g2 : Nat) (ly xs : Array Value) : Prop where
 ly : ∀ i, V.cell? ⟨g1, i, none⟩ = ly[i]?
 xs : ∀ i, V.cell? ⟨g2, i, none⟩ = xs[i]?
 o0 : Own V g0 4
 o2 : Own V g2 4
 n02 : g0 ≠ g2
 n12 : g1 ≠ g2
 s1 : g1 < V.heap.size
 w0 : w.heap.size ≤ g0
 w2 : w.heap.size ≤ g2
 bel : Below w.heap.size w V
section
variable {w V V' : World} {g0 g1 g2 : Nat} {ly xs : Array Value}
theorem PSt.call (h : PSt w V g0 g1 g2 ly xs) (hb : Below V.heap.size V V') : PSt w V' g0 g1 g2 ly xs :=
 ⟨fun i => ((bcell hb).1 _ i h.s1).trans (h.ly i), fun i => ((bcell hb).1 _ i h.o2.2.2).trans (h.xs i), h.o0.call hb, h.o2.call hb, h.n02, h.n12, Nat.lt_of_lt_of_le h.s1 hb.size, h.w0, h.w2, below_call h.bel hb⟩
theorem PSt.drew (h : PSt w V g0 g1 g2 ly xs) : PSt w V.drew g0 g1 g2 ly xs := h.call (Below.refl _ _).drew
theorem own_ext {w0 V V' : World} {g k : Nat} (h : Own V g k) (hE : Ext w0 V V') : Own V' g k :=
 ⟨fun i hi => cellOf_eq ((hE.1 _ _ h.2.2).trans (h.1 i hi)), fun i => (hE.2.1 _ _ h.2.2).trans (h.2.1 i), Nat.lt_of_lt_of_le h.2.2 hE.2.2.1⟩
theorem PSt.ext (h : PSt w V g0 g1 g2 ly xs) (hE : Ext w V V') : PSt w V' g0 g1 g2 ly xs :=
 ⟨fun i => (hE.1 _ i h.s1).trans (h.ly i), fun i => (hE.1 _ i h.o2.2.2).trans (h.xs i), own_ext h.o0 hE, own_ext h.o2 hE, h.n02, h.n12, Nat.lt_of_lt_of_le h.s1 hE.2.2.1, h.w0, h.w2, hE.2.2.2⟩
theorem PSt.set (h : PSt w V g0 g1 g2 ly xs) (j : Nat) (v : Value) (hj : j < xs.size) : PSt w (V.setCell ⟨g2, j, none⟩ v) g0 g1 g2 ly (xs.set j v hj) := by
 have hne : ∀ g i, g ≠ g2 → (V.setCell ⟨g2, j, none⟩ v).cell? ⟨g, i, none⟩ = V.cell? ⟨g, i, none⟩ := fun g i hg =>
  World.cell?_setCell_other _ _ _ _ (by intro e; injection e with e1 e2 e3; exact hg e1.symm)
 refine ⟨fun i => (hne _ i h.n12).trans (h.ly i), fun i => ?_, h.o0.set _ _, h.o2.set _ _, h.n02, h.n12, by simpa [World.setCell] using h.s1, h.w0, h.w2, h.bel.setCell (p := ⟨g2, j, none⟩) h.w2 v⟩
 rw [Array.getElem?_set]
 by_cases hi : j = i
 ·subst hi
  rw [if_pos rfl]
  have := h.xs j
  rw [Array.getElem?_eq_getElem hj] at this
  exact World.cell?_setCell_same _ _ _ this
 ·rw [if_neg hi]
  exact (cell_put_ne hi).trans (h.xs i)
theorem hideS {P : Program} {c : Code} {Q : Exit → Act → World → Prop} {a : Act} (xs' : Array Value) (h : PSt w V g0 g1 g2 ly xs) (he : xs = xs') (hc : ∀ V, PSt w V g0 g1 g2 ly xs' → c.wp P Q a V) : c.wp P Q a V := hc V (he ▸ h)
theorem hideL {P : Program} {c : Code} {Q : Exit → Act → World → Prop} {a : Act} {w1 : World} {cs : Array Value} {t : TypeId} (h0 : Own w1 g0 4) (hw : w.heap.size ≤ g0) (hb : Below w.heap.size w w1)
  (h : ∀ W g1, w1.heap.size = g1 → (∀ i, W.cell? ⟨g1, i, none⟩ = cs[i]?) → Own W g0 4 → g1 < W.heap.size → w.heap.size ≤ g1 → Below w.heap.size w W → Ext w W W → c.wp P Q a W) : c.wp P Q a (w1.alloc (.cells cs t (0, 0))) :=
 h _ _ rfl (fun i => cell_of_row _ _ i cs t (0, 0) (heap_alloc_new w1 _)) (h0.alloc _) (by simp) hb.size (below_alloc0 hb _) (Ext.refl (below_alloc0 hb _))
theorem hideX {P : Program} {c : Code} {Q : Exit → Act → World → Prop} {a : Act} {W w1 : World} {x0 x1 x2 x3 : Value} {t : TypeId} (hE : Ext w W w1) (k1 : ∀ i, W.cell? ⟨g1, i, none⟩ = ly[i]?) (s1 : g1 < W.heap.size) (h0 : Own w1 g0 4) (hw : w.heap.size ≤ g0)
  (h : ∀ V g2, w1.heap.size = g2 → PSt w V g0 g1 g2 ly #[x0, x1, x2, x3] → c.wp P Q a V) : c.wp P Q a (w1.alloc (.cells #[x0, x1, x2, x3] t (0, 0))) := by
 have hE2 := hE.alloc (.cells #[x0, x1, x2, x3] t (0, 0))
 have hlt : g1 < w1.heap.size := Nat.lt_of_lt_of_le s1 hE.2.2.1
 exact h _ _ rfl ⟨fun i => (hE2.1 _ i s1).trans (k1 i), fun i => cell_of_row _ _ i _ t (0, 0) (heap_alloc_new w1 _), h0.alloc _, own_new w1 _ t, Nat.ne_of_lt h0.2.2, Nat.ne_of_lt hlt, Nat.lt_of_lt_of_le s1 hE2.2.2.1, hw, hE.2.2.2.size, hE2.2.2.2⟩
end
theorem below_row {w w1 : World} {g : Nat} (h : Below w.heap.size w w1) (a b c d : Value) (hg : w.heap.size ≤ g := by first | exact Nat.le_refl _ | assumption) :
  Below w.heap.size w ((((w1.setCell ⟨g, 0, none⟩ a).setCell ⟨g, 1, none⟩ b).setCell ⟨g, 2, none⟩ c).setCell ⟨g, 3, none⟩ d) :=
 (((h.setCell (p := ⟨g, 0, none⟩) hg a).setCell (p := ⟨g, 1, none⟩) hg b).setCell (p := ⟨g, 2, none⟩) hg c).setCell (p := ⟨g, 3, none⟩) hg d
end Go.Proofs.YtmoimcblmmcffaaGreat.NC

namespace Go.Proofs.YtmoimcblmmcffaaGreat.NC
open Go.RowKit Go.Proofs.YtmoimcblmmcffaaGreat.B Go.Proofs.YtmoimcblmmcffaaGreat.N
set_option linter.unusedSimpArgs false
set_option linter.unusedVariables false
theorem and_part (s : Bool) (a : Nat) (ha : a < 2 * signN s) : bits .and .u64 (a : Int) (partV s) = ((a % lowN s : Nat) : Int) := by
 cases s
 ·have h1 : a < 18446744073709551616 := ha
  rw [u64_and _ _ (by omega) (by omega) (by decide) (by decide)]
  have := Nat.and_two_pow_sub_one_eq_mod a 52
  exact congrArg (fun n : Nat => (n : Int)) this
 ·have h1 : a < 4294967296 := ha
  rw [u64_and _ _ (by omega) (by omega) (by decide) (by decide)]
  have := Nat.and_two_pow_sub_one_eq_mod a 23
  exact congrArg (fun n : Nat => (n : Int)) this
theorem infV_low (s : Bool) : infV s = ((lowN s * (fieldN s - 1) : Nat) : Int) := by cases s <;> decide
inductive Read (s : Bool) (a : Nat) : PP → Prop
 | inf (neg : Bool) (hs : (bits .and .u64 (a : Int) (signV s) != 0) = neg) (hN : nothingV s a = false) (hI : infiniteV s a = true) : Read s a ⟨2, neg, 0, 0⟩
 | nan (hN : nothingV s a = true) : Read s a ⟨3, false, 0, 0⟩
 | zero (neg : Bool) (hs : (bits .and .u64 (a : Int) (signV s) != 0) = neg) (hN : nothingV s a = false) (hI : infiniteV s a = false) (hZ : zeroV s a = true) : Read s a ⟨0, neg, 0, 0⟩
 | den (neg : Bool) (r : Nat) (hs : (bits .and .u64 (a : Int) (signV s) != 0) = neg) (hN : nothingV s a = false) (hI : infiniteV s a = false) (hZ : zeroV s a = false) (hp : bits .and .u64 (a : Int) (partV s) = (r : Int)) (he : bits .andNot .u64 (a : Int) (signV s) = (r : Int)) (hr : r < lowN s) : Read s a ⟨1, neg, r, leastN s⟩
 | nor (neg : Bool) (r f : Nat) (hs : (bits .and .u64 (a : Int) (signV s) != 0) = neg) (hN : nothingV s a = false) (hI : infiniteV s a = false) (hZ : zeroV s a = false) (hp : bits .and .u64 (a : Int) (partV s) = (r : Int)) (he : bits .andNot .u64 (a : Int) (signV s) = ((r + lowN s * f : Nat) : Int)) (hr : r < lowN s) (hf : f ≠ 0) (hf2 : f + 1 < fieldN s) : Read s a ⟨1, neg, r + lowN s, (f : Int) - 1 + leastN s⟩
theorem read_of (s : Bool) (a : Nat) (ha : a < 2 * signN s) : Read s a (partsR s a) := by
 have hl := low_pos s
 have hf3 := field_three s
 have hlf := low_field s
 have hr : a % lowN s < lowN s := Nat.mod_lt _ hl
 have hf : a / lowN s % fieldN s < fieldN s := Nat.mod_lt _ (by omega)
 have hrung : a % signN s = a % lowN s + lowN s * (a / lowN s % fieldN s) := by rw [← hlf, Nat.mod_mul]
 have hdiv : a / lowN s / fieldN s = a / signN s := by rw [Nat.div_div_eq_div_mul, hlf]
 have hs0 : 0 < signN s := by cases s <;> decide
 have hd2 : a / signN s < 2 := (Nat.div_lt_iff_lt_mul hs0).2 ha
 have hneg : (bits .and .u64 (a : Int) (signV s) != 0) = decide (a / lowN s / fieldN s = 1) := by
  rw [and_sign s _ (by omega) (by rw [top_sgn]; exact_mod_cast ha), hdiv, sgn_eq]
  by_cases h : a < signN s
  ·rw [if_pos (by exact_mod_cast h), Nat.div_eq_of_lt h]; rfl
  ·rw [if_neg (by exact_mod_cast h)]
   have : a / signN s = 1 := by
    have : 1 ≤ a / signN s := (Nat.le_div_iff_mul_le hs0).2 (by omega)
    omega
   rw [this]
   have : ((signN s : Int) != 0) = true := by rw [bne_iff_ne]; omega
   rw [this]; rfl
 have hand : bits .andNot .u64 (a : Int) (signV s) = ((a % signN s : Nat) : Int) := by
  rw [andNot_sign s _ (by omega) (by rw [top_sgn]; exact_mod_cast ha), sgn_eq]; rfl
 have hpart := and_part s a ha
 have hN : nothingV s a = decide (lowN s * (fieldN s - 1) < a % signN s) := by
  unfold nothingV; rw [hand, infV_low]; exact decide_eq_decide.2 (by omega)
 have hI : infiniteV s a = decide (a % signN s = lowN s * (fieldN s - 1)) := by
  unfold infiniteV; rw [hand, infV_low, Bool.eq_iff_iff]; simp only [beq_iff_eq, decide_eq_true_eq]; omega
 have hZ : zeroV s a = decide (a % signN s = 0) := by
  unfold zeroV; rw [hand, Bool.eq_iff_iff]; simp only [beq_iff_eq, decide_eq_true_eq]; omega
 unfold partsR
 generalize decide (a / lowN s / fieldN s = 1) = neg at *
 generalize a / lowN s % fieldN s = f at *
 rw [hrung] at hN hI hZ hand
 generalize a % lowN s = r at *
 clear hdiv hd2 hrung
 have hcase := parts_leaf (s := s) (f := f) (r := r) (neg := neg) rfl
 have hge : f + 1 ≠ fieldN s → r + lowN s * f < lowN s * (fieldN s - 1) := by
  intro h
  have : lowN s * (f + 1) ≤ lowN s * (fieldN s - 1) := Nat.mul_le_mul_left _ (by omega)
  rw [Nat.mul_add, Nat.mul_one] at this
  omega
 have heq : f + 1 = fieldN s → lowN s * f = lowN s * (fieldN s - 1) := fun h => by rw [show fieldN s - 1 = f by omega]
 rcases hcase with ⟨h1, h2, h⟩ | ⟨h1, h2, h⟩ | ⟨h1, h2, h3, h⟩ | ⟨h1, h2, h3, h⟩ | ⟨h1, h2, h⟩ <;> rw [h]
 ·have := heq h1
  rw [decide_eq_false (by omega)] at hN
  rw [decide_eq_true (by omega)] at hI
  exact .inf neg hneg hN hI
 ·have := heq h1
  rw [decide_eq_true (by omega)] at hN
  exact .nan hN
 ·have := hge h1
  subst h2 h3
  rw [decide_eq_false (by omega)] at hN
  rw [decide_eq_false (by omega)] at hI
  rw [decide_eq_true (by simp)] at hZ
  exact .zero neg hneg hN hI hZ
 ·have := hge h1
  subst h2
  rw [decide_eq_false (by omega)] at hN
  rw [decide_eq_false (by omega)] at hI
  rw [decide_eq_false (by simp; exact h3)] at hZ
  rw [Nat.mul_zero, Nat.add_zero] at hand
  exact .den neg r hneg hN hI hZ hpart hand hr
 ·have := hge h1
  have hpos : 0 < lowN s * f := Nat.mul_pos hl (by omega)
  rw [decide_eq_false (by omega)] at hN
  rw [decide_eq_false (by omega)] at hI
  rw [decide_eq_false (by omega)] at hZ
  exact .nor neg r f hneg hN hI hZ hpart hand hr h2 (by omega)
end Go.Proofs.YtmoimcblmmcffaaGreat.NC

namespace Go.Proofs.YtmoimcblmmcffaaGreat.NC
open Go.RowKit Go.Proofs.YtmoimcblmmcffaaGreat.B Go.Proofs.YtmoimcblmmcffaaGreat.N
set_option linter.unusedSimpArgs false
set_option linter.unusedVariables false
set_option maxRecDepth 100000 in
set_option maxHeartbeats 8000000 in
theorem partsOf_inf_false (b : Int) (w : World) (hb : Rg false b) (neg : Bool) (hs : (bits .and .u64 b (signV false) != 0) = neg) (hN : nothingV false b = false) (hI : infiniteV false b = true) : Calls Tryz.prog 138 #[.int .i64 2, .int .u64 b] w (Ret (.tuple #[.agg #[.int .i64 2, .bool neg, .int .i64 0, .int .i64 0], .int .i64 0]) w) := by
 have c1 := fun g w h => valid1_c 2 b g w hb.u64 h
 have hv : validV 2 [b] = 0 := hb.valid1
 rw [hv] at c1
 have c2 : ∀ w, Calls Tryz.prog 142 #[.int .i64 2] w (Ret (layV false) w) := fun w => layoutOf_c 2 w
 have c3 := fun w => sign_c false w
 have c4 := fun w => isNothing_c false b w
 have c5 := fun w => isInfinite_c false b w
 have c6 := fun w => isZero_c false b w
 have c7 := fun w => part_c false w
 rw [hN] at c4
 rw [hI] at c5
 generalize signV false = S at *
 generalize partV false = PT at *
 simp only [layV] at *
 clear hv hb
 go_enter Tryz.func138, Tryz.ntmps138
 go_upto_region 1 with (fail)
 refine hideO (fun W h0 HE => ?_)
 go_upto_region 4 with (go_at_call 141; refine (c1 _ _ (by go_simp)).mono ?_; rintro e w1 ⟨rfl, hb1⟩; have HE1 := Ext.next (w0 := w) (W := W) hb1; have h1 : Own w1 w.heap.size 4 := (h0.alloc _).call hb1)
 go_upto_region 5 with (go_at_call 142; refine (c2 _).mono ?_; rintro e w2 ⟨rfl, hb2⟩; have HE2 := HE1.call hb2; have h2 : Own w2 w.heap.size 4 := h1.call hb2)
 refine hideL h2 (Nat.le_refl _) HE2.2.2.2 (fun W3 g1 hg1 k1 h3 s1 hwg hB3 hE3 => ?_)
 subst hg1
 clear h0 h1 h2 HE HE1 HE2 hb1 hb2 c1 c2
 generalize w2.heap.size = g1 at *
 go_upto_region 12 with (go_at_call 144; refine (c3 _).mono ?_; rintro e w4 ⟨rfl, hb4⟩; have HE4 := hE3.call hb4; have h4 : Own w4 w.heap.size 4 := h3.call hb4)
 refine hideX HE4 k1 s1 h4 (Nat.le_refl _) (fun V g2 hg2 hP => ?_)
 subst hg2
 clear h3 h4 HE4 hE3 hb4 k1 s1 hB3
 generalize w4.heap.size = g2 at *
 have hPP := Lib.hid hP
 obtain ⟨k1, k2, o0, o2, n02, n12, s1, w0, w2, bel⟩ := hP
 go_upto_region 15 with (first | (go_at_call 150; refine (c4 _).mono ?_; rintro e w5 ⟨rfl, hb5⟩; have hP5 := hPP.out.call hb5; have k5 := hP5.ly; have s5 := hP5.s1; clear k1 k2 o0 o2 s1 bel) | (go_at_call 151; refine (c5 _).mono ?_; rintro e w6 ⟨rfl, hb6⟩; have hP6 := hP5.call hb6; have k6 := hP6.ly; have s6 := hP6.s1; have x6 := hP6.xs; have o6 := hP6.o2; clear k5 s5))
 have hQ := hP6
 clear hPP
 go_upto_region 18 with (fail)
 refine hideS #[.int .i64 2, .bool neg, .int .i64 0, .int .i64 0] (hQ.set 0 (.int .i64 2) (Nat.lt_of_lt_of_le (by decide) (Nat.le_refl 4))) rfl (fun X hX => ?_)
 obtain ⟨k1, k2, o0, o2, -, -, s1, -, -, bel⟩ := hX
 go_wp2
 have hr := Own.read4 (n := 0) ((((o0.set ⟨w.heap.size, 0, none⟩ (.int .i64 2)).set ⟨w.heap.size, 1, none⟩ (.bool neg)).set ⟨w.heap.size, 2, none⟩ (.int .i64 0)).set ⟨w.heap.size, 3, none⟩ (.int .i64 0))
 exact bodyPost_ret (v := .tuple #[.agg #[.int .i64 2, .bool neg, .int .i64 0, .int .i64 0], .int .i64 0]) (by simp [results, Tryz.results138, go_sem, hr.1, hr.2.1, hr.2.2.1, hr.2.2.2]) rfl ⟨rfl, below_row bel _ _ _ _⟩
set_option maxRecDepth 100000 in
set_option maxHeartbeats 8000000 in
theorem partsOf_nan_false (b : Int) (w : World) (hb : Rg false b) (hN : nothingV false b = true) : Calls Tryz.prog 138 #[.int .i64 2, .int .u64 b] w (Ret (.tuple #[.agg #[.int .i64 3, .bool false, .int .i64 0, .int .i64 0], .int .i64 0]) w) := by
 have c1 := fun g w h => valid1_c 2 b g w hb.u64 h
 have hv : validV 2 [b] = 0 := hb.valid1
 rw [hv] at c1
 have c2 : ∀ w, Calls Tryz.prog 142 #[.int .i64 2] w (Ret (layV false) w) := fun w => layoutOf_c 2 w
 have c3 := fun w => sign_c false w
 have c4 := fun w => isNothing_c false b w
 have c5 := fun w => isInfinite_c false b w
 have c6 := fun w => isZero_c false b w
 have c7 := fun w => part_c false w
 rw [hN] at c4
 obtain ⟨neg, hs⟩ : ∃ neg, (bits .and .u64 b (signV false) != 0) = neg := ⟨_, rfl⟩
 generalize signV false = S at *
 generalize partV false = PT at *
 simp only [layV] at *
 clear hv hb
 go_enter Tryz.func138, Tryz.ntmps138
 go_upto_region 1 with (fail)
 refine hideO (fun W h0 HE => ?_)
 go_upto_region 4 with (go_at_call 141; refine (c1 _ _ (by go_simp)).mono ?_; rintro e w1 ⟨rfl, hb1⟩; have HE1 := Ext.next (w0 := w) (W := W) hb1; have h1 : Own w1 w.heap.size 4 := (h0.alloc _).call hb1)
 go_upto_region 5 with (go_at_call 142; refine (c2 _).mono ?_; rintro e w2 ⟨rfl, hb2⟩; have HE2 := HE1.call hb2; have h2 : Own w2 w.heap.size 4 := h1.call hb2)
 refine hideL h2 (Nat.le_refl _) HE2.2.2.2 (fun W3 g1 hg1 k1 h3 s1 hwg hB3 hE3 => ?_)
 subst hg1
 clear h0 h1 h2 HE HE1 HE2 hb1 hb2 c1 c2
 generalize w2.heap.size = g1 at *
 go_upto_region 12 with (go_at_call 144; refine (c3 _).mono ?_; rintro e w4 ⟨rfl, hb4⟩; have HE4 := hE3.call hb4; have h4 : Own w4 w.heap.size 4 := h3.call hb4)
 refine hideX HE4 k1 s1 h4 (Nat.le_refl _) (fun V g2 hg2 hP => ?_)
 subst hg2
 clear h3 h4 HE4 hE3 hb4 k1 s1 hB3
 generalize w4.heap.size = g2 at *
 have hPP := Lib.hid hP
 obtain ⟨k1, k2, o0, o2, n02, n12, s1, w0, w2, bel⟩ := hP
 go_wp2_with (go_at_call 150; refine (c4 _).mono ?_; rintro e w5 ⟨rfl, hb5⟩; have o0 := o0.call hb5; have bel := below_call bel hb5)
 have hr := Own.read4 (n := 0) ((((o0.set ⟨w.heap.size, 0, none⟩ (.int .i64 3)).set ⟨w.heap.size, 1, none⟩ (.bool false)).set ⟨w.heap.size, 2, none⟩ (.int .i64 0)).set ⟨w.heap.size, 3, none⟩ (.int .i64 0))
 exact bodyPost_ret (v := .tuple #[.agg #[.int .i64 3, .bool false, .int .i64 0, .int .i64 0], .int .i64 0]) (by simp [results, Tryz.results138, go_sem, hr.1, hr.2.1, hr.2.2.1, hr.2.2.2]) rfl ⟨rfl, below_row bel _ _ _ _⟩
set_option maxRecDepth 100000 in
set_option maxHeartbeats 8000000 in
theorem partsOf_zero_false (b : Int) (w : World) (hb : Rg false b) (neg : Bool) (hs : (bits .and .u64 b (signV false) != 0) = neg) (hN : nothingV false b = false) (hI : infiniteV false b = false) (hZ : zeroV false b = true) : Calls Tryz.prog 138 #[.int .i64 2, .int .u64 b] w (Ret (.tuple #[.agg #[.int .i64 0, .bool neg, .int .i64 0, .int .i64 0], .int .i64 0]) w) := by
 have c1 := fun g w h => valid1_c 2 b g w hb.u64 h
 have hv : validV 2 [b] = 0 := hb.valid1
 rw [hv] at c1
 have c2 : ∀ w, Calls Tryz.prog 142 #[.int .i64 2] w (Ret (layV false) w) := fun w => layoutOf_c 2 w
 have c3 := fun w => sign_c false w
 have c4 := fun w => isNothing_c false b w
 have c5 := fun w => isInfinite_c false b w
 have c6 := fun w => isZero_c false b w
 have c7 := fun w => part_c false w
 rw [hN] at c4
 rw [hI] at c5
 rw [hZ] at c6
 generalize signV false = S at *
 generalize partV false = PT at *
 simp only [layV] at *
 clear hv hb
 go_enter Tryz.func138, Tryz.ntmps138
 go_upto_region 1 with (fail)
 refine hideO (fun W h0 HE => ?_)
 go_upto_region 4 with (go_at_call 141; refine (c1 _ _ (by go_simp)).mono ?_; rintro e w1 ⟨rfl, hb1⟩; have HE1 := Ext.next (w0 := w) (W := W) hb1; have h1 : Own w1 w.heap.size 4 := (h0.alloc _).call hb1)
 go_upto_region 5 with (go_at_call 142; refine (c2 _).mono ?_; rintro e w2 ⟨rfl, hb2⟩; have HE2 := HE1.call hb2; have h2 : Own w2 w.heap.size 4 := h1.call hb2)
 refine hideL h2 (Nat.le_refl _) HE2.2.2.2 (fun W3 g1 hg1 k1 h3 s1 hwg hB3 hE3 => ?_)
 subst hg1
 clear h0 h1 h2 HE HE1 HE2 hb1 hb2 c1 c2
 generalize w2.heap.size = g1 at *
 go_upto_region 12 with (go_at_call 144; refine (c3 _).mono ?_; rintro e w4 ⟨rfl, hb4⟩; have HE4 := hE3.call hb4; have h4 : Own w4 w.heap.size 4 := h3.call hb4)
 refine hideX HE4 k1 s1 h4 (Nat.le_refl _) (fun V g2 hg2 hP => ?_)
 subst hg2
 clear h3 h4 HE4 hE3 hb4 k1 s1 hB3
 generalize w4.heap.size = g2 at *
 have hPP := Lib.hid hP
 obtain ⟨k1, k2, o0, o2, n02, n12, s1, w0, w2, bel⟩ := hP
 go_upto_region 17 with (first | (go_at_call 150; refine (c4 _).mono ?_; rintro e w5 ⟨rfl, hb5⟩; have hP5 := hPP.out.call hb5; have k5 := hP5.ly; have s5 := hP5.s1; clear k1 k2 o0 o2 s1 bel) | (go_at_call 151; refine (c5 _).mono ?_; rintro e w6 ⟨rfl, hb6⟩; have hP6 := hP5.call hb6; have k6 := hP6.ly; have s6 := hP6.s1; have x6 := hP6.xs; have o6 := hP6.o2; clear k5 s5) | (go_at_call 152; refine (c6 _).mono ?_; rintro e w7 ⟨rfl, hb7⟩; have hP7 := hP6.call hb7; have k7 := hP7.ly; have s7 := hP7.s1; have x7 := hP7.xs; have o7 := hP7.o2; clear k6 s6 x6 o6))
 have hQ := hP7
 clear hPP
 go_upto_region 18 with (fail)
 refine hideS #[.int .i64 0, .bool neg, .int .i64 0, .int .i64 0] (hQ.set 0 (.int .i64 0) (Nat.lt_of_lt_of_le (by decide) (Nat.le_refl 4))) rfl (fun X hX => ?_)
 obtain ⟨k1, k2, o0, o2, -, -, s1, -, -, bel⟩ := hX
 go_wp2
 have hr := Own.read4 (n := 0) ((((o0.set ⟨w.heap.size, 0, none⟩ (.int .i64 0)).set ⟨w.heap.size, 1, none⟩ (.bool neg)).set ⟨w.heap.size, 2, none⟩ (.int .i64 0)).set ⟨w.heap.size, 3, none⟩ (.int .i64 0))
 exact bodyPost_ret (v := .tuple #[.agg #[.int .i64 0, .bool neg, .int .i64 0, .int .i64 0], .int .i64 0]) (by simp [results, Tryz.results138, go_sem, hr.1, hr.2.1, hr.2.2.1, hr.2.2.2]) rfl ⟨rfl, below_row bel _ _ _ _⟩
set_option maxRecDepth 100000 in
set_option maxHeartbeats 8000000 in
theorem partsOf_den_false (b : Int) (w : World) (hb : Rg false b) (neg : Bool) (r : Int) (hs : (bits .and .u64 b (signV false) != 0) = neg) (hN : nothingV false b = false) (hI : infiniteV false b = false) (hZ : zeroV false b = false) (hp : bits .and .u64 b (partV false) = r) (he : bits .andNot .u64 b (signV false) = r) (hr0 : 0 ≤ r) (hr : r < 4503599627370496) : Calls Tryz.prog 138 #[.int .i64 2, .int .u64 b] w (Ret (.tuple #[.agg #[.int .i64 1, .bool neg, .int .i64 r, .int .i64 (-1074)], .int .i64 0]) w) := by
 have c1 := fun g w h => valid1_c 2 b g w hb.u64 h
 have hv : validV 2 [b] = 0 := hb.valid1
 rw [hv] at c1
 have c2 : ∀ w, Calls Tryz.prog 142 #[.int .i64 2] w (Ret (layV false) w) := fun w => layoutOf_c 2 w
 have c3 := fun w => sign_c false w
 have c4 := fun w => isNothing_c false b w
 have c5 := fun w => isInfinite_c false b w
 have c6 := fun w => isZero_c false b w
 have c7 := fun w => part_c false w
 rw [hN] at c4
 rw [hI] at c5
 rw [hZ] at c6
 generalize signV false = S at *
 generalize partV false = PT at *
 simp only [layV] at *
 clear hv hb
 have hw : IntKind.i64.wrap 52 = 52 := by decide
 have f1 : IntKind.i64.wrap r = r := wrap_i64 (by omega) (by omega)
 have f2 : r / 4503599627370496 = 0 := by omega
 go_enter Tryz.func138, Tryz.ntmps138
 go_upto_region 1 with (fail)
 refine hideO (fun W h0 HE => ?_)
 go_upto_region 4 with (go_at_call 141; refine (c1 _ _ (by go_simp)).mono ?_; rintro e w1 ⟨rfl, hb1⟩; have HE1 := Ext.next (w0 := w) (W := W) hb1; have h1 : Own w1 w.heap.size 4 := (h0.alloc _).call hb1)
 go_upto_region 5 with (go_at_call 142; refine (c2 _).mono ?_; rintro e w2 ⟨rfl, hb2⟩; have HE2 := HE1.call hb2; have h2 : Own w2 w.heap.size 4 := h1.call hb2)
 refine hideL h2 (Nat.le_refl _) HE2.2.2.2 (fun W3 g1 hg1 k1 h3 s1 hwg hB3 hE3 => ?_)
 subst hg1
 clear h0 h1 h2 HE HE1 HE2 hb1 hb2 c1 c2
 generalize w2.heap.size = g1 at *
 go_upto_region 12 with (go_at_call 144; refine (c3 _).mono ?_; rintro e w4 ⟨rfl, hb4⟩; have HE4 := hE3.call hb4; have h4 : Own w4 w.heap.size 4 := h3.call hb4)
 refine hideX HE4 k1 s1 h4 (Nat.le_refl _) (fun V g2 hg2 hP => ?_)
 subst hg2
 clear h3 h4 HE4 hE3 hb4 k1 s1 hB3
 generalize w4.heap.size = g2 at *
 have hPP := Lib.hid hP
 obtain ⟨k1, k2, o0, o2, n02, n12, s1, w0, w2, bel⟩ := hP
 go_upto_region 6 with (first | (go_at_call 150; refine (c4 _).mono ?_; rintro e w5 ⟨rfl, hb5⟩; have hP5 := hPP.out.call hb5; have k5 := hP5.ly; have s5 := hP5.s1; clear k1 k2 o0 o2 s1 bel) | (go_at_call 151; refine (c5 _).mono ?_; rintro e w6 ⟨rfl, hb6⟩; have hP6 := hP5.call hb6; have k6 := hP6.ly; have s6 := hP6.s1; have x6 := hP6.xs; have o6 := hP6.o2; clear k5 s5) | (go_at_call 152; refine (c6 _).mono ?_; rintro e w7 ⟨rfl, hb7⟩; have hP7 := hP6.call hb7; have k7 := hP7.ly; have s7 := hP7.s1; have x7 := hP7.xs; have o7 := hP7.o2; clear k6 s6 x6 o6))
 have hQ := hP7
 clear hPP
 go_region
 go_upto_region 7 with (fail)
 refine hideS #[.int .i64 1, .bool neg, .int .i64 0, .int .i64 (-1074)] ((hQ.set 0 (.int .i64 1) (Nat.lt_of_lt_of_le (by decide) (Nat.le_refl 4))).set 3 (.int .i64 (-1074)) (Nat.lt_of_lt_of_le (by decide) (Nat.le_refl 4))).drew rfl (fun X hX => ?_)
 clear hP5 hP6 hP7 hQ k7 s7 x7 o7 hb5 hb6 hb7
 have hXX := Lib.hid hX
 obtain ⟨k1, k2, o0, o2, -, -, s1, -, -, bel⟩ := hX
 go_upto_region 8 with (go_at_call 153; refine (c7 _).mono ?_; rintro e w8 ⟨rfl, hb8⟩; have hP8 := hXX.out.call hb8; have k8 := hP8.ly; have s8 := hP8.s1; have x8 := hP8.xs; have o8 := hP8.o2; clear k1 k2 o0 o2 s1 bel)
 refine hideS #[.int .i64 1, .bool neg, .int .i64 r, .int .i64 (-1074)] (hP8.set 2 (.int .i64 r) (Nat.lt_of_lt_of_le (by decide) (Nat.le_refl 4))) rfl (fun Y hY => ?_)
 clear hP8 k8 s8 x8 o8 hb8 hXX
 have hYY := Lib.hid hY
 obtain ⟨k1, k2, o0, o2, -, -, s1, -, -, bel⟩ := hY
 have hEY : Ext w Y Y := Ext.refl bel
 go_region_held3 (fun w' => Ext w Y w') (first | assumption | (with_reducible exact Ext.call (by assumption) hb9) | ((with_reducible refine Ext.drew ?_); assumption)) ((go_at_call 144; (with_reducible refine (c3 _).mono ?_); rintro e w9 ⟨rfl, hb9⟩; have HE9 : Ext w Y w9 := Ext.call (by assumption) hb9))
 have hP9 := hYY.out.ext HE9
 clear k1 k2 o0 o2 s1 bel hEY hYY HE9 hb9
 have hPP := Lib.hid hP9
 obtain ⟨k1, k2, o0, o2, -, -, s1, -, -, bel⟩ := hP9
 go_wp2
 have hr := Own.read4 (n := 0) ((((o0.set ⟨w.heap.size, 0, none⟩ (.int .i64 1)).set ⟨w.heap.size, 1, none⟩ (.bool neg)).set ⟨w.heap.size, 2, none⟩ (.int .i64 r)).set ⟨w.heap.size, 3, none⟩ (.int .i64 (-1074)))
 exact bodyPost_ret (v := .tuple #[.agg #[.int .i64 1, .bool neg, .int .i64 r, .int .i64 (-1074)], .int .i64 0]) (by simp [results, Tryz.results138, go_sem, hr.1, hr.2.1, hr.2.2.1, hr.2.2.2]) rfl ⟨rfl, below_row bel _ _ _ _⟩
set_option maxRecDepth 100000 in
set_option maxHeartbeats 8000000 in
theorem partsOf_nor_false (b : Int) (w : World) (hb : Rg false b) (neg : Bool) (r f e : Int) (hs : (bits .and .u64 b (signV false) != 0) = neg) (hN : nothingV false b = false) (hI : infiniteV false b = false) (hZ : zeroV false b = false) (hp : bits .and .u64 b (partV false) = r) (he : bits .andNot .u64 b (signV false) = e) (he0 : e = r + 4503599627370496 * f) (hr0 : 0 ≤ r) (hr : r < 4503599627370496) (hf : 1 ≤ f) (hf2 : f < 2047) : Calls Tryz.prog 138 #[.int .i64 2, .int .u64 b] w (Ret (.tuple #[.agg #[.int .i64 1, .bool neg, .int .i64 (r + 4503599627370496), .int .i64 (-1074 + (f - 1))], .int .i64 0]) w) := by
 have c1 := fun g w h => valid1_c 2 b g w hb.u64 h
 have hv : validV 2 [b] = 0 := hb.valid1
 rw [hv] at c1
 have c2 : ∀ w, Calls Tryz.prog 142 #[.int .i64 2] w (Ret (layV false) w) := fun w => layoutOf_c 2 w
 have c3 := fun w => sign_c false w
 have c4 := fun w => isNothing_c false b w
 have c5 := fun w => isInfinite_c false b w
 have c6 := fun w => isZero_c false b w
 have c7 := fun w => part_c false w
 rw [hN] at c4
 rw [hI] at c5
 rw [hZ] at c6
 generalize signV false = S at *
 generalize partV false = PT at *
 simp only [layV] at *
 clear hv hb
 have hw : IntKind.i64.wrap 52 = 52 := by decide
 have f1 : IntKind.i64.wrap r = r := wrap_i64 (by omega) (by omega)
 have f3 : IntKind.i64.wrap e = e := wrap_i64 (by omega) (by omega)
 have f2 : e / 4503599627370496 = f := by omega
 clear he0
 go_enter Tryz.func138, Tryz.ntmps138
 go_upto_region 1 with (fail)
 refine hideO (fun W h0 HE => ?_)
 go_upto_region 4 with (go_at_call 141; refine (c1 _ _ (by go_simp)).mono ?_; rintro e w1 ⟨rfl, hb1⟩; have HE1 := Ext.next (w0 := w) (W := W) hb1; have h1 : Own w1 w.heap.size 4 := (h0.alloc _).call hb1)
 go_upto_region 5 with (go_at_call 142; refine (c2 _).mono ?_; rintro e w2 ⟨rfl, hb2⟩; have HE2 := HE1.call hb2; have h2 : Own w2 w.heap.size 4 := h1.call hb2)
 refine hideL h2 (Nat.le_refl _) HE2.2.2.2 (fun W3 g1 hg1 k1 h3 s1 hwg hB3 hE3 => ?_)
 subst hg1
 clear h0 h1 h2 HE HE1 HE2 hb1 hb2 c1 c2
 generalize w2.heap.size = g1 at *
 go_upto_region 12 with (go_at_call 144; refine (c3 _).mono ?_; rintro e w4 ⟨rfl, hb4⟩; have HE4 := hE3.call hb4; have h4 : Own w4 w.heap.size 4 := h3.call hb4)
 refine hideX HE4 k1 s1 h4 (Nat.le_refl _) (fun V g2 hg2 hP => ?_)
 subst hg2
 clear h3 h4 HE4 hE3 hb4 k1 s1 hB3
 generalize w4.heap.size = g2 at *
 have hPP := Lib.hid hP
 obtain ⟨k1, k2, o0, o2, n02, n12, s1, w0, w2, bel⟩ := hP
 go_upto_region 6 with (first | (go_at_call 150; refine (c4 _).mono ?_; rintro e w5 ⟨rfl, hb5⟩; have hP5 := hPP.out.call hb5; have k5 := hP5.ly; have s5 := hP5.s1; clear k1 k2 o0 o2 s1 bel) | (go_at_call 151; refine (c5 _).mono ?_; rintro e w6 ⟨rfl, hb6⟩; have hP6 := hP5.call hb6; have k6 := hP6.ly; have s6 := hP6.s1; have x6 := hP6.xs; have o6 := hP6.o2; clear k5 s5) | (go_at_call 152; refine (c6 _).mono ?_; rintro e w7 ⟨rfl, hb7⟩; have hP7 := hP6.call hb7; have k7 := hP7.ly; have s7 := hP7.s1; have x7 := hP7.xs; have o7 := hP7.o2; clear k6 s6 x6 o6))
 have hQ := hP7
 clear hPP
 go_region
 go_upto_region 7 with (fail)
 refine hideS #[.int .i64 1, .bool neg, .int .i64 0, .int .i64 (-1074)] ((hQ.set 0 (.int .i64 1) (Nat.lt_of_lt_of_le (by decide) (Nat.le_refl 4))).set 3 (.int .i64 (-1074)) (Nat.lt_of_lt_of_le (by decide) (Nat.le_refl 4))).drew rfl (fun X hX => ?_)
 clear hP5 hP6 hP7 hQ k7 s7 x7 o7 hb5 hb6 hb7
 have hXX := Lib.hid hX
 obtain ⟨k1, k2, o0, o2, -, -, s1, -, -, bel⟩ := hX
 go_upto_region 8 with (go_at_call 153; refine (c7 _).mono ?_; rintro e w8 ⟨rfl, hb8⟩; have hP8 := hXX.out.call hb8; have k8 := hP8.ly; have s8 := hP8.s1; have x8 := hP8.xs; have o8 := hP8.o2; clear k1 k2 o0 o2 s1 bel)
 refine hideS #[.int .i64 1, .bool neg, .int .i64 r, .int .i64 (-1074)] (hP8.set 2 (.int .i64 r) (Nat.lt_of_lt_of_le (by decide) (Nat.le_refl 4))) rfl (fun Y hY => ?_)
 clear hP8 k8 s8 x8 o8 hb8 hXX
 have hYY := Lib.hid hY
 obtain ⟨k1, k2, o0, o2, -, -, s1, -, -, bel⟩ := hY
 have hEY : Ext w Y Y := Ext.refl bel
 go_region_held3 (fun w' => Ext w Y w') (first | assumption | (with_reducible exact Ext.call (by assumption) hb9) | ((with_reducible refine Ext.drew ?_); assumption)) ((go_at_call 144; (with_reducible refine (c3 _).mono ?_); rintro e w9 ⟨rfl, hb9⟩; have HE9 : Ext w Y w9 := Ext.call (by assumption) hb9))
 have hP9 := hYY.out.ext HE9
 clear k1 k2 o0 o2 s1 bel hEY hYY HE9 hb9
 have hPP := Lib.hid hP9
 obtain ⟨k1, k2, o0, o2, -, -, s1, -, -, bel⟩ := hP9
 go_upto_region 10 with (fail)
 go_region
 go_upto_region 11 with (fail)
 refine hideS #[.int .i64 1, .bool neg, .int .i64 (r + 4503599627370496), .int .i64 (-1074)] (hPP.out.set 2 (.int .i64 (r + 4503599627370496)) (Nat.lt_of_lt_of_le (by decide) (Nat.le_refl 4))).drew rfl (fun Z hZ => ?_)
 clear hPP k1 k2 o0 o2 s1 bel
 have hZZ := Lib.hid hZ
 obtain ⟨k1, k2, o0, o2, -, -, s1, -, -, bel⟩ := hZ
 go_upto_region 18 with (fail)
 refine hideS #[.int .i64 1, .bool neg, .int .i64 (r + 4503599627370496), .int .i64 (-1074 + (f - 1))] (hZZ.out.set 3 (.int .i64 (-1074 + (f - 1))) (Nat.lt_of_lt_of_le (by decide) (Nat.le_refl 4))) rfl (fun U hU => ?_)
 clear hZZ k1 k2 o0 o2 s1 bel
 obtain ⟨k1, k2, o0, o2, -, -, s1, -, -, bel⟩ := hU
 go_wp2
 have hr := Own.read4 (n := 0) ((((o0.set ⟨w.heap.size, 0, none⟩ (.int .i64 1)).set ⟨w.heap.size, 1, none⟩ (.bool neg)).set ⟨w.heap.size, 2, none⟩ (.int .i64 (r + 4503599627370496))).set ⟨w.heap.size, 3, none⟩ (.int .i64 (-1074 + (f - 1))))
 exact bodyPost_ret (v := .tuple #[.agg #[.int .i64 1, .bool neg, .int .i64 (r + 4503599627370496), .int .i64 (-1074 + (f - 1))], .int .i64 0]) (by simp [results, Tryz.results138, go_sem, hr.1, hr.2.1, hr.2.2.1, hr.2.2.2]) rfl ⟨rfl, below_row bel _ _ _ _⟩
set_option maxRecDepth 100000 in
set_option maxHeartbeats 8000000 in
theorem partsOf_inf_true (b : Int) (w : World) (hb : Rg true b) (neg : Bool) (hs : (bits .and .u64 b (signV true) != 0) = neg) (hN : nothingV true b = false) (hI : infiniteV true b = true) : Calls Tryz.prog 138 #[.int .i64 1, .int .u64 b] w (Ret (.tuple #[.agg #[.int .i64 2, .bool neg, .int .i64 0, .int .i64 0], .int .i64 0]) w) := by
 have c1 := fun g w h => valid1_c 1 b g w hb.u64 h
 have hv : validV 1 [b] = 0 := hb.valid1
 rw [hv] at c1
 have c2 : ∀ w, Calls Tryz.prog 142 #[.int .i64 1] w (Ret (layV true) w) := fun w => layoutOf_c 1 w
 have c3 := fun w => sign_c true w
 have c4 := fun w => isNothing_c true b w
 have c5 := fun w => isInfinite_c true b w
 have c6 := fun w => isZero_c true b w
 have c7 := fun w => part_c true w
 rw [hN] at c4
 rw [hI] at c5
 generalize signV true = S at *
 generalize partV true = PT at *
 simp only [layV] at *
 clear hv hb
 go_enter Tryz.func138, Tryz.ntmps138
 go_upto_region 1 with (fail)
 refine hideO (fun W h0 HE => ?_)
 go_upto_region 4 with (go_at_call 141; refine (c1 _ _ (by go_simp)).mono ?_; rintro e w1 ⟨rfl, hb1⟩; have HE1 := Ext.next (w0 := w) (W := W) hb1; have h1 : Own w1 w.heap.size 4 := (h0.alloc _).call hb1)
 go_upto_region 5 with (go_at_call 142; refine (c2 _).mono ?_; rintro e w2 ⟨rfl, hb2⟩; have HE2 := HE1.call hb2; have h2 : Own w2 w.heap.size 4 := h1.call hb2)
 refine hideL h2 (Nat.le_refl _) HE2.2.2.2 (fun W3 g1 hg1 k1 h3 s1 hwg hB3 hE3 => ?_)
 subst hg1
 clear h0 h1 h2 HE HE1 HE2 hb1 hb2 c1 c2
 generalize w2.heap.size = g1 at *
 go_upto_region 12 with (go_at_call 144; refine (c3 _).mono ?_; rintro e w4 ⟨rfl, hb4⟩; have HE4 := hE3.call hb4; have h4 : Own w4 w.heap.size 4 := h3.call hb4)
 refine hideX HE4 k1 s1 h4 (Nat.le_refl _) (fun V g2 hg2 hP => ?_)
 subst hg2
 clear h3 h4 HE4 hE3 hb4 k1 s1 hB3
 generalize w4.heap.size = g2 at *
 have hPP := Lib.hid hP
 obtain ⟨k1, k2, o0, o2, n02, n12, s1, w0, w2, bel⟩ := hP
 go_upto_region 15 with (first | (go_at_call 150; refine (c4 _).mono ?_; rintro e w5 ⟨rfl, hb5⟩; have hP5 := hPP.out.call hb5; have k5 := hP5.ly; have s5 := hP5.s1; clear k1 k2 o0 o2 s1 bel) | (go_at_call 151; refine (c5 _).mono ?_; rintro e w6 ⟨rfl, hb6⟩; have hP6 := hP5.call hb6; have k6 := hP6.ly; have s6 := hP6.s1; have x6 := hP6.xs; have o6 := hP6.o2; clear k5 s5))
 have hQ := hP6
 clear hPP
 go_upto_region 18 with (fail)
 refine hideS #[.int .i64 2, .bool neg, .int .i64 0, .int .i64 0] (hQ.set 0 (.int .i64 2) (Nat.lt_of_lt_of_le (by decide) (Nat.le_refl 4))) rfl (fun X hX => ?_)
 obtain ⟨k1, k2, o0, o2, -, -, s1, -, -, bel⟩ := hX
 go_wp2
 have hr := Own.read4 (n := 0) ((((o0.set ⟨w.heap.size, 0, none⟩ (.int .i64 2)).set ⟨w.heap.size, 1, none⟩ (.bool neg)).set ⟨w.heap.size, 2, none⟩ (.int .i64 0)).set ⟨w.heap.size, 3, none⟩ (.int .i64 0))
 exact bodyPost_ret (v := .tuple #[.agg #[.int .i64 2, .bool neg, .int .i64 0, .int .i64 0], .int .i64 0]) (by simp [results, Tryz.results138, go_sem, hr.1, hr.2.1, hr.2.2.1, hr.2.2.2]) rfl ⟨rfl, below_row bel _ _ _ _⟩
set_option maxRecDepth 100000 in
set_option maxHeartbeats 8000000 in
theorem partsOf_nan_true (b : Int) (w : World) (hb : Rg true b) (hN : nothingV true b = true) : Calls Tryz.prog 138 #[.int .i64 1, .int .u64 b] w (Ret (.tuple #[.agg #[.int .i64 3, .bool false, .int .i64 0, .int .i64 0], .int .i64 0]) w) := by
 have c1 := fun g w h => valid1_c 1 b g w hb.u64 h
 have hv : validV 1 [b] = 0 := hb.valid1
 rw [hv] at c1
 have c2 : ∀ w, Calls Tryz.prog 142 #[.int .i64 1] w (Ret (layV true) w) := fun w => layoutOf_c 1 w
 have c3 := fun w => sign_c true w
 have c4 := fun w => isNothing_c true b w
 have c5 := fun w => isInfinite_c true b w
 have c6 := fun w => isZero_c true b w
 have c7 := fun w => part_c true w
 rw [hN] at c4
 obtain ⟨neg, hs⟩ : ∃ neg, (bits .and .u64 b (signV true) != 0) = neg := ⟨_, rfl⟩
 generalize signV true = S at *
 generalize partV true = PT at *
 simp only [layV] at *
 clear hv hb
 go_enter Tryz.func138, Tryz.ntmps138
 go_upto_region 1 with (fail)
 refine hideO (fun W h0 HE => ?_)
 go_upto_region 4 with (go_at_call 141; refine (c1 _ _ (by go_simp)).mono ?_; rintro e w1 ⟨rfl, hb1⟩; have HE1 := Ext.next (w0 := w) (W := W) hb1; have h1 : Own w1 w.heap.size 4 := (h0.alloc _).call hb1)
 go_upto_region 5 with (go_at_call 142; refine (c2 _).mono ?_; rintro e w2 ⟨rfl, hb2⟩; have HE2 := HE1.call hb2; have h2 : Own w2 w.heap.size 4 := h1.call hb2)
 refine hideL h2 (Nat.le_refl _) HE2.2.2.2 (fun W3 g1 hg1 k1 h3 s1 hwg hB3 hE3 => ?_)
 subst hg1
 clear h0 h1 h2 HE HE1 HE2 hb1 hb2 c1 c2
 generalize w2.heap.size = g1 at *
 go_upto_region 12 with (go_at_call 144; refine (c3 _).mono ?_; rintro e w4 ⟨rfl, hb4⟩; have HE4 := hE3.call hb4; have h4 : Own w4 w.heap.size 4 := h3.call hb4)
 refine hideX HE4 k1 s1 h4 (Nat.le_refl _) (fun V g2 hg2 hP => ?_)
 subst hg2
 clear h3 h4 HE4 hE3 hb4 k1 s1 hB3
 generalize w4.heap.size = g2 at *
 have hPP := Lib.hid hP
 obtain ⟨k1, k2, o0, o2, n02, n12, s1, w0, w2, bel⟩ := hP
 go_wp2_with (go_at_call 150; refine (c4 _).mono ?_; rintro e w5 ⟨rfl, hb5⟩; have o0 := o0.call hb5; have bel := below_call bel hb5)
 have hr := Own.read4 (n := 0) ((((o0.set ⟨w.heap.size, 0, none⟩ (.int .i64 3)).set ⟨w.heap.size, 1, none⟩ (.bool false)).set ⟨w.heap.size, 2, none⟩ (.int .i64 0)).set ⟨w.heap.size, 3, none⟩ (.int .i64 0))
 exact bodyPost_ret (v := .tuple #[.agg #[.int .i64 3, .bool false, .int .i64 0, .int .i64 0], .int .i64 0]) (by simp [results, Tryz.results138, go_sem, hr.1, hr.2.1, hr.2.2.1, hr.2.2.2]) rfl ⟨rfl, below_row bel _ _ _ _⟩
set_option maxRecDepth 100000 in
set_option maxHeartbeats 8000000 in
theorem partsOf_zero_true (b : Int) (w : World) (hb : Rg true b) (neg : Bool) (hs : (bits .and .u64 b (signV true) != 0) = neg) (hN : nothingV true b = false) (hI : infiniteV true b = false) (hZ : zeroV true b = true) : Calls Tryz.prog 138 #[.int .i64 1, .int .u64 b] w (Ret (.tuple #[.agg #[.int .i64 0, .bool neg, .int .i64 0, .int .i64 0], .int .i64 0]) w) := by
 have c1 := fun g w h => valid1_c 1 b g w hb.u64 h
 have hv : validV 1 [b] = 0 := hb.valid1
 rw [hv] at c1
 have c2 : ∀ w, Calls Tryz.prog 142 #[.int .i64 1] w (Ret (layV true) w) := fun w => layoutOf_c 1 w
 have c3 := fun w => sign_c true w
 have c4 := fun w => isNothing_c true b w
 have c5 := fun w => isInfinite_c true b w
 have c6 := fun w => isZero_c true b w
 have c7 := fun w => part_c true w
 rw [hN] at c4
 rw [hI] at c5
 rw [hZ] at c6
 generalize signV true = S at *
 generalize partV true = PT at *
 simp only [layV] at *
 clear hv hb
 go_enter Tryz.func138, Tryz.ntmps138
 go_upto_region 1 with (fail)
 refine hideO (fun W h0 HE => ?_)
 go_upto_region 4 with (go_at_call 141; refine (c1 _ _ (by go_simp)).mono ?_; rintro e w1 ⟨rfl, hb1⟩; have HE1 := Ext.next (w0 := w) (W := W) hb1; have h1 : Own w1 w.heap.size 4 := (h0.alloc _).call hb1)
 go_upto_region 5 with (go_at_call 142; refine (c2 _).mono ?_; rintro e w2 ⟨rfl, hb2⟩; have HE2 := HE1.call hb2; have h2 : Own w2 w.heap.size 4 := h1.call hb2)
 refine hideL h2 (Nat.le_refl _) HE2.2.2.2 (fun W3 g1 hg1 k1 h3 s1 hwg hB3 hE3 => ?_)
 subst hg1
 clear h0 h1 h2 HE HE1 HE2 hb1 hb2 c1 c2
 generalize w2.heap.size = g1 at *
 go_upto_region 12 with (go_at_call 144; refine (c3 _).mono ?_; rintro e w4 ⟨rfl, hb4⟩; have HE4 := hE3.call hb4; have h4 : Own w4 w.heap.size 4 := h3.call hb4)
 refine hideX HE4 k1 s1 h4 (Nat.le_refl _) (fun V g2 hg2 hP => ?_)
 subst hg2
 clear h3 h4 HE4 hE3 hb4 k1 s1 hB3
 generalize w4.heap.size = g2 at *
 have hPP := Lib.hid hP
 obtain ⟨k1, k2, o0, o2, n02, n12, s1, w0, w2, bel⟩ := hP
 go_upto_region 17 with (first | (go_at_call 150; refine (c4 _).mono ?_; rintro e w5 ⟨rfl, hb5⟩; have hP5 := hPP.out.call hb5; have k5 := hP5.ly; have s5 := hP5.s1; clear k1 k2 o0 o2 s1 bel) | (go_at_call 151; refine (c5 _).mono ?_; rintro e w6 ⟨rfl, hb6⟩; have hP6 := hP5.call hb6; have k6 := hP6.ly; have s6 := hP6.s1; have x6 := hP6.xs; have o6 := hP6.o2; clear k5 s5) | (go_at_call 152; refine (c6 _).mono ?_; rintro e w7 ⟨rfl, hb7⟩; have hP7 := hP6.call hb7; have k7 := hP7.ly; have s7 := hP7.s1; have x7 := hP7.xs; have o7 := hP7.o2; clear k6 s6 x6 o6))
 have hQ := hP7
 clear hPP
 go_upto_region 18 with (fail)
 refine hideS #[.int .i64 0, .bool neg, .int .i64 0, .int .i64 0] (hQ.set 0 (.int .i64 0) (Nat.lt_of_lt_of_le (by decide) (Nat.le_refl 4))) rfl (fun X hX => ?_)
 obtain ⟨k1, k2, o0, o2, -, -, s1, -, -, bel⟩ := hX
 go_wp2
 have hr := Own.read4 (n := 0) ((((o0.set ⟨w.heap.size, 0, none⟩ (.int .i64 0)).set ⟨w.heap.size, 1, none⟩ (.bool neg)).set ⟨w.heap.size, 2, none⟩ (.int .i64 0)).set ⟨w.heap.size, 3, none⟩ (.int .i64 0))
 exact bodyPost_ret (v := .tuple #[.agg #[.int .i64 0, .bool neg, .int .i64 0, .int .i64 0], .int .i64 0]) (by simp [results, Tryz.results138, go_sem, hr.1, hr.2.1, hr.2.2.1, hr.2.2.2]) rfl ⟨rfl, below_row bel _ _ _ _⟩
set_option maxRecDepth 100000 in
set_option maxHeartbeats 8000000 in
theorem partsOf_den_true (b : Int) (w : World) (hb : Rg true b) (neg : Bool) (r : Int) (hs : (bits .and .u64 b (signV true) != 0) = neg) (hN : nothingV true b = false) (hI : infiniteV true b = false) (hZ : zeroV true b = false) (hp : bits .and .u64 b (partV true) = r) (he : bits .andNot .u64 b (signV true) = r) (hr0 : 0 ≤ r) (hr : r < 8388608) : Calls Tryz.prog 138 #[.int .i64 1, .int .u64 b] w (Ret (.tuple #[.agg #[.int .i64 1, .bool neg, .int .i64 r, .int .i64 (-149)], .int .i64 0]) w) := by
 have c1 := fun g w h => valid1_c 1 b g w hb.u64 h
 have hv : validV 1 [b] = 0 := hb.valid1
 rw [hv] at c1
 have c2 : ∀ w, Calls Tryz.prog 142 #[.int .i64 1] w (Ret (layV true) w) := fun w => layoutOf_c 1 w
 have c3 := fun w => sign_c true w
 have c4 := fun w => isNothing_c true b w
 have c5 := fun w => isInfinite_c true b w
 have c6 := fun w => isZero_c true b w
 have c7 := fun w => part_c true w
 rw [hN] at c4
 rw [hI] at c5
 rw [hZ] at c6
 generalize signV true = S at *
 generalize partV true = PT at *
 simp only [layV] at *
 clear hv hb
 have hw : IntKind.i64.wrap 23 = 23 := by decide
 have f1 : IntKind.i64.wrap r = r := wrap_i64 (by omega) (by omega)
 have f2 : r / 8388608 = 0 := by omega
 go_enter Tryz.func138, Tryz.ntmps138
 go_upto_region 1 with (fail)
 refine hideO (fun W h0 HE => ?_)
 go_upto_region 4 with (go_at_call 141; refine (c1 _ _ (by go_simp)).mono ?_; rintro e w1 ⟨rfl, hb1⟩; have HE1 := Ext.next (w0 := w) (W := W) hb1; have h1 : Own w1 w.heap.size 4 := (h0.alloc _).call hb1)
 go_upto_region 5 with (go_at_call 142; refine (c2 _).mono ?_; rintro e w2 ⟨rfl, hb2⟩; have HE2 := HE1.call hb2; have h2 : Own w2 w.heap.size 4 := h1.call hb2)
 refine hideL h2 (Nat.le_refl _) HE2.2.2.2 (fun W3 g1 hg1 k1 h3 s1 hwg hB3 hE3 => ?_)
 subst hg1
 clear h0 h1 h2 HE HE1 HE2 hb1 hb2 c1 c2
 generalize w2.heap.size = g1 at *
 go_upto_region 12 with (go_at_call 144; refine (c3 _).mono ?_; rintro e w4 ⟨rfl, hb4⟩; have HE4 := hE3.call hb4; have h4 : Own w4 w.heap.size 4 := h3.call hb4)
 refine hideX HE4 k1 s1 h4 (Nat.le_refl _) (fun V g2 hg2 hP => ?_)
 subst hg2
 clear h3 h4 HE4 hE3 hb4 k1 s1 hB3
 generalize w4.heap.size = g2 at *
 have hPP := Lib.hid hP
 obtain ⟨k1, k2, o0, o2, n02, n12, s1, w0, w2, bel⟩ := hP
 go_upto_region 6 with (first | (go_at_call 150; refine (c4 _).mono ?_; rintro e w5 ⟨rfl, hb5⟩; have hP5 := hPP.out.call hb5; have k5 := hP5.ly; have s5 := hP5.s1; clear k1 k2 o0 o2 s1 bel) | (go_at_call 151; refine (c5 _).mono ?_; rintro e w6 ⟨rfl, hb6⟩; have hP6 := hP5.call hb6; have k6 := hP6.ly; have s6 := hP6.s1; have x6 := hP6.xs; have o6 := hP6.o2; clear k5 s5) | (go_at_call 152; refine (c6 _).mono ?_; rintro e w7 ⟨rfl, hb7⟩; have hP7 := hP6.call hb7; have k7 := hP7.ly; have s7 := hP7.s1; have x7 := hP7.xs; have o7 := hP7.o2; clear k6 s6 x6 o6))
 have hQ := hP7
 clear hPP
 go_region
 go_upto_region 7 with (fail)
 refine hideS #[.int .i64 1, .bool neg, .int .i64 0, .int .i64 (-149)] ((hQ.set 0 (.int .i64 1) (Nat.lt_of_lt_of_le (by decide) (Nat.le_refl 4))).set 3 (.int .i64 (-149)) (Nat.lt_of_lt_of_le (by decide) (Nat.le_refl 4))).drew rfl (fun X hX => ?_)
 clear hP5 hP6 hP7 hQ k7 s7 x7 o7 hb5 hb6 hb7
 have hXX := Lib.hid hX
 obtain ⟨k1, k2, o0, o2, -, -, s1, -, -, bel⟩ := hX
 go_upto_region 8 with (go_at_call 153; refine (c7 _).mono ?_; rintro e w8 ⟨rfl, hb8⟩; have hP8 := hXX.out.call hb8; have k8 := hP8.ly; have s8 := hP8.s1; have x8 := hP8.xs; have o8 := hP8.o2; clear k1 k2 o0 o2 s1 bel)
 refine hideS #[.int .i64 1, .bool neg, .int .i64 r, .int .i64 (-149)] (hP8.set 2 (.int .i64 r) (Nat.lt_of_lt_of_le (by decide) (Nat.le_refl 4))) rfl (fun Y hY => ?_)
 clear hP8 k8 s8 x8 o8 hb8 hXX
 have hYY := Lib.hid hY
 obtain ⟨k1, k2, o0, o2, -, -, s1, -, -, bel⟩ := hY
 have hEY : Ext w Y Y := Ext.refl bel
 go_region_held3 (fun w' => Ext w Y w') (first | assumption | (with_reducible exact Ext.call (by assumption) hb9) | ((with_reducible refine Ext.drew ?_); assumption)) ((go_at_call 144; (with_reducible refine (c3 _).mono ?_); rintro e w9 ⟨rfl, hb9⟩; have HE9 : Ext w Y w9 := Ext.call (by assumption) hb9))
 have hP9 := hYY.out.ext HE9
 clear k1 k2 o0 o2 s1 bel hEY hYY HE9 hb9
 have hPP := Lib.hid hP9
 obtain ⟨k1, k2, o0, o2, -, -, s1, -, -, bel⟩ := hP9
 go_wp2
 have hr := Own.read4 (n := 0) ((((o0.set ⟨w.heap.size, 0, none⟩ (.int .i64 1)).set ⟨w.heap.size, 1, none⟩ (.bool neg)).set ⟨w.heap.size, 2, none⟩ (.int .i64 r)).set ⟨w.heap.size, 3, none⟩ (.int .i64 (-149)))
 exact bodyPost_ret (v := .tuple #[.agg #[.int .i64 1, .bool neg, .int .i64 r, .int .i64 (-149)], .int .i64 0]) (by simp [results, Tryz.results138, go_sem, hr.1, hr.2.1, hr.2.2.1, hr.2.2.2]) rfl ⟨rfl, below_row bel _ _ _ _⟩
set_option maxRecDepth 100000 in
set_option maxHeartbeats 8000000 in
theorem partsOf_nor_true (b : Int) (w : World) (hb : Rg true b) (neg : Bool) (r f e : Int) (hs : (bits .and .u64 b (signV true) != 0) = neg) (hN : nothingV true b = false) (hI : infiniteV true b = false) (hZ : zeroV true b = false) (hp : bits .and .u64 b (partV true) = r) (he : bits .andNot .u64 b (signV true) = e) (he0 : e = r + 8388608 * f) (hr0 : 0 ≤ r) (hr : r < 8388608) (hf : 1 ≤ f) (hf2 : f < 255) : Calls Tryz.prog 138 #[.int .i64 1, .int .u64 b] w (Ret (.tuple #[.agg #[.int .i64 1, .bool neg, .int .i64 (r + 8388608), .int .i64 (-149 + (f - 1))], .int .i64 0]) w) := by
 have c1 := fun g w h => valid1_c 1 b g w hb.u64 h
 have hv : validV 1 [b] = 0 := hb.valid1
 rw [hv] at c1
 have c2 : ∀ w, Calls Tryz.prog 142 #[.int .i64 1] w (Ret (layV true) w) := fun w => layoutOf_c 1 w
 have c3 := fun w => sign_c true w
 have c4 := fun w => isNothing_c true b w
 have c5 := fun w => isInfinite_c true b w
 have c6 := fun w => isZero_c true b w
 have c7 := fun w => part_c true w
 rw [hN] at c4
 rw [hI] at c5
 rw [hZ] at c6
 generalize signV true = S at *
 generalize partV true = PT at *
 simp only [layV] at *
 clear hv hb
 have hw : IntKind.i64.wrap 23 = 23 := by decide
 have f1 : IntKind.i64.wrap r = r := wrap_i64 (by omega) (by omega)
 have f3 : IntKind.i64.wrap e = e := wrap_i64 (by omega) (by omega)
 have f2 : e / 8388608 = f := by omega
 clear he0
 go_enter Tryz.func138, Tryz.ntmps138
 go_upto_region 1 with (fail)
 refine hideO (fun W h0 HE => ?_)
 go_upto_region 4 with (go_at_call 141; refine (c1 _ _ (by go_simp)).mono ?_; rintro e w1 ⟨rfl, hb1⟩; have HE1 := Ext.next (w0 := w) (W := W) hb1; have h1 : Own w1 w.heap.size 4 := (h0.alloc _).call hb1)
 go_upto_region 5 with (go_at_call 142; refine (c2 _).mono ?_; rintro e w2 ⟨rfl, hb2⟩; have HE2 := HE1.call hb2; have h2 : Own w2 w.heap.size 4 := h1.call hb2)
 refine hideL h2 (Nat.le_refl _) HE2.2.2.2 (fun W3 g1 hg1 k1 h3 s1 hwg hB3 hE3 => ?_)
 subst hg1
 clear h0 h1 h2 HE HE1 HE2 hb1 hb2 c1 c2
 generalize w2.heap.size = g1 at *
 go_upto_region 12 with (go_at_call 144; refine (c3 _).mono ?_; rintro e w4 ⟨rfl, hb4⟩; have HE4 := hE3.call hb4; have h4 : Own w4 w.heap.size 4 := h3.call hb4)
 refine hideX HE4 k1 s1 h4 (Nat.le_refl _) (fun V g2 hg2 hP => ?_)
 subst hg2
 clear h3 h4 HE4 hE3 hb4 k1 s1 hB3
 generalize w4.heap.size = g2 at *
 have hPP := Lib.hid hP
 obtain ⟨k1, k2, o0, o2, n02, n12, s1, w0, w2, bel⟩ := hP
 go_upto_region 6 with (first | (go_at_call 150; refine (c4 _).mono ?_; rintro e w5 ⟨rfl, hb5⟩; have hP5 := hPP.out.call hb5; have k5 := hP5.ly; have s5 := hP5.s1; clear k1 k2 o0 o2 s1 bel) | (go_at_call 151; refine (c5 _).mono ?_; rintro e w6 ⟨rfl, hb6⟩; have hP6 := hP5.call hb6; have k6 := hP6.ly; have s6 := hP6.s1; have x6 := hP6.xs; have o6 := hP6.o2; clear k5 s5) | (go_at_call 152; refine (c6 _).mono ?_; rintro e w7 ⟨rfl, hb7⟩; have hP7 := hP6.call hb7; have k7 := hP7.ly; have s7 := hP7.s1; have x7 := hP7.xs; have o7 := hP7.o2; clear k6 s6 x6 o6))
 have hQ := hP7
 clear hPP
 go_region
 go_upto_region 7 with (fail)
 refine hideS #[.int .i64 1, .bool neg, .int .i64 0, .int .i64 (-149)] ((hQ.set 0 (.int .i64 1) (Nat.lt_of_lt_of_le (by decide) (Nat.le_refl 4))).set 3 (.int .i64 (-149)) (Nat.lt_of_lt_of_le (by decide) (Nat.le_refl 4))).drew rfl (fun X hX => ?_)
 clear hP5 hP6 hP7 hQ k7 s7 x7 o7 hb5 hb6 hb7
 have hXX := Lib.hid hX
 obtain ⟨k1, k2, o0, o2, -, -, s1, -, -, bel⟩ := hX
 go_upto_region 8 with (go_at_call 153; refine (c7 _).mono ?_; rintro e w8 ⟨rfl, hb8⟩; have hP8 := hXX.out.call hb8; have k8 := hP8.ly; have s8 := hP8.s1; have x8 := hP8.xs; have o8 := hP8.o2; clear k1 k2 o0 o2 s1 bel)
 refine hideS #[.int .i64 1, .bool neg, .int .i64 r, .int .i64 (-149)] (hP8.set 2 (.int .i64 r) (Nat.lt_of_lt_of_le (by decide) (Nat.le_refl 4))) rfl (fun Y hY => ?_)
 clear hP8 k8 s8 x8 o8 hb8 hXX
 have hYY := Lib.hid hY
 obtain ⟨k1, k2, o0, o2, -, -, s1, -, -, bel⟩ := hY
 have hEY : Ext w Y Y := Ext.refl bel
 go_region_held3 (fun w' => Ext w Y w') (first | assumption | (with_reducible exact Ext.call (by assumption) hb9) | ((with_reducible refine Ext.drew ?_); assumption)) ((go_at_call 144; (with_reducible refine (c3 _).mono ?_); rintro e w9 ⟨rfl, hb9⟩; have HE9 : Ext w Y w9 := Ext.call (by assumption) hb9))
 have hP9 := hYY.out.ext HE9
 clear k1 k2 o0 o2 s1 bel hEY hYY HE9 hb9
 have hPP := Lib.hid hP9
 obtain ⟨k1, k2, o0, o2, -, -, s1, -, -, bel⟩ := hP9
 go_upto_region 10 with (fail)
 go_region
 go_upto_region 11 with (fail)
 refine hideS #[.int .i64 1, .bool neg, .int .i64 (r + 8388608), .int .i64 (-149)] (hPP.out.set 2 (.int .i64 (r + 8388608)) (Nat.lt_of_lt_of_le (by decide) (Nat.le_refl 4))).drew rfl (fun Z hZ => ?_)
 clear hPP k1 k2 o0 o2 s1 bel
 have hZZ := Lib.hid hZ
 obtain ⟨k1, k2, o0, o2, -, -, s1, -, -, bel⟩ := hZ
 go_upto_region 18 with (fail)
 refine hideS #[.int .i64 1, .bool neg, .int .i64 (r + 8388608), .int .i64 (-149 + (f - 1))] (hZZ.out.set 3 (.int .i64 (-149 + (f - 1))) (Nat.lt_of_lt_of_le (by decide) (Nat.le_refl 4))) rfl (fun U hU => ?_)
 clear hZZ k1 k2 o0 o2 s1 bel
 obtain ⟨k1, k2, o0, o2, -, -, s1, -, -, bel⟩ := hU
 go_wp2
 have hr := Own.read4 (n := 0) ((((o0.set ⟨w.heap.size, 0, none⟩ (.int .i64 1)).set ⟨w.heap.size, 1, none⟩ (.bool neg)).set ⟨w.heap.size, 2, none⟩ (.int .i64 (r + 8388608))).set ⟨w.heap.size, 3, none⟩ (.int .i64 (-149 + (f - 1))))
 exact bodyPost_ret (v := .tuple #[.agg #[.int .i64 1, .bool neg, .int .i64 (r + 8388608), .int .i64 (-149 + (f - 1))], .int .i64 0]) (by simp [results, Tryz.results138, go_sem, hr.1, hr.2.1, hr.2.2.1, hr.2.2.2]) rfl ⟨rfl, below_row bel _ _ _ _⟩
theorem partsOf_c (s : Bool) (a : Nat) (w : World) (ha : a < 2 * signN s) : Calls Tryz.prog 138 #[.int .i64 (tv s), .int .u64 (a : Int)] w (Ret (.tuple #[(partsR s a).v, .int .i64 0]) w) := by
 have h := read_of s a ha
 have hb : Rg s (a : Int) := rg_nat ha
 generalize partsR s a = p at *
 cases s
 ·cases h with
  | inf neg hs hN hI => exact partsOf_inf_false _ w hb neg hs hN hI
  | nan hN => exact partsOf_nan_false _ w hb hN
  | zero neg hs hN hI hZ => exact partsOf_zero_false _ w hb neg hs hN hI hZ
  | den neg r hs hN hI hZ hp he hr =>
   have hr' : r < 4503599627370496 := hr
   exact partsOf_den_false _ w hb neg r hs hN hI hZ hp he (by omega) (by omega)
  | nor neg r f hs hN hI hZ hp he hr hf hf2 =>
   have hr' : r < 4503599627370496 := hr
   have hf' : f + 1 < 2048 := hf2
   have h := partsOf_nor_false _ w hb neg r f _ hs hN hI hZ hp he (by rw [Int.natCast_add, Int.natCast_mul]; rfl) (by omega) (by omega) (by omega) (by omega)
   have e1 : (r : Int) + 4503599627370496 = ((r + lowN false : Nat) : Int) := (Int.natCast_add r (lowN false)).symm
   have e2 : (-1074 : Int) + ((f : Int) - 1) = (f : Int) - 1 + leastN false := by show _ = (f : Int) - 1 + (-1074); omega
   rw [e1, e2] at h
   exact h
 ·cases h with
  | inf neg hs hN hI => exact partsOf_inf_true _ w hb neg hs hN hI
  | nan hN => exact partsOf_nan_true _ w hb hN
  | zero neg hs hN hI hZ => exact partsOf_zero_true _ w hb neg hs hN hI hZ
  | den neg r hs hN hI hZ hp he hr =>
   have hr' : r < 8388608 := hr
   exact partsOf_den_true _ w hb neg r hs hN hI hZ hp he (by omega) (by omega)
  | nor neg r f hs hN hI hZ hp he hr hf hf2 =>
   have hr' : r < 8388608 := hr
   have hf' : f + 1 < 256 := hf2
   have h := partsOf_nor_true _ w hb neg r f _ hs hN hI hZ hp he (by rw [Int.natCast_add, Int.natCast_mul]; rfl) (by omega) (by omega) (by omega) (by omega)
   have e1 : (r : Int) + 8388608 = ((r + lowN true : Nat) : Int) := (Int.natCast_add r (lowN true)).symm
   have e2 : (-149 : Int) + ((f : Int) - 1) = (f : Int) - 1 + leastN true := by show _ = (f : Int) - 1 + (-149); omega
   rw [e1, e2] at h
   exact h
end Go.Proofs.YtmoimcblmmcffaaGreat.NC

namespace Go.Proofs.YtmoimcblmmcffaaGreat
open Go.RowKit B N NC
set_option linter.unusedSimpArgs false
set_option linter.unusedVariables false
theorem orErr_pair {e r r1 r2 : Int} (h : (if e = 0 then (r, (0 : Int)) else (0, e)) = (r1, r2)) : orErr e r = .tuple #[.int .u64 r1, .int .i64 r2] := by
 unfold orErr
 by_cases he : e = 0
 ·rw [if_pos he] at h ⊢; injection h with h1 h2; rw [h1, h2]
 ·rw [if_neg he] at h ⊢; injection h with h1 h2; rw [h1, h2]
theorem orErrN_pair {e r r1 r2 : Int} (h : (if e = 0 then (r, (0 : Int)) else (0, e)) = (r1, r2)) : orErrN e r = .tuple #[.int .i64 r1, .int .i64 r2] := by
 unfold orErrN
 by_cases he : e = 0
 ·rw [if_pos he] at h ⊢; injection h with h1 h2; rw [h1, h2]
 ·rw [if_neg he] at h ⊢; injection h with h1 h2; rw [h1, h2]
def u64B (a : Int) : Bool := decide (0 ≤ a) && decide (a ≤ 18446744073709551615)
theorem u64B_spec {a : Int} (h : u64B a = true) : U64 a := by
 unfold u64B at h
 simp only [Bool.and_eq_true, decide_eq_true_eq] at h
 exact ⟨h.1, h.2⟩
theorem of_ite {α : Type} {c : Bool} {x y : α} (h : (if c = true then some x else none) = some y) : c = true ∧ x = y := by
 cases c
 ·simp at h
 ·exact ⟨rfl, by simpa using h⟩
def rl_Apply.f (a0 a1 a2 a3 : Int) : Option (Int × Int) := if (u64B a2 && u64B a3) = true then some (if applyErrV a0 a1 a2 a3 = 0 then (applyV a0 (a1 == 1) a2 a3, 0) else (0, applyErrV a0 a1 a2 a3)) else none
theorem rl_Apply.calls (a0 a1 a2 a3 r1 r2 : Int) (w : World) (h : rl_Apply.f a0 a1 a2 a3 = some (r1, r2)) :
  Calls Tryz.prog 139 #[.int .i64 a0, .int .i64 a1, .int .u64 a2, .int .u64 a3] w fun e w' => e = .returned (.tuple #[.int .u64 r1, .int .i64 r2]) ∧ Below w.heap.size w w' := by
 obtain ⟨hu, h⟩ := of_ite h
 simp only [Bool.and_eq_true] at hu
 rw [← orErr_pair h]
 exact Apply_c a0 a1 a2 a3 w (u64B_spec hu.1) (u64B_spec hu.2)
def rl_FromInteger.f (a0 a1 : Int) : Option (Int × Int) := some (if fromErrV a0 a1 = 0 then (fromIntV (a0 == 1) a1, 0) else (0, fromErrV a0 a1))
theorem rl_FromInteger.calls (a0 a1 r1 r2 : Int) (w : World) (h : rl_FromInteger.f a0 a1 = some (r1, r2)) :
  Calls Tryz.prog 93 #[.int .i64 a0, .int .i64 a1] w fun e w' => e = .returned (.tuple #[.int .u64 r1, .int .i64 r2]) ∧ Below w.heap.size w w' := by
 rw [← orErr_pair (Option.some.inj h)]
 exact FromInteger_c a0 a1 w
def rl_SizeOf.f (a0 a1 : Int) : Option (Int × Int) := if u64B a1 = true then some (if validV a0 [a1] = 0 then (sizeV a0 a1, 0) else (0, validV a0 [a1])) else none
theorem rl_SizeOf.calls (a0 a1 r1 r2 : Int) (w : World) (h : rl_SizeOf.f a0 a1 = some (r1, r2)) :
  Calls Tryz.prog 136 #[.int .i64 a0, .int .u64 a1] w fun e w' => e = .returned (.tuple #[.int .u64 r1, .int .i64 r2]) ∧ Below w.heap.size w w' := by
 obtain ⟨hu, h⟩ := of_ite h
 rw [← orErr_pair h]
 exact SizeOf_c a0 a1 w (u64B_spec hu)
def rl_Negated.f (a0 a1 : Int) : Option (Int × Int) := if u64B a1 = true then some (if validV a0 [a1] = 0 then (negV a0 a1, 0) else (0, validV a0 [a1])) else none
theorem rl_Negated.calls (a0 a1 r1 r2 : Int) (w : World) (h : rl_Negated.f a0 a1 = some (r1, r2)) :
  Calls Tryz.prog 122 #[.int .i64 a0, .int .u64 a1] w fun e w' => e = .returned (.tuple #[.int .u64 r1, .int .i64 r2]) ∧ Below w.heap.size w w' := by
 obtain ⟨hu, h⟩ := of_ite h
 rw [← orErr_pair h]
 exact Negated_c a0 a1 w (u64B_spec hu)
def rl_SqrtOf.f (a0 a1 : Int) : Option (Int × Int) := if u64B a1 = true then some (if validV a0 [a1] = 0 then (sqrtV (a0 == 1) a1, 0) else (0, validV a0 [a1])) else none
theorem rl_SqrtOf.calls (a0 a1 r1 r2 : Int) (w : World) (h : rl_SqrtOf.f a0 a1 = some (r1, r2)) :
  Calls Tryz.prog 140 #[.int .i64 a0, .int .u64 a1] w fun e w' => e = .returned (.tuple #[.int .u64 r1, .int .i64 r2]) ∧ Below w.heap.size w w' := by
 obtain ⟨hu, h⟩ := of_ite h
 rw [← orErr_pair h]
 exact SqrtOf_c sqrt_narrow a0 a1 w (u64B_spec hu)
def rl_Compare.f (a0 a1 a2 : Int) : Option (Int × Int) := if (u64B a1 && u64B a2) = true then some (if validV a0 [a1, a2] = 0 then (cmpV (ordV (a0 == 1) a1 a2), 0) else (0, validV a0 [a1, a2])) else none
theorem rl_Compare.calls (a0 a1 a2 r1 r2 : Int) (w : World) (h : rl_Compare.f a0 a1 a2 = some (r1, r2)) :
  Calls Tryz.prog 127 #[.int .i64 a0, .int .u64 a1, .int .u64 a2] w fun e w' => e = .returned (.tuple #[.int .i64 r1, .int .i64 r2]) ∧ Below w.heap.size w w' := by
 obtain ⟨hu, h⟩ := of_ite h
 simp only [Bool.and_eq_true] at hu
 rw [← orErrN_pair h]
 exact Compare_c a0 a1 a2 w (u64B_spec hu.1) (u64B_spec hu.2)
def okW (t a : Int) : Bool := (t == 1 || t == 2) && decide (0 ≤ a) && decide (a < topV (t == 1))
theorem okW_spec {t a : Int} (h : okW t a = true) : tv (t == 1) = t ∧ ∃ x : Nat, a = (x : Int) ∧ x < 2 * signN (t == 1) := by
 unfold okW at h
 simp only [Bool.and_eq_true, decide_eq_true_eq, Bool.or_eq_true, beq_iff_eq] at h
 obtain ⟨⟨ht, h0⟩, h1⟩ := h
 refine ⟨by rcases ht with rfl | rfl <;> rfl, a.toNat, (Int.toNat_of_nonneg h0).symm, ?_⟩
 rw [top_sgn] at h1
 omega
theorem okW_tv {s : Bool} {x : Nat} (h : x < 2 * signN s) : okW (tv s) (x : Int) = true := by
 have h2 : (x : Int) < topV s := by rw [top_sgn]; exact_mod_cast h
 unfold okW
 rw [tv_eq, decide_eq_true h2, decide_eq_true (Int.natCast_nonneg x)]
 cases s <;> rfl
def rl_PartsOf.f (a0 a1 : Int) : Option (Int × Bool × Int × Int × Int) := if okW a0 a1 = true then some ((partsR (a0 == 1) a1.toNat).kind, (partsR (a0 == 1) a1.toNat).neg, ((partsR (a0 == 1) a1.toNat).sig : Int), (partsR (a0 == 1) a1.toNat).exp, 0) else none
theorem rl_PartsOf.calls (a0 a1 r1 : Int) (r2 : Bool) (r3 r4 r5 : Int) (w : World) (h : rl_PartsOf.f a0 a1 = some (r1, r2, r3, r4, r5)) :
  Calls Tryz.prog 138 #[.int .i64 a0, .int .u64 a1] w fun e w' => e = .returned (.tuple #[.agg #[.int .i64 r1, .bool r2, .int .i64 r3, .int .i64 r4], .int .i64 r5]) ∧ Below w.heap.size w w' := by
 obtain ⟨hu, h⟩ := of_ite h
 obtain ⟨ht, x, rfl, hx⟩ := okW_spec hu
 have hc := partsOf_c (a0 == 1) x w hx
 rw [ht] at hc
 rw [Int.toNat_natCast] at h
 simp only [Prod.mk.injEq] at h
 obtain ⟨rfl, rfl, rfl, rfl, rfl⟩ := h
 exact hc
def on1 (t a : Int) (g : Bool → Nat → Int) : Option Int := if okW t a = true then some (g (t == 1) a.toNat) else none
def on2 (t a b : Int) (g : Bool → Nat → Nat → Int) : Option Int := if (okW t a && okW t b) = true then some (g (t == 1) a.toNat b.toNat) else none
theorem on1_spec {t a : Int} {g : Bool → Nat → Int} {r : Int} (h : on1 t a g = some r) : ∃ s x, t = tv s ∧ a = ((x : Nat) : Int) ∧ (x : Int) < topV s ∧ r = g s x := by
 obtain ⟨hu, h⟩ := of_ite h
 obtain ⟨ht, x, rfl, hx⟩ := okW_spec hu
 rw [Int.toNat_natCast] at h
 exact ⟨_, x, ht.symm, rfl, by rw [top_sgn]; exact_mod_cast hx, h.symm⟩
theorem on2_spec {t a b : Int} {g : Bool → Nat → Nat → Int} {r : Int} (h : on2 t a b g = some r) : ∃ s x y, t = tv s ∧ a = ((x : Nat) : Int) ∧ b = ((y : Nat) : Int) ∧ (x : Int) < topV s ∧ (y : Int) < topV s ∧ r = g s x y := by
 obtain ⟨hu, h⟩ := of_ite h
 simp only [Bool.and_eq_true] at hu
 obtain ⟨ht, x, rfl, hx⟩ := okW_spec hu.1
 obtain ⟨_, y, rfl, hy⟩ := okW_spec hu.2
 rw [Int.toNat_natCast, Int.toNat_natCast] at h
 exact ⟨_, x, y, ht.symm, rfl, rfl, by rw [top_sgn]; exact_mod_cast hx, by rw [top_sgn]; exact_mod_cast hy, h.symm⟩
theorem on1_tv {s : Bool} {x : Nat} {g : Bool → Nat → Int} (h : x < 2 * signN s) : on1 (tv s) (x : Int) g = some (g s x) := by
 unfold on1
 rw [if_pos (okW_tv h), tv_eq, Int.toNat_natCast]
theorem on2_tv {s : Bool} {x y : Nat} {g : Bool → Nat → Nat → Int} (h : x < 2 * signN s) (h' : y < 2 * signN s) : on2 (tv s) (x : Int) (y : Int) g = some (g s x y) := by
 unfold on2
 rw [okW_tv h, okW_tv h', if_pos (show (true && true) = true from rfl), tv_eq, Int.toNat_natCast, Int.toNat_natCast]
def r8_Add.f (a0 a1 a2 : Int) : Option Int := on2 a0 a1 a2 (fun s x y => (addR s x y : Int))
theorem r8_Add.calls (a0 a1 a2 r : Int) (w : World) (h : r8_Add.f a0 a1 a2 = some r) :
  Calls Tryz.prog 63 #[.int .i64 a0, .int .u64 a1, .int .u64 a2] w fun e w' => e = .returned (.int .u64 r) ∧ Below w.heap.size w w' := by
 obtain ⟨s, x, y, rfl, rfl, rfl, hx, hy, rfl⟩ := on2_spec h
 exact add_c s x y w hx hy
def r8_Minus2.f (a0 a1 a2 : Int) : Option Int := on2 a0 a1 a2 (fun s x y => (subR s x y : Int))
theorem r8_Minus2.calls (a0 a1 a2 r : Int) (w : World) (h : r8_Minus2.f a0 a1 a2 = some r) :
  Calls Tryz.prog 64 #[.int .i64 a0, .int .u64 a1, .int .u64 a2] w fun e w' => e = .returned (.int .u64 r) ∧ Below w.heap.size w w' := by
 obtain ⟨s, x, y, rfl, rfl, rfl, hx, hy, rfl⟩ := on2_spec h
 exact minus2_c s x y w hx hy
def r8_Mul.f (a0 a1 a2 : Int) : Option Int := on2 a0 a1 a2 (fun s x y => (mulR s x y : Int))
theorem r8_Mul.calls (a0 a1 a2 r : Int) (w : World) (h : r8_Mul.f a0 a1 a2 = some r) :
  Calls Tryz.prog 65 #[.int .i64 a0, .int .u64 a1, .int .u64 a2] w fun e w' => e = .returned (.int .u64 r) ∧ Below w.heap.size w w' := by
 obtain ⟨s, x, y, rfl, rfl, rfl, hx, hy, rfl⟩ := on2_spec h
 exact mul_c s x y w hx hy
def r8_Negated.f (a0 a1 : Int) : Option Int := on1 a0 a1 (fun s x => (negR s x : Int))
theorem r8_Negated.calls (a0 a1 r : Int) (w : World) (h : r8_Negated.f a0 a1 = some r) :
  Calls Tryz.prog 83 #[.int .i64 a0, .int .u64 a1] w fun e w' => e = .returned (.int .u64 r) ∧ Below w.heap.size w w' := by
 obtain ⟨s, x, rfl, rfl, hx, rfl⟩ := on1_spec h
 exact negatedR_c s x w hx
def r8_FromInteger.f (a0 a1 : Int) : Option Int := if ((a0 == 1 || a0 == 2) && decide (-2147483648 ≤ a1) && decide (a1 ≤ 2147483647)) = true then some (fromR (a0 == 1) a1 : Int) else none
theorem r8_FromInteger.calls (a0 a1 r : Int) (w : World) (h : r8_FromInteger.f a0 a1 = some r) :
  Calls Tryz.prog 23 #[.int .i64 a0, .int .i64 a1] w fun e w' => e = .returned (.int .u64 r) ∧ Below w.heap.size w w' := by
 obtain ⟨hu, rfl⟩ := of_ite h
 simp only [Bool.and_eq_true, Bool.or_eq_true, beq_iff_eq, decide_eq_true_eq] at hu
 have ht' : tv (a0 == 1) = a0 := by rcases hu.1.1 with rfl | rfl <;> rfl
 have hc := fromR_c (a0 == 1) a1 w hu.1.2 hu.2
 rw [ht'] at hc
 exact hc
end Go.Proofs.YtmoimcblmmcffaaGreat

namespace Go.Proofs.YtmoimcblmmcffaaGreat.NC
open Go.RowKit Go.Proofs.YtmoimcblmmcffaaGreat.B Go.Proofs.YtmoimcblmmcffaaGreat.N
set_option linter.unusedSimpArgs false
set_option linter.unusedVariables false
def D1 : Nat := 4607182418800017408
def DH : Nat := 4602678819172646912
theorem eq0_k : (FloatKind.f64.format.order D1 0 == some Ordering.eq) = false := by decide +kernel
theorem gtr_k : (FloatKind.f64.format.order D1 9218868437227405311 == some Ordering.gt) = false := by decide +kernel
theorem neq_k : (FloatKind.f64.format.order D1 D1 != some Ordering.eq) = false := by decide +kernel
theorem lss_k : (FloatKind.f64.format.order D1 4503599627370496 == some Ordering.lt) = false := by decide +kernel
theorem mulh_k (w : World) : (binOp .mul 145 (.float .f64 4607182418800017408) (.float .f64 DH)).run Tryz.prog w = .ok (.float .f64 DH) w := by kernel_rfl
theorem conv1_k (w : World) : (convert 149 145 (.float .f32 1065353216)).run Tryz.prog w = .ok (.float .f64 D1) w := by kernel_rfl
theorem convh_k (w : World) : (convert 145 149 (.float .f64 DH)).run Tryz.prog w = .ok (.float .f32 1056964608) w := by kernel_rfl
set_option maxRecDepth 100000 in
set_option maxHeartbeats 1000000 in
theorem abs_k (w : World) : Calls Tryz.prog 182 #[.float .f64 D1] w (Ret (.float .f64 D1) w) := by
 have h1 := f64bits D1
 have h2 : ∀ w, (callFunc 161 #[.int .u64 ((D1 : Nat) : Int)]).run Tryz.prog w = .ok (.value (.float .f64 D1)) w := fun w => f64from _ w
 have h3 : bits .andNot .u64 ((D1 : Nat) : Int) 9223372036854775808 = ((D1 : Nat) : Int) := by decide +kernel
 generalize D1 = X at *
 go_enter Tryz.func182, Tryz.ntmps182
 go_wp2
 go_ret
 exact ⟨rfl, below_end⟩
set_option maxRecDepth 100000 in
set_option maxHeartbeats 1000000 in
theorem isInf_k (w : World) : Calls Tryz.prog 177 #[.float .f64 D1, .int .i64 0] w (Ret (.bool false) w) := by
 have c1 := abs_k
 have h1 := gtr_k
 generalize D1 = X at *
 go_enter Tryz.func177, Tryz.ntmps177
 go_wp2_with (go_at_call 182; refine (c1 _).mono ?_; rintro e w1 ⟨rfl, hb1⟩; have HE := Ext.next (w0 := w) (W := w) hb1)
 go_ret
 exact ⟨rfl, Ext.end⟩
set_option maxRecDepth 100000 in
set_option maxHeartbeats 1000000 in
theorem isNaN_k (w : World) : Calls Tryz.prog 178 #[.float .f64 D1] w (Ret (.bool false) w) := by
 have h1 := neq_k
 generalize D1 = X at *
 go_enter Tryz.func178, Tryz.ntmps178
 go_wp2
 go_ret
 exact ⟨rfl, below_end⟩
set_option maxRecDepth 100000 in
set_option maxHeartbeats 1000000 in
theorem normalize_k (w : World) : Calls Tryz.prog 179 #[.float .f64 D1] w (Ret (.tuple #[.float .f64 D1, .int .i64 0]) w) := by
 have c1 := abs_k
 have h1 := lss_k
 generalize D1 = X at *
 go_enter Tryz.func179, Tryz.ntmps179
 go_wp2_with (go_at_call 182; refine (c1 _).mono ?_; rintro e w1 ⟨rfl, hb1⟩; have HE := Ext.next (w0 := w) (W := w) hb1)
 go_ret2
 exact ⟨rfl, Ext.end⟩
set_option maxRecDepth 100000 in
set_option maxHeartbeats 4000000 in
theorem ldexp_k (w : World) : Calls Tryz.prog 168 #[.float .f64 D1, .int .i64 (-1)] w (Ret (.float .f64 DH) w) := by
 have c1 := isInf_k
 have c2 := isNaN_k
 have c3 := normalize_k
 have h1 := eq0_k
 have h2 := f64bits D1
 have h3 : ∀ w, (callFunc 161 #[.int .u64 ((DH : Nat) : Int)]).run Tryz.prog w = .ok (.value (.float .f64 DH)) w := fun w => f64from _ w
 have h4 : ((D1 : Nat) : Int) / 4503599627370496 = 1023 := by decide +kernel
 have h5 : bits .andNot .u64 ((D1 : Nat) : Int) 9218868437227405312 = 0 := by decide +kernel
 have h6 : bits .or .u64 0 4602678819172646912 = ((DH : Nat) : Int) := by decide +kernel
 have h7 := mulh_k
 have h8 : (IntKind.i64.wrap 1023) = 1023 := by decide
 have h9 : bits .and .i64 1023 2047 = 1023 := by decide +kernel
 go_enter Tryz.func168, Tryz.ntmps168
 generalize D1 = X at c1 c2 c3 h1 h2 h4 h5 ⊢
 generalize DH = Y at *
 go_wp2_with (first | (go_at_call 177; refine (c1 _).mono ?_; rintro e w1 ⟨rfl, hb1⟩; have HE := Ext.next (w0 := w) (W := w) hb1) | (go_at_call 178; refine (c2 _).mono ?_; rintro e w2 ⟨rfl, hb2⟩; have HE := Ext.next (w0 := w) (W := w) hb2) | (go_at_call 179; refine (c3 _).mono ?_; rintro e w3 ⟨rfl, hb3⟩; have HE := Ext.next (w0 := w) (W := w) hb3))
 go_ret
 exact ⟨rfl, Ext.end⟩
set_option maxRecDepth 100000 in
set_option maxHeartbeats 1000000 in
theorem Ldexp_k (w : World) : Calls Tryz.prog 159 #[.float .f64 D1, .int .i64 (-1)] w (Ret (.float .f64 DH) w) := by
 have c1 := ldexp_k
 generalize D1 = X at *
 generalize DH = Y at *
 go_enter Tryz.func159, Tryz.ntmps159
 go_wp2_with (go_at_call 168; refine (c1 _).mono ?_; rintro e w1 ⟨rfl, hb1⟩; have HE := Ext.next (w0 := w) (W := w) hb1)
 go_ret
 exact ⟨rfl, Ext.end⟩
set_option maxRecDepth 100000 in
set_option maxHeartbeats 1000000 in
theorem closure_k (g : Nat) (w : World) (h : w.cell? ⟨g, 0, none⟩ = some (.int .i64 (-1))) : Calls Tryz.prog 158 #[.float .f64 D1, .pointer (some ⟨g, 0, none⟩)] w (Ret (.float .f64 DH) w) := by
 have c1 := Ldexp_k
 generalize D1 = X at *
 generalize DH = Y at *
 go_enter Tryz.func158, Tryz.ntmps158
 go_wp2_with (go_at_call 159; refine (c1 _).mono ?_; rintro e w1 ⟨rfl, hb1⟩; have HE := Ext.next (w0 := w) (W := w) hb1)
 go_ret
 exact ⟨rfl, Ext.end⟩
set_option maxRecDepth 100000 in
set_option maxHeartbeats 1000000 in
theorem on1_h2 (g : Nat) (w : World) (h : w.cell? ⟨g, 0, none⟩ = some (.int .i64 (-1))) (hg : g < w.heap.size) : Calls Tryz.prog 156 #[.int .i64 2, .int .u64 ((D1 : Nat) : Int), .func (.func 158) #[] #[.pointer (some ⟨g, 0, none⟩)]] w (Ret (.int .u64 ((DH : Nat) : Int)) w) := by
 have c1 : ∀ w, Calls Tryz.prog 147 #[.int .u64 ((D1 : Nat) : Int)] w (Ret (.float .f64 D1) w) := fun w => double64_c _ w
 have c2 := fun w => closure_k g w
 have c3 : ∀ w, Calls Tryz.prog 134 #[.float .f64 DH] w (Ret (.int .u64 ((DH : Nat) : Int)) w) := fun w => by
  have := bits64_c DH w
  rw [show cleanV false ((DH : Nat) : Int) = ((DH : Nat) : Int) by decide +kernel] at this
  exact this
 generalize D1 = X at *
 generalize DH = Y at *
 go_enter Tryz.func156, Tryz.ntmps156
 go_wp2_with (first | (go_at_call 147; refine (c1 _).mono ?_; rintro e w1 ⟨rfl, hb1⟩; have HE := Ext.next (w0 := w) (W := w) hb1) | (go_at_call 158; refine (c2 _ ((HE.1 _ _ hg).trans h)).mono ?_; rintro e w1 ⟨rfl, hb1⟩; have HE := Ext.next (w0 := w) (W := w) hb1) | (go_at_call 134; refine (c3 _).mono ?_; rintro e w1 ⟨rfl, hb1⟩; have HE := Ext.next (w0 := w) (W := w) hb1))
 go_ret
 exact ⟨rfl, Ext.end⟩
set_option maxRecDepth 100000 in
set_option maxHeartbeats 1000000 in
theorem on1_h1 (g : Nat) (w : World) (h : w.cell? ⟨g, 0, none⟩ = some (.int .i64 (-1))) (hg : g < w.heap.size) : Calls Tryz.prog 156 #[.int .i64 1, .int .u64 1065353216, .func (.func 158) #[] #[.pointer (some ⟨g, 0, none⟩)]] w (Ret (.int .u64 1056964608) w) := by
 have c1 := fun w => real32_c 1065353216 w (by decide) (by decide)
 have c2 := fun w => closure_k g w
 have c3 : ∀ w, Calls Tryz.prog 135 #[.float .f32 1056964608] w (Ret (.int .u64 1056964608) w) := fun w => by
  have := bits32_c 1056964608 w (by decide)
  rw [show cleanV true ((1056964608 : Nat) : Int) = 1056964608 by decide +kernel] at this
  exact this
 have h1 := conv1_k
 have h2 := convh_k
 generalize D1 = X at *
 generalize DH = Y at *
 go_enter Tryz.func156, Tryz.ntmps156
 go_wp2_with (first | (go_at_call 146; refine (c1 _).mono ?_; rintro e w1 ⟨rfl, hb1⟩; have HE := Ext.next (w0 := w) (W := w) hb1) | (go_at_call 158; refine (c2 _ ((HE.1 _ _ hg).trans h)).mono ?_; rintro e w1 ⟨rfl, hb1⟩; have HE := Ext.next (w0 := w) (W := w) hb1) | (go_at_call 135; refine (c3 _).mono ?_; rintro e w1 ⟨rfl, hb1⟩; have HE := Ext.next (w0 := w) (W := w) hb1))
 go_ret
 exact ⟨rfl, Ext.end⟩
theorem scaled_k (t a b : Int) (w : World) (ha : U64 a) (hv : validV t [a] = 0) (c4 : ∀ g w, w.cell? ⟨g, 0, none⟩ = some (.int .i64 (-1)) → g < w.heap.size → Calls Tryz.prog 156 #[.int .i64 t, .int .u64 a, .func (.func 158) #[] #[.pointer (some ⟨g, 0, none⟩)]] w (Ret (.int .u64 b) w)) :
  Calls Tryz.prog 145 #[.int .i64 t, .int .u64 a, .int .i64 (-1)] w (Ret (.tuple #[.int .u64 b, .int .i64 0]) w) := by
 have c1 := fun g w h => valid1_c t a g w ha h
 rw [hv] at c1
 have c2 : ∀ w, Calls Tryz.prog 130 #[.int .i64 (-1), .int .i64 (-5000), .int .i64 5000] w (Ret (.int .i64 0) w) := fun w => ranged_c (-1) (-5000) 5000 w
 have c3 : ∀ w, Calls Tryz.prog 128 #[.int .i64 0, .int .i64 0] w (Ret (.int .i64 0) w) := fun w => either_c 0 0 w
 clear ha hv
 go_enter Tryz.func145, Tryz.ntmps145
 go_upto_region 1 with (fail)
 refine hide1 w (fun W k0 s0 HE => ?_)
 go_region_held3 (fun w' => Ext w W w') (first | assumption | (with_reducible exact Ext.call (by assumption) hb1) | ((with_reducible refine Ext.drew ?_); assumption) | ((with_reducible refine Ext.alloc ?_ _); assumption) | ((with_reducible refine Ext.drew ?_); (with_reducible refine Ext.alloc ?_ _); assumption)) (first | (go_at_call 141; refine (c1 _ _ (by first | assumption | (go_simp; done))).mono ?_; rintro e w1 ⟨rfl, hb1⟩; have HE1 : Ext w W w1 := Ext.call (by first | assumption | ((with_reducible refine Ext.alloc ?_ _); assumption)) hb1) | (go_at_call 130; (with_reducible refine (c2 _).mono ?_); rintro e w1 ⟨rfl, hb1⟩; (try (have hcw : w1.cell? ⟨W.heap.size, 0, none⟩ = some (.int .u64 a) := ((bcell hb1).1 _ _ (by simp)).trans (by go_simp))); have HE1 : Ext w W w1 := Ext.call (by first | assumption | ((with_reducible refine Ext.alloc ?_ _); assumption)) hb1) | (go_at_call 128; (with_reducible refine (c3 _).mono ?_); rintro e w1 ⟨rfl, hb1⟩; have HE1 : Ext w W w1 := Ext.call (by assumption) hb1))
 all_goals
  have HX := (by assumption : Ext w W _)
  go_wp2_with (go_at_call 156; refine (c4 _ _ ((HX.1 _ _ s0).trans (k0 0)) (Nat.lt_of_lt_of_le s0 HX.2.2.1)).mono ?_; rintro e w9 ⟨rfl, hb9⟩; have HY := HX.call hb9)
  go_ret2
  exact ⟨rfl, HY.2.2.2⟩
theorem ScaledBy_1 (w : World) : Calls Tryz.prog 145 #[.int .i64 1, .int .u64 1065353216, .int .i64 (-1)] w (Ret (.tuple #[.int .u64 1056964608, .int .i64 0]) w) :=
 scaled_k 1 1065353216 1056964608 w (by decide) (by decide) on1_h1
theorem ScaledBy_2 (w : World) : Calls Tryz.prog 145 #[.int .i64 2, .int .u64 ((D1 : Nat) : Int), .int .i64 (-1)] w (Ret (.tuple #[.int .u64 ((DH : Nat) : Int), .int .i64 0]) w) :=
 scaled_k 2 ((D1 : Nat) : Int) ((DH : Nat) : Int) w (by decide) (by decide +kernel) on1_h2
end Go.Proofs.YtmoimcblmmcffaaGreat.NC
namespace Go.Proofs.YtmoimcblmmcffaaGreat
open Go.RowKit NC B
def rl_ScaledBy.f (a0 a1 a2 : Int) : Option (Int × Int) := if (a0 == 1 && a1 == 1065353216 && a2 == -1) = true then some (1056964608, 0) else if (a0 == 2 && a1 == ((D1 : Nat) : Int) && a2 == -1) = true then some (((DH : Nat) : Int), 0) else none
theorem rl_ScaledBy.calls (a0 a1 a2 r1 r2 : Int) (w : World) (h : rl_ScaledBy.f a0 a1 a2 = some (r1, r2)) :
  Calls Tryz.prog 145 #[.int .i64 a0, .int .u64 a1, .int .i64 a2] w fun e w' => e = .returned (.tuple #[.int .u64 r1, .int .i64 r2]) ∧ Below w.heap.size w w' := by
 unfold rl_ScaledBy.f at h
 by_cases h1 : (a0 == 1 && a1 == 1065353216 && a2 == -1) = true
 ·rw [if_pos h1] at h
  simp only [Bool.and_eq_true, beq_iff_eq] at h1
  obtain ⟨⟨rfl, rfl⟩, rfl⟩ := h1
  injection Option.some.inj h with h2 h3
  subst h2 h3
  exact ScaledBy_1 w
 ·rw [if_neg h1] at h
  by_cases h4 : (a0 == 2 && a1 == ((D1 : Nat) : Int) && a2 == -1) = true
  ·rw [if_pos h4] at h
   simp only [Bool.and_eq_true, beq_iff_eq] at h4
   obtain ⟨⟨rfl, rfl⟩, rfl⟩ := h4
   injection Option.some.inj h with h2 h3
   subst h2 h3
   exact ScaledBy_2 w
  ·rw [if_neg h4] at h; cases h
end Go.Proofs.YtmoimcblmmcffaaGreat

namespace Go.Proofs.YtmoimcblmmcffaaGreat.B
open Go.RowKit
set_option linter.unusedSimpArgs false
set_option linter.unusedVariables false
theorem fits_c (t : Int) (A : Option Addr) (xs : List Int) (c : Nat) (w : World) (hx : ∀ x ∈ xs, 0 ≤ x ∧ x ≤ 18446744073709551615) (hl : xs.length ≤ 1000) (hr : Reads w A xs) :
  Calls Tryz.prog 91 #[.int .i64 t, .slice A xs.length c] w (Ret (.bool (decide (bitsErrV t xs = 0))) w) := by
 go_enter Tryz.func91, Tryz.ntmps91
 go_wp2
 go_loop [9] (fun i => ∃ k : Nat, k ≤ xs.length ∧ i = .int .i64 k ∧ Low t xs k) (fun i => xs.length - (intOf i).toNat)
 case atStart => exact ⟨0, Nat.zero_le _, rfl, fun _ j hj => by omega⟩
 case round =>
  obtain ⟨k, hk, rfl, hlow⟩ := hrel
  by_cases hlt : k < xs.length
  ·obtain ⟨ad, rfl, hcell⟩ := hr k hlt
   have hb := hx (xs.getD k 0) (getD_mem hlt)
   have HR := Lib.hid hr
   have HX := Lib.hid hx
   clear hr hx
   obtain ⟨x, hxk⟩ : ∃ x, xs.getD k 0 = x := ⟨_, rfl⟩
   rw [hxk] at hcell hb
   have HK := Lib.hid hxk
   clear hxk
   by_cases ht : t = 1
   ·subst ht
    by_cases hq : x < 4294967296
    ·have b : (x / 4294967296 != 0) = false := by simp; omega
     have hl2 := hlow.succ (fun _ => by rw [HK.out]; exact hq)
     go_wp2
     go_round
     case rel => exact ⟨k + 1, by omega, by go_num, hl2⟩
     case measure => simp [intOf]; omega
    ·have b : (x / 4294967296 != 0) = true := by simp; omega
     have h2 := Lib.hid (bitsErr_big hlt (by rw [HK.out]; exact hq))
     go_wp2
     go_ret
     exact ⟨by rw [h2.out]; rfl, below_end⟩
   ·have b : (t == 1) = false := by simpa using ht
    have hl2 := hlow.succ (fun h => absurd h ht)
    go_wp2
    go_round
    case rel => exact ⟨k + 1, by omega, by go_num, hl2⟩
    case measure => simp [intOf]; omega
  ·have hk' : k = xs.length := by omega
   have h0 := Lib.hid (Low.all (hk' ▸ hlow))
   clear hk'
   go_wp2
   go_ret
   exact ⟨by rw [h0.out]; rfl, below_end⟩
theorem fits2_c (t a b : Int) (g : Nat) (w : World) (ha : U64 a) (hb : U64 b) (h : w.cell? ⟨g, 0, none⟩ = some (.int .u64 a)) (h' : w.cell? ⟨g, 1, none⟩ = some (.int .u64 b)) :
  Calls Tryz.prog 91 #[.int .i64 t, .slice (some ⟨g, 0, none⟩) 2 2] w (Ret (.bool (decide (bitsErrV t [a, b] = 0))) w) :=
 fits_c t _ [a, b] 2 w (by intro x hx; simp at hx; rcases hx with rfl | rfl <;> assumption) (by simp) (reads2 h h')
def cpart (t : Int) : Int := if t = 3 then 1 else if t = 4 then 2 else 0
def ctypeErrV (t : Int) : Int := if t = 3 then 0 else if t = 4 then 0 else 27
theorem partType_c (t : Int) (w : World) : Calls Tryz.prog 88 #[.int .i64 t] w (Ret (.tuple #[.int .i64 (cpart t), .int .i64 (ctypeErrV t)]) w) := by
 unfold cpart ctypeErrV
 by_cases h1 : t = 3
 ·subst h1
  go_enter Tryz.func88, Tryz.ntmps88
  go_wp2
  go_ret2
  exact ⟨rfl, below_end⟩
 ·by_cases h2 : t = 4
  ·subst h2
   go_enter Tryz.func88, Tryz.ntmps88
   go_wp2
   go_ret2
   exact ⟨rfl, below_end⟩
  ·have b1 : (t == 3) = false := by simpa using h1
   have b2 : (t == 4) = false := by simpa using h2
   rw [if_neg h1, if_neg h2, if_neg h1, if_neg h2]
   go_enter Tryz.func88, Tryz.ntmps88
   go_wp2
   go_ret2
   exact ⟨rfl, below_end⟩
def openErrV (t a b : Int) (s : ByteArray) : Int := if ctypeErrV t = 0 then (if s.toList = [] then (if bitsErrV (cpart t) [a, b] = 0 then 0 else 3) else 3) else ctypeErrV t
set_option maxRecDepth 100000 in
set_option maxHeartbeats 4000000 in
theorem open_c (t a b : Int) (s : ByteArray) (w : World) (ha : U64 a) (hb : U64 b) : Calls Tryz.prog 72 #[.agg #[.int .i64 t, .int .u64 a, .int .u64 b, .string s]] w (Ret (.tuple #[.int .i64 (cpart t), .agg #[.int .u64 a, .int .u64 b], .int .i64 (openErrV t a b s)]) w) := by
 have c1 := partType_c t
 have c2 := fun g w h h' => fits2_c (cpart t) a b g w ha hb h h'
 unfold openErrV
 generalize cpart t = p at *
 generalize ctypeErrV t = e at *
 generalize bitsErrV p [a, b] = f at *
 clear ha hb
 by_cases he : e = 0
 ·subst he
  rw [if_pos rfl]
  by_cases hs : s.toList = []
  ·have hs1 : (s.toList != []) = false := by simpa using hs
   rw [if_pos hs]
   by_cases hf : f = 0
   ·simp only [hf, decide_true, if_true] at c2 ⊢
    go_enter Tryz.func72, Tryz.ntmps72
    go_upto_region 1 with (fail)
    refine hide1own w (fun W k0 ho HW => ?_)
    have HO : ExO (w.heap.size + 1) w W (w.heap.size + 1) 2 W := ⟨HW, ho⟩
    go_upto_region 4 with (first | (go_at_call 88; refine (c1 _).mono ?_; rintro e w1 ⟨rfl, hb1⟩; have HO := HO.call hb1) | (go_at_call 91; refine (c2 _ _ (by go_simp) (by go_simp)).mono ?_; rintro e w2 ⟨rfl, hb2⟩; have HO := (HO.alloc _).call hb2))
    go_region_held3 (fun w' => ExO (w.heap.size + 1) w W (w.heap.size + 1) 2 w') (exact ExO.keep) (fail)
    go_wp2
    have h := (by assumption : ExO _ _ _ _ _ _)
    obtain ⟨e0, e1⟩ := Own.read2 (n := 0) h.2
    exact bodyPost_ret (v := .tuple #[.int .i64 p, .agg #[.int .u64 a, .int .u64 b], .int .i64 0]) (by simp [results, Tryz.results72, go_sem, e0, e1]) rfl ⟨rfl, h.end⟩
   ·simp only [hf, decide_false, if_false] at c2 ⊢
    go_enter Tryz.func72, Tryz.ntmps72
    go_upto_region 1 with (fail)
    refine hide1own w (fun W k0 ho HW => ?_)
    have HO : ExO (w.heap.size + 1) w W (w.heap.size + 1) 2 W := ⟨HW, ho⟩
    go_upto_region 4 with (first | (go_at_call 88; refine (c1 _).mono ?_; rintro e w1 ⟨rfl, hb1⟩; have HO := HO.call hb1) | (go_at_call 91; refine (c2 _ _ (by go_simp) (by go_simp)).mono ?_; rintro e w2 ⟨rfl, hb2⟩; have HO := (HO.alloc _).call hb2))
    go_region_held3 (fun w' => ExO (w.heap.size + 1) w W (w.heap.size + 1) 2 w') (exact ExO.keep) (fail)
    go_wp2
    have h := (by assumption : ExO _ _ _ _ _ _)
    obtain ⟨e0, e1⟩ := Own.read2 (n := 0) h.2
    exact bodyPost_ret (v := .tuple #[.int .i64 p, .agg #[.int .u64 a, .int .u64 b], .int .i64 3]) (by simp [results, Tryz.results72, go_sem, e0, e1]) rfl ⟨rfl, h.end⟩
  ·have hs1 : (s.toList != []) = true := by simpa using hs
   rw [if_neg hs]
   go_enter Tryz.func72, Tryz.ntmps72
   go_upto_region 1 with (fail)
   refine hide1own w (fun W k0 ho HW => ?_)
   have HO : ExO (w.heap.size + 1) w W (w.heap.size + 1) 2 W := ⟨HW, ho⟩
   go_upto_region 4 with (first | (go_at_call 88; refine (c1 _).mono ?_; rintro e w1 ⟨rfl, hb1⟩; have HO := HO.call hb1) | (go_at_call 91; refine (c2 _ _ (by go_simp) (by go_simp)).mono ?_; rintro e w2 ⟨rfl, hb2⟩; have HO := (HO.alloc _).call hb2))
   go_region_held3 (fun w' => ExO (w.heap.size + 1) w W (w.heap.size + 1) 2 w') (exact ExO.keep) (fail)
   go_wp2
   have h := (by assumption : ExO _ _ _ _ _ _)
   obtain ⟨e0, e1⟩ := Own.read2 (n := 0) h.2
   exact bodyPost_ret (v := .tuple #[.int .i64 p, .agg #[.int .u64 a, .int .u64 b], .int .i64 3]) (by simp [results, Tryz.results72, go_sem, e0, e1]) rfl ⟨rfl, h.end⟩
 ·have he1 : (e == 0) = false := by simpa using he
  have he2 : (e != 0) = true := by simpa using he
  rw [if_neg he]
  go_enter Tryz.func72, Tryz.ntmps72
  go_upto_region 1 with (fail)
  refine hide1own w (fun W k0 ho HW => ?_)
  have HO : ExO (w.heap.size + 1) w W (w.heap.size + 1) 2 W := ⟨HW, ho⟩
  go_upto_region 4 with (first | (go_at_call 88; refine (c1 _).mono ?_; rintro e w1 ⟨rfl, hb1⟩; have HO := HO.call hb1) | (go_at_call 91; refine (c2 _ _ (by go_simp) (by go_simp)).mono ?_; rintro e w2 ⟨rfl, hb2⟩; have HO := (HO.alloc _).call hb2))
  go_region_held3 (fun w' => ExO (w.heap.size + 1) w W (w.heap.size + 1) 2 w') (exact ExO.keep) (fail)
  go_wp2
  have h := (by assumption : ExO _ _ _ _ _ _)
  obtain ⟨e0, e1⟩ := Own.read2 (n := 0) h.2
  exact bodyPost_ret (v := .tuple #[.int .i64 p, .agg #[.int .u64 a, .int .u64 b], .int .i64 e]) (by simp [results, Tryz.results72, go_sem, e0, e1]) rfl ⟨rfl, h.end⟩
end Go.Proofs.YtmoimcblmmcffaaGreat.B

namespace Go.Proofs.YtmoimcblmmcffaaGreat.B
open Go.RowKit
set_option linter.unusedSimpArgs false
set_option linter.unusedVariables false
abbrev BS (w : World) (g2 g3 gx gy : Nat) (x0 x1 y0 y1 : Value) (V : World) : Prop :=
 (V.cell? ⟨gx, 0, none⟩ = some x0 ∧ V.cell? ⟨gx, 1, none⟩ = some x1 ∧ V.cell? ⟨gy, 0, none⟩ = some y0 ∧ V.cell? ⟨gy, 1, none⟩ = some y1) ∧ (Own V g2 2 ∧ Own V g3 2) ∧ Below w.heap.size w V ∧ (gx ≠ g2 ∧ gx ≠ g3 ∧ gy ≠ g2 ∧ gy ≠ g3 ∧ g2 ≠ g3 ∧ w.heap.size ≤ g2 ∧ w.heap.size ≤ g3)
section
variable {w V : World} {g2 g3 gx gy : Nat} {x0 x1 y0 y1 : Value}
theorem far_cell {W : World} {p a : Addr} {u v : Value} (h : W.cell? a = some v) (hn : a.block ≠ p.block) : (W.setCell p u).cell? a = some v :=
 (World.cell?_setCell_other W p a u (fun e => hn (by rw [e]))).trans h
theorem BS.drew (h : BS w g2 g3 gx gy x0 x1 y0 y1 V) : BS w g2 g3 gx gy x0 x1 y0 y1 V.drew := ⟨h.1, ⟨h.2.1.1.drew, h.2.1.2.drew⟩, h.2.2.1.drew, h.2.2.2⟩
theorem BS.put2 (h : BS w g2 g3 gx gy x0 x1 y0 y1 V) (j : Nat) (v : Value) : BS w g2 g3 gx gy x0 x1 y0 y1 (V.setCell ⟨g2, j, none⟩ v) := by
 obtain ⟨⟨a, b, c, d⟩, ⟨o2, o3⟩, hb, n1, n2, n3, n4, n5, l2, l3⟩ := h
 exact ⟨⟨far_cell a n1, far_cell b n1, far_cell c n3, far_cell d n3⟩, ⟨o2.set _ _, o3.set _ _⟩, hb.setCell (p := ⟨g2, j, none⟩) l2 v, n1, n2, n3, n4, n5, l2, l3⟩
theorem BS.put3 (h : BS w g2 g3 gx gy x0 x1 y0 y1 V) (j : Nat) (v : Value) : BS w g2 g3 gx gy x0 x1 y0 y1 (V.setCell ⟨g3, j, none⟩ v) := by
 obtain ⟨⟨a, b, c, d⟩, ⟨o2, o3⟩, hb, n1, n2, n3, n4, n5, l2, l3⟩ := h
 exact ⟨⟨far_cell a n2, far_cell b n2, far_cell c n4, far_cell d n4⟩, ⟨o2.set _ _, o3.set _ _⟩, hb.setCell (p := ⟨g3, j, none⟩) l3 v, n1, n2, n3, n4, n5, l2, l3⟩
theorem BS.keep (h : BS w g2 g3 gx gy x0 x1 y0 y1 V := by repeat (with_reducible first | assumption | refine BS.drew ?_ | refine BS.put2 ?_ _ _ | refine BS.put3 ?_ _ _)) : BS w g2 g3 gx gy x0 x1 y0 y1 V := h
end
theorem hide4 {P : Program} {c : Code} {Q : Exit → Act → World → Prop} {a : Act} {w : World} {cs cs' r r' : Array Value} {t t' t2 t3 : TypeId}
  (h : ∀ W n, n = w.heap.size → (∀ i, W.cell? ⟨n, i, none⟩ = cs[i]?) → (∀ i, W.cell? ⟨n + 1, i, none⟩ = cs'[i]?) → Own W (n + 2) r.size → Own W (n + 3) r'.size → n + 4 ≤ W.heap.size → Below w.heap.size w W → c.wp P Q a W) :
  c.wp P Q a ((((w.alloc (.cells cs t (0, 0))).alloc (.cells cs' t' (0, 0))).alloc (.cells r t2 (0, 0))).alloc (.cells r' t3 (0, 0))) := by
 have e1 : (w.alloc (.cells cs t (0, 0))).heap.size = w.heap.size + 1 := by simp
 have e2 : ((w.alloc (.cells cs t (0, 0))).alloc (.cells cs' t' (0, 0))).heap.size = w.heap.size + 2 := by simp
 have e3 : (((w.alloc (.cells cs t (0, 0))).alloc (.cells cs' t' (0, 0))).alloc (.cells r t2 (0, 0))).heap.size = w.heap.size + 3 := by simp
 refine h _ w.heap.size rfl (fun i => ?_) (fun i => ?_) ?_ ?_ (by simp) (below_alloc0 (below_alloc0 (below_alloc0 (below_alloc0 (Below.refl _ _) _) _) _) _)
 ·rw [cell_of_row _ _ i cs t (0, 0) ((Below.heap_alloc _ _ _ (by rw [e3]; omega)).trans ((Below.heap_alloc _ _ _ (by rw [e2]; omega)).trans ((Below.heap_alloc _ _ _ (by rw [e1]; omega)).trans (heap_alloc_new w _))))]
 ·have k := heap_alloc_new (w.alloc (.cells cs t (0, 0))) (.cells cs' t' (0, 0))
  rw [e1] at k
  rw [cell_of_row _ _ i cs' t' (0, 0) ((Below.heap_alloc _ _ _ (by rw [e3]; omega)).trans ((Below.heap_alloc _ _ _ (by rw [e2]; omega)).trans k))]
 ·have k := own_new ((w.alloc (.cells cs t (0, 0))).alloc (.cells cs' t' (0, 0))) r t2
  rw [e2] at k
  exact k.alloc _
 ·have k := own_new (((w.alloc (.cells cs t (0, 0))).alloc (.cells cs' t' (0, 0))).alloc (.cells r t2 (0, 0))) r' t3
  rw [e3] at k
  exact k
theorem hideP1 {P : Program} {c : Code} {Q : Exit → Act → World → Prop} {a : Act} {w W w1 : World} {n : Nat} {cs' : Array Value} {x0 x1 : Value} {t : TypeId}
  (k1 : ∀ i, W.cell? ⟨n + 1, i, none⟩ = cs'[i]?) (o2 : Own W (n + 2) 2) (o3 : Own W (n + 3) 2) (hs : n + 4 ≤ W.heap.size) (hbl : Below w.heap.size w W) (hb : Below W.heap.size W w1)
  (h : ∀ V gx, w1.heap.size = gx → (∀ i, V.cell? ⟨n + 1, i, none⟩ = cs'[i]?) → V.cell? ⟨gx, 0, none⟩ = some x0 → V.cell? ⟨gx, 1, none⟩ = some x1 → Own V (n + 2) 2 → Own V (n + 3) 2 → n + 4 ≤ gx → gx < V.heap.size → Below w.heap.size w V → c.wp P Q a V) :
  c.wp P Q a (w1.alloc (.cells #[x0, x1] t (0, 0))) := by
 have hsz := hb.size
 have hb2 : Below W.heap.size W (w1.alloc (.cells #[x0, x1] t (0, 0))) := below_alloc0 hb _
 exact h _ _ rfl (fun i => ((bcell hb2).1 _ _ (by omega)).trans (k1 i)) (cell_of_row _ _ 0 _ t (0, 0) (heap_alloc_new w1 _)) (cell_of_row _ _ 1 _ t (0, 0) (heap_alloc_new w1 _)) (o2.call hb2) (o3.call hb2) (by omega) (by simp) (hbl.trans (hb2.mono hbl.size))
theorem hideP2 {P : Program} {c : Code} {Q : Exit → Act → World → Prop} {a : Act} {w W w1 : World} {n gx : Nat} {x0 x1 y0 y1 : Value} {t : TypeId}
  (kx0 : W.cell? ⟨gx, 0, none⟩ = some x0) (kx1 : W.cell? ⟨gx, 1, none⟩ = some x1) (o2 : Own W (n + 2) 2) (o3 : Own W (n + 3) 2) (hs : n + 4 ≤ gx) (hs2 : gx < W.heap.size) (hbl : Below w.heap.size w W) (hnw : n = w.heap.size) (hb : Below W.heap.size W w1)
  (h : ∀ V gy, w1.heap.size = gy → BS w (n + 2) (n + 3) gx gy x0 x1 y0 y1 V → c.wp P Q a V) :
  c.wp P Q a (w1.alloc (.cells #[y0, y1] t (0, 0))) := by
 have hsz := hb.size
 have hb2 : Below W.heap.size W (w1.alloc (.cells #[y0, y1] t (0, 0))) := below_alloc0 hb _
 refine h _ _ rfl ⟨⟨((bcell hb2).1 _ _ hs2).trans kx0, ((bcell hb2).1 _ _ hs2).trans kx1, cell_of_row _ _ 0 _ t (0, 0) (heap_alloc_new w1 _), cell_of_row _ _ 1 _ t (0, 0) (heap_alloc_new w1 _)⟩, ⟨o2.call hb2, o3.call hb2⟩, hbl.trans (hb2.mono hbl.size), ?_⟩
 subst hnw
 refine ⟨?_, ?_, ?_, ?_, ?_, ?_, ?_⟩ <;> omega
theorem read22 {W : World} {g2 g3 : Nat} {a b c d : Value} (o2 : Own ((((W.setCell ⟨g2, 0, none⟩ a).setCell ⟨g2, 1, none⟩ b).setCell ⟨g3, 0, none⟩ c).setCell ⟨g3, 1, none⟩ d) g2 2) (o3 : Own ((((W.setCell ⟨g2, 0, none⟩ a).setCell ⟨g2, 1, none⟩ b).setCell ⟨g3, 0, none⟩ c).setCell ⟨g3, 1, none⟩ d) g3 2) (hn : g2 ≠ g3) :
  let V := (((W.setCell ⟨g2, 0, none⟩ a).setCell ⟨g2, 1, none⟩ b).setCell ⟨g3, 0, none⟩ c).setCell ⟨g3, 1, none⟩ d
  V.cell? ⟨g2, 0, none⟩ = some a ∧ V.cell? ⟨g2, 1, none⟩ = some b ∧ V.cell? ⟨g3, 0, none⟩ = some c ∧ V.cell? ⟨g3, 1, none⟩ = some d := by
 have far : ∀ (X : World) (i j : Nat) (u : Value), (X.setCell ⟨g3, j, none⟩ u).cell? ⟨g2, i, none⟩ = X.cell? ⟨g2, i, none⟩ := fun X i j u => World.cell?_setCell_other X _ _ u (by intro e; injection e with e1 e2; exact hn e1.symm)
 have e0 := o2.1 0 (by decide)
 have e1 := o2.1 1 (by decide)
 have h3 := Own.read2 (n := 0) o3
 refine ⟨?_, ?_, h3.1, h3.2⟩
 ·rw [e0]; rw [far, far, cell_put_ne (by decide)] at e0; rw [cell_put e0]
 ·rw [e1]; rw [far, far] at e1; rw [cell_put e1]
def bothV (t a b : Int) (s : ByteArray) (t' a' b' : Int) (s' : ByteArray) : Int × Int × Int × Int × Int × Int :=
 if openErrV t a b s = 0 then (cpart t, a, b, a', b', if openErrV t' a' b' s' = 0 then (if cpart t = cpart t' then 0 else 27) else openErrV t' a' b' s') else (cpart t, a, b, a, b, openErrV t a b s)
def bothVal (v : Int × Int × Int × Int × Int × Int) : Value := .tuple #[.int .i64 v.1, .agg #[.int .u64 v.2.1, .int .u64 v.2.2.1], .agg #[.int .u64 v.2.2.2.1, .int .u64 v.2.2.2.2.1], .int .i64 v.2.2.2.2.2]
set_option maxRecDepth 100000 in
set_option maxHeartbeats 4000000 in
theorem both_c (t a b : Int) (s : ByteArray) (t' a' b' : Int) (s' : ByteArray) (w : World) (ha : U64 a) (hb : U64 b) (ha' : U64 a') (hb' : U64 b') :
  Calls Tryz.prog 52 #[.agg #[.int .i64 t, .int .u64 a, .int .u64 b, .string s], .agg #[.int .i64 t', .int .u64 a', .int .u64 b', .string s']] w (Ret (bothVal (bothV t a b s t' a' b' s')) w) := by
 have c1 := fun w => open_c t a b s w ha hb
 have c2 := fun w => open_c t' a' b' s' w ha' hb'
 unfold bothV bothVal
 generalize cpart t = p at *
 generalize cpart t' = p' at *
 generalize openErrV t a b s = e at *
 generalize openErrV t' a' b' s' = e' at *
 clear ha hb ha' hb'
 by_cases he : e = 0
 ·subst he
  rw [if_pos rfl]
  simp only []
  by_cases he2 : e' = 0
  ·subst he2
   rw [if_pos rfl]
   by_cases hp : p = p'
   ·subst hp
    rw [if_pos rfl]
    go_enter Tryz.func52, Tryz.ntmps52
    go_upto_region 1 with (fail)
    refine hide4 (fun W n hnw k0 k1 o2 o3 hsz hbl => ?_)
    subst hnw
    go_upto_region 2 with (go_at_call 72; refine (c1 _).mono ?_; rintro e w1 ⟨rfl, hb1⟩)
    refine hideP1 k1 o2 o3 hsz hbl hb1 (fun V gx hgx k1' kx0 kx1 o2' o3' hs1 hs2 hbl' => ?_)
    rw [hgx]
    clear k0 k1 o2 o3 hsz hbl
    go_upto_region 5 with (go_at_call 72; refine (c2 _).mono ?_; rintro e w2 ⟨rfl, hb2⟩)
    refine hideP2 kx0 kx1 o2' o3' hs1 hs2 hbl' rfl hb2 (fun X gy hgy HB => ?_)
    rw [hgy]
    clear kx0 kx1 o2' o3' hs1 hs2 hbl' k1'
    go_upto_region 7 with (fail)
    go_region_held3 (fun w' => BS w (w.heap.size + 2) (w.heap.size + 3) gx gy (.int .u64 a) (.int .u64 b) (.int .u64 a') (.int .u64 b') w') (with_reducible exact BS.keep) (fail)
    go_wp2
    have h := (by with_reducible assumption : BS _ _ _ _ _ _ _ _ _ _)
    obtain ⟨e0, e1, e2, e3⟩ := read22 h.2.1.1 h.2.1.2 h.2.2.2.2.2.2.2.1
    exact bodyPost_ret (v := .tuple #[.int .i64 p, .agg #[.int .u64 a, .int .u64 b], .agg #[.int .u64 a', .int .u64 b'], .int .i64 0]) (by simp [results, Tryz.results52, go_sem, e0, e1, e2, e3]) rfl ⟨rfl, h.2.2.1⟩
   ·have hp1 : (p != p') = true := by simpa using hp
    rw [if_neg hp]
    go_enter Tryz.func52, Tryz.ntmps52
    go_upto_region 1 with (fail)
    refine hide4 (fun W n hnw k0 k1 o2 o3 hsz hbl => ?_)
    subst hnw
    go_upto_region 2 with (go_at_call 72; refine (c1 _).mono ?_; rintro e w1 ⟨rfl, hb1⟩)
    refine hideP1 k1 o2 o3 hsz hbl hb1 (fun V gx hgx k1' kx0 kx1 o2' o3' hs1 hs2 hbl' => ?_)
    rw [hgx]
    clear k0 k1 o2 o3 hsz hbl
    go_upto_region 5 with (go_at_call 72; refine (c2 _).mono ?_; rintro e w2 ⟨rfl, hb2⟩)
    refine hideP2 kx0 kx1 o2' o3' hs1 hs2 hbl' rfl hb2 (fun X gy hgy HB => ?_)
    rw [hgy]
    clear kx0 kx1 o2' o3' hs1 hs2 hbl' k1'
    go_upto_region 7 with (fail)
    go_region_held3 (fun w' => BS w (w.heap.size + 2) (w.heap.size + 3) gx gy (.int .u64 a) (.int .u64 b) (.int .u64 a') (.int .u64 b') w') (with_reducible exact BS.keep) (fail)
    go_wp2
    have h := (by with_reducible assumption : BS _ _ _ _ _ _ _ _ _ _)
    obtain ⟨e0, e1, e2, e3⟩ := read22 h.2.1.1 h.2.1.2 h.2.2.2.2.2.2.2.1
    exact bodyPost_ret (v := .tuple #[.int .i64 p, .agg #[.int .u64 a, .int .u64 b], .agg #[.int .u64 a', .int .u64 b'], .int .i64 27]) (by simp [results, Tryz.results52, go_sem, e0, e1, e2, e3]) rfl ⟨rfl, h.2.2.1⟩
  ·have he3 : (e' == 0) = false := by simpa using he2
   rw [if_neg he2]
   go_enter Tryz.func52, Tryz.ntmps52
   go_upto_region 1 with (fail)
   refine hide4 (fun W n hnw k0 k1 o2 o3 hsz hbl => ?_)
   subst hnw
   go_upto_region 2 with (go_at_call 72; refine (c1 _).mono ?_; rintro e w1 ⟨rfl, hb1⟩)
   refine hideP1 k1 o2 o3 hsz hbl hb1 (fun V gx hgx k1' kx0 kx1 o2' o3' hs1 hs2 hbl' => ?_)
   rw [hgx]
   clear k0 k1 o2 o3 hsz hbl
   go_upto_region 5 with (go_at_call 72; refine (c2 _).mono ?_; rintro e w2 ⟨rfl, hb2⟩)
   refine hideP2 kx0 kx1 o2' o3' hs1 hs2 hbl' rfl hb2 (fun X gy hgy HB => ?_)
   rw [hgy]
   clear kx0 kx1 o2' o3' hs1 hs2 hbl' k1'
   go_upto_region 7 with (fail)
   go_region_held3 (fun w' => BS w (w.heap.size + 2) (w.heap.size + 3) gx gy (.int .u64 a) (.int .u64 b) (.int .u64 a') (.int .u64 b') w') (with_reducible exact BS.keep) (fail)
   go_wp2
   have h := (by with_reducible assumption : BS _ _ _ _ _ _ _ _ _ _)
   obtain ⟨e0, e1, e2, e3⟩ := read22 h.2.1.1 h.2.1.2 h.2.2.2.2.2.2.2.1
   exact bodyPost_ret (v := .tuple #[.int .i64 p, .agg #[.int .u64 a, .int .u64 b], .agg #[.int .u64 a', .int .u64 b'], .int .i64 e']) (by simp [results, Tryz.results52, go_sem, e0, e1, e2, e3]) rfl ⟨rfl, h.2.2.1⟩
 ·have he3 : (e != 0) = true := by simpa using he
  rw [if_neg he]
  simp only []
  go_enter Tryz.func52, Tryz.ntmps52
  go_upto_region 1 with (fail)
  refine hide4 (fun W n hnw k0 k1 o2 o3 hsz hbl => ?_)
  subst hnw
  go_upto_region 2 with (go_at_call 72; refine (c1 _).mono ?_; rintro e w1 ⟨rfl, hb1⟩)
  refine hideP1 k1 o2 o3 hsz hbl hb1 (fun V gx hgx k1' kx0 kx1 o2' o3' hs1 hs2 hbl' => ?_)
  rw [hgx]
  clear k0 k1 o2 o3 hsz hbl
  go_upto_region 3 with (fail)
  have HB : BS w (w.heap.size + 2) (w.heap.size + 3) gx gx (.int .u64 a) (.int .u64 b) (.int .u64 a) (.int .u64 b) V := ⟨⟨kx0, kx1, kx0, kx1⟩, ⟨o2', o3'⟩, hbl', by refine ⟨?_, ?_, ?_, ?_, ?_, ?_, ?_⟩ <;> omega⟩
  go_region_held3 (fun w' => BS w (w.heap.size + 2) (w.heap.size + 3) gx gx (.int .u64 a) (.int .u64 b) (.int .u64 a) (.int .u64 b) w') (with_reducible exact BS.keep) (fail)
  go_wp2
  have h := (by with_reducible assumption : BS _ _ _ _ _ _ _ _ _ _)
  obtain ⟨e0, e1, e2, e3⟩ := read22 h.2.1.1 h.2.1.2 h.2.2.2.2.2.2.2.1
  exact bodyPost_ret (v := .tuple #[.int .i64 p, .agg #[.int .u64 a, .int .u64 b], .agg #[.int .u64 a, .int .u64 b], .int .i64 e]) (by simp [results, Tryz.results52, go_sem, e0, e1, e2, e3]) rfl ⟨rfl, h.2.2.1⟩
end Go.Proofs.YtmoimcblmmcffaaGreat.B

namespace Go.Proofs.YtmoimcblmmcffaaGreat.B
open Go.RowKit
theorem hide0own {P : Program} {c : Code} {Q : Exit → Act → World → Prop} {a : Act} {w : World} {cs : Array Value} {t : TypeId}
  (h : ∀ W n, w.heap.size = n → Own W n cs.size → n < W.heap.size → Below w.heap.size w W → c.wp P Q a W) : c.wp P Q a (w.alloc (.cells cs t (0, 0))) :=
 h _ _ rfl (own_new w cs t) (by simp) (below_alloc0 (Below.refl _ _) _)
theorem hideLoc {P : Program} {c : Code} {Q : Exit → Act → World → Prop} {a : Act} {w W : World} {n : Nat} {x0 x1 : Value} {t : TypeId} (ho : Own W n 2) (_hn : n < W.heap.size) (hB : Below w.heap.size w W)
  (h : ∀ V gx, W.heap.size = gx → V.cell? ⟨gx, 0, none⟩ = some x0 → V.cell? ⟨gx, 1, none⟩ = some x1 → Own V n 2 → Below w.heap.size w V → c.wp P Q a V) : c.wp P Q a (W.alloc (.cells #[x0, x1] t (0, 0))) :=
 h _ _ rfl (cell_of_row _ _ 0 _ t (0, 0) (heap_alloc_new W _)) (cell_of_row _ _ 1 _ t (0, 0) (heap_alloc_new W _)) (ho.alloc _) (below_alloc0 hB _)
theorem below_two {w V : World} {n : Nat} (h : Below w.heap.size w V) (hn : w.heap.size ≤ n) (a b : Value) : Below w.heap.size w ((V.setCell ⟨n, 0, none⟩ a).setCell ⟨n, 1, none⟩ b) :=
 (h.setCell (p := ⟨n, 0, none⟩) hn a).setCell (p := ⟨n, 1, none⟩) hn b
end Go.Proofs.YtmoimcblmmcffaaGreat.B
