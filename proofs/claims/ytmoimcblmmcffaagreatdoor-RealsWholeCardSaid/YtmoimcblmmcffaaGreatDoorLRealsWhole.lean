/- PROVED: formularylaw08.RealsWhole returns true for every input, and leaves its arguments as they were: a value made whole, as an INTEGER and as a value, is as specified, or the errors (P8.3). CONDITIONS: the row's own: math/bits.deBruijn64tab holds at the start what the program's text lays (tied by the card); nothing else. -/
import Derived.Test.YtmoimcblmmcffaaGreatDoorQRealsWholeE
import Derived.Test.YtmoimcblmmcffaaGreatDoorQRealsWholeC
import Derived.Test.YtmoimcblmmcffaaGreatDoorQRealsWholeB

namespace Go.Proofs.YtmoimcblmmcffaaGreatDoor.NC
open Go.RowKit Go.Proofs.YtmoimcblmmcffaaGreatDoor.B Go.Proofs.YtmoimcblmmcffaaGreatDoor.N
set_option linter.unusedSimpArgs false
set_option linter.unusedVariables false
theorem bne_xor (a b : Bool) : (a ^^ b) = (a != b) := by cases a <;> cases b <;> rfl
theorem mul_told {s : Bool} {a b : Nat} {p q : PP} (ha : Told s a p) (hb : Told s b q) : resV s .mul a b = (mulP s p q : Nat) := by
 have hf : floatBits .mul (fkOf s) a b = ((((fm s).read a).product ((fm s).read b)).map (fm s).write) := rfl
 unfold mulP
 cases ha with
 | nan n1 r1 t1 u1 h10 h11 h1 hr1 =>
  simp only [true_or, if_true]
  refine res_nan ?_
  rw [hf, hr1]; rfl
 | inf n1 h1 hr1 =>
  cases hb with
  | nan n2 r2 t2 u2 h20 h21 h2 hr2 =>
   simp only [or_true, true_or, if_true]
   refine res_nan ?_
   rw [hf, hr1, hr2]; rfl
  | inf n2 h2 hr2 =>
   simp only [Int.reduceEq, or_self, and_false, false_and, if_false, if_true]
   rw [← bne_xor]
   refine res_inf ?_
   rw [hf, hr1, hr2]; rfl
  | zero n2 h2 hr2 =>
   simp only [Int.reduceEq, or_true, true_or, and_self, if_true]
   refine res_nan ?_
   rw [hf, hr1, hr2]; rfl
  | fin n2 m2 e2 r2 h20 h21 h2 hm2 hm22 he2 he22 hb2 hr2 =>
   simp only [Int.reduceEq, or_self, and_false, false_and, if_false, true_or, if_true]
   rw [← bne_xor]
   refine res_inf ?_
   rw [hf, hr1, hr2]
   show Option.map _ (if m2 = 0 then none else some (Ieee.Datum.infinity (n1 ^^ n2))) = _
   rw [if_neg (by omega)]; rfl
 | zero n1 h1 hr1 =>
  cases hb with
  | nan n2 r2 t2 u2 h20 h21 h2 hr2 =>
   simp only [or_true, true_or, if_true]
   refine res_nan ?_
   rw [hf, hr1, hr2]; rfl
  | inf n2 h2 hr2 =>
   simp only [Int.reduceEq, or_true, and_self, if_true]
   refine res_nan ?_
   rw [hf, hr1, hr2]; rfl
  | zero n2 h2 hr2 =>
   simp only [Int.reduceEq, or_self, and_false, false_and, if_false, Nat.zero_mul]
   rw [round_near, ← bne_xor, near_zero, ← near_zero s _ (leastN s + leastN s)]
   refine res_num ?_
   rw [hf, hr1, hr2]; rfl
  | fin n2 m2 e2 r2 h20 h21 h2 hm2 hm22 he2 he22 hb2 hr2 =>
   simp only [Int.reduceEq, or_self, and_false, false_and, if_false, Nat.zero_mul]
   rw [round_near, ← bne_xor, near_zero, ← near_zero s _ (leastN s + e2)]
   refine res_num ?_
   rw [hf, hr1, hr2]
   show some ((fm s).nearest (n1 ^^ n2) (0 * m2) (leastN s + e2)) = _
   rw [Nat.zero_mul]
 | fin n1 m1 e1 r1 h10 h11 h1 hm1 hm12 he1 he12 hb1 hr1 =>
  cases hb with
  | nan n2 r2 t2 u2 h20 h21 h2 hr2 =>
   simp only [or_true, true_or, if_true]
   refine res_nan ?_
   rw [hf, hr1, hr2]; rfl
  | inf n2 h2 hr2 =>
   simp only [Int.reduceEq, or_self, and_false, false_and, if_false, or_true, if_true]
   rw [← bne_xor]
   have hx : (n1 ^^ n2) = (n2 ^^ n1) := by cases n1 <;> cases n2 <;> rfl
   rw [hx]
   refine res_inf ?_
   rw [hf, hr1, hr2]
   show Option.map _ (if m1 = 0 then none else some (Ieee.Datum.infinity (n2 ^^ n1))) = _
   rw [if_neg (by omega)]; rfl
  | zero n2 h2 hr2 =>
   simp only [Int.reduceEq, or_self, and_false, false_and, if_false, Nat.mul_zero]
   rw [round_near, ← bne_xor, near_zero, ← near_zero s _ (e1 + leastN s)]
   refine res_num ?_
   rw [hf, hr1, hr2]; rfl
  | fin n2 m2 e2 r2 h20 h21 h2 hm2 hm22 he2 he22 hb2 hr2 =>
   simp only [Int.reduceEq, or_self, and_false, false_and, if_false]
   rw [round_near, ← bne_xor]
   refine res_num ?_
   rw [hf, hr1, hr2]; rfl
theorem mul_eq {s : Bool} {a b : Nat} (ha : a < 2 * signN s) (hb : b < 2 * signN s) : resV s .mul a b = (mulR s a b : Nat) := mul_told (told s a ha) (told s b hb)
theorem frac_le (s : Bool) : (fm s).fractionBits + 2 ≤ 54 ∧ lowN s = 2 ^ (fm s).fractionBits := by cases s <;> exact ⟨by decide, rfl⟩
theorem qs_ge {m n k F : Nat} (hn : 0 < n) (h : n * 2 ^ (F + 1) ≤ m * 2 ^ k) : 2 ^ (F + 2) ≤ Fl.qs (m * 2 ^ k) n := by
 unfold Fl.qs
 have h1 : 2 ^ (F + 1) ≤ m * 2 ^ k / n := (Nat.le_div_iff_mul_le hn).2 (by rw [Nat.mul_comm]; exact h)
 rw [show F + 2 = F + 1 + 1 from rfl, Nat.pow_succ]
 omega
theorem div_num (s : Bool) (n : Bool) (m1 m2 : Nat) (e1 e2 : Int) (hm1 : 1 ≤ m1) (hm2 : 1 ≤ m2) (hm22 : m2 < 2 * lowN s) :
  let more := (fm s).fractionBits + 2 + m2.log2 - m1.log2
  (fm s).nearest n (2 * ((m1 <<< more) / m2) + ((m1 <<< more) % m2 != 0).toNat) (e1 - e2 - more - 1) = roundR s n (m1 * 2 ^ 120 / m2) (e1 - e2 - 120) (decide (0 < m1 * 2 ^ 120 % m2)) := by
 intro more
 obtain ⟨f1, f2⟩ := frac_le s
 have hlog : m2 < 2 ^ (m2.log2 + 1) := Nat.lt_log2_self
 have hlog1 := Nat.log2_self_le (show m1 ≠ 0 by omega)
 have hm2b : m2 < 2 ^ 54 := by
  rw [f2] at hm22
  have : 2 * 2 ^ (fm s).fractionBits = 2 ^ ((fm s).fractionBits + 1) := by rw [Nat.pow_succ, Nat.mul_comm]
  rw [this] at hm22
  exact Nat.lt_of_lt_of_le hm22 (Nat.pow_le_pow_right (by decide) (by omega))
 have hbig1 : 2 ^ ((fm s).fractionBits + 2) ≤ Fl.qs (m1 * 2 ^ more) m2 := by
  refine qs_ge (by omega) ?_
  have h1 : m2 * 2 ^ ((fm s).fractionBits + 1) ≤ 2 ^ (m2.log2 + 1) * 2 ^ ((fm s).fractionBits + 1) := Nat.mul_le_mul_right _ (Nat.le_of_lt hlog)
  have h2 : 2 ^ m1.log2 * 2 ^ more ≤ m1 * 2 ^ more := Nat.mul_le_mul_right _ hlog1
  refine Nat.le_trans h1 (Nat.le_trans ?_ h2)
  rw [← Nat.pow_add, ← Nat.pow_add]
  exact Nat.pow_le_pow_right (by decide) (by omega)
 have hq : 2 ^ ((fm s).fractionBits + 1) ≤ m1 * 2 ^ 120 / m2 := by
  refine (Nat.le_div_iff_mul_le (by omega)).2 ?_
  have h1 : 2 ^ ((fm s).fractionBits + 1) * m2 ≤ 2 ^ 53 * 2 ^ 54 := Nat.mul_le_mul (Nat.pow_le_pow_right (by decide) (by omega)) (Nat.le_of_lt hm2b)
  have h2 : 1 * 2 ^ 120 ≤ m1 * 2 ^ 120 := Nat.mul_le_mul_right _ hm1
  exact Nat.le_trans h1 (Nat.le_trans (by decide) h2)
 have hbig2 : 2 ^ ((fm s).fractionBits + 2) ≤ Fl.qs (m1 * 2 ^ 120) m2 := by
  refine qs_ge (by omega) ?_
  have := (Nat.le_div_iff_mul_le (by omega : 0 < m2)).1 hq
  rw [Nat.mul_comm]; exact this
 have hp : 0 < 2 ^ ((fm s).fractionBits + 1) := Nat.two_pow_pos _
 rw [round_word _ _ _ _ _ (by omega), Fl.rung_more (fm s) _ _ _ hq, Fl.nearest_rung, Nat.shiftLeft_eq]
 congr 1
 have hr := Fl.rung_qs (fm s) m1 m2 more 120 (e1 - e2 - 1) (by omega) hbig1 hbig2
 unfold Fl.qs at hr
 have hd : (decide (0 < m1 * 2 ^ 120 % m2)).toNat = (m1 * 2 ^ 120 % m2 != 0).toNat := by
  congr 1
  rw [Bool.eq_iff_iff]; simp; omega
 rw [hd, show e1 - e2 - (more : Int) - 1 = e1 - e2 - 1 - (more : Int) from by omega, hr]
 congr 1
 omega
theorem div_told {s : Bool} {a b : Nat} {p q : PP} (ha : Told s a p) (hb : Told s b q) : resV s .quo a b = (divP s p q : Nat) := by
 have hf : floatBits .quo (fkOf s) a b = ((((fm s).read a).quotient ((fm s).fractionBits + 2) ((fm s).read b)).map (fm s).write) := rfl
 unfold divP
 cases ha with
 | nan n1 r1 t1 u1 h10 h11 h1 hr1 =>
  simp only [true_or, if_true]
  refine res_nan ?_
  rw [hf, hr1]; rfl
 | inf n1 h1 hr1 =>
  cases hb with
  | nan n2 r2 t2 u2 h20 h21 h2 hr2 =>
   simp only [or_true, true_or, if_true]
   refine res_nan ?_
   rw [hf, hr1, hr2]; rfl
  | inf n2 h2 hr2 =>
   simp only [Int.reduceEq, ne_eq, not_false_eq_true, and_self, or_true, if_true]
   refine res_nan ?_
   rw [hf, hr1, hr2]; rfl
  | zero n2 h2 hr2 =>
   simp only [Int.reduceEq, ne_eq, not_false_eq_true, and_true, or_self, if_false, true_or, if_true]
   rw [← bne_xor]
   refine res_inf ?_
   rw [hf, hr1, hr2]; rfl
  | fin n2 m2 e2 r2 h20 h21 h2 hm2 hm22 he2 he22 hb2 hr2 =>
   simp only [Int.reduceEq, ne_eq, not_false_eq_true, and_true, or_self, if_false, true_or, if_true]
   rw [← bne_xor]
   refine res_inf ?_
   rw [hf, hr1, hr2]; rfl
 | zero n1 h1 hr1 =>
  cases hb with
  | nan n2 r2 t2 u2 h20 h21 h2 hr2 =>
   simp only [or_true, true_or, if_true]
   refine res_nan ?_
   rw [hf, hr1, hr2]; rfl
  | inf n2 h2 hr2 =>
   simp only [Int.reduceEq, ne_eq, not_false_eq_true, and_true, or_self, if_false, or_true, if_true]
   rw [← bne_xor, ← near_zero s _ 0]
   refine res_num ?_
   rw [hf, hr1, hr2]; rfl
  | zero n2 h2 hr2 =>
   simp only [Int.reduceEq, ne_eq, not_false_eq_true, and_self, or_true, if_true]
   refine res_nan ?_
   rw [hf, hr1, hr2]; rfl
  | fin n2 m2 e2 r2 h20 h21 h2 hm2 hm22 he2 he22 hb2 hr2 =>
   simp only [Int.reduceEq, ne_eq, not_false_eq_true, and_true, or_self, if_false, true_or, if_true]
   rw [← bne_xor, ← near_zero s _ (leastN s - e2 - ((fm s).fractionBits + 2 + m2.log2 - (0 : Nat).log2 : Nat) - 1)]
   refine res_num ?_
   rw [hf, hr1, hr2]
   show Option.map (fm s).write (if m2 = 0 then _ else some (Ieee.Datum.number (n1 ^^ n2) (2 * ((0 <<< ((fm s).fractionBits + 2 + m2.log2 - (0 : Nat).log2)) / m2) + ((0 <<< ((fm s).fractionBits + 2 + m2.log2 - (0 : Nat).log2)) % m2 != 0).toNat) _)) = _
   rw [if_neg (by omega)]
   simp only [Nat.zero_shiftLeft, Nat.zero_div, Nat.zero_mod, Nat.mul_zero]
   rfl
 | fin n1 m1 e1 r1 h10 h11 h1 hm1 hm12 he1 he12 hb1 hr1 =>
  cases hb with
  | nan n2 r2 t2 u2 h20 h21 h2 hr2 =>
   simp only [or_true, true_or, if_true]
   refine res_nan ?_
   rw [hf, hr1, hr2]; rfl
  | inf n2 h2 hr2 =>
   simp only [Int.reduceEq, ne_eq, not_true_eq_false, and_false, or_self, if_false, or_true, if_true]
   rw [← bne_xor, ← near_zero s _ 0]
   refine res_num ?_
   rw [hf, hr1, hr2]; rfl
  | zero n2 h2 hr2 =>
   simp only [Int.reduceEq, ne_eq, not_true_eq_false, and_false, or_self, if_false, or_true, if_true]
   rw [← bne_xor]
   refine res_inf ?_
   rw [hf, hr1, hr2]
   simp only [Ieee.Datum.quotient, if_true]
   rw [if_neg (by omega)]; rfl
  | fin n2 m2 e2 r2 h20 h21 h2 hm2 hm22 he2 he22 hb2 hr2 =>
   simp only [Int.reduceEq, ne_eq, not_true_eq_false, and_false, or_self, if_false]
   rw [← bne_xor, ← div_num s (n1 ^^ n2) m1 m2 e1 e2 hm1 hm2 hm22]
   refine res_num ?_
   rw [hf, hr1, hr2]
   show Option.map (fm s).write (if m2 = 0 then _ else some _) = _
   rw [if_neg (by omega)]; rfl
theorem div_eq {s : Bool} {a b : Nat} (ha : a < 2 * signN s) (hb : b < 2 * signN s) : resV s .quo a b = (divR s a b : Nat) := div_told (told s a ha) (told s b hb)
end Go.Proofs.YtmoimcblmmcffaaGreatDoor.NC

namespace Go.Proofs.YtmoimcblmmcffaaGreatDoor.NC
open Go.RowKit Go.Proofs.YtmoimcblmmcffaaGreatDoor.B Go.Proofs.YtmoimcblmmcffaaGreatDoor.N
set_option linter.unusedSimpArgs false
set_option linter.unusedVariables false
theorem told_nothing {s : Bool} {a : Nat} {p : PP} (h : Told s a p) : nothingV s (a : Int) = decide (p.kind = 3) := by
 have hl := inf_lt s
 cases h with
 | zero n h hr => rw [h, nothing_word s n (by omega), decide_eq_false (by omega)]; rfl
 | inf n h hr => rw [h, nothing_word s n (by omega), decide_eq_false (by omega)]; rfl
 | fin n m e r h0 h1 h hm hm2 he he2 hb hr => rw [h, nothing_word s n (by omega), decide_eq_false (by omega)]; rfl
 | nan n r t u h0 h1 h hr => rw [h, nothing_word s n h1, decide_eq_true h0]; rfl
theorem nan_clean2 {s : Bool} {a : Int} (h : nothingV s a = true) : cleanV s a = (nanN s : Nat) := by
 unfold cleanV; rw [if_pos h]; exact nan_eq s
theorem from_eq (s : Bool) (n : Int) : fromIntV s n = (fromR s n : Nat) := by
 unfold fromIntV fromR
 rw [round_near]
 show cleanV s ((fm s).nearest (decide (n < 0)) n.natAbs 0 : Nat) = _
 exact clean_near s _ _ _
end Go.Proofs.YtmoimcblmmcffaaGreatDoor.NC

namespace Go.Proofs.YtmoimcblmmcffaaGreatDoor.NC
open Go.RowKit Go.Proofs.YtmoimcblmmcffaaGreatDoor.B Go.Proofs.YtmoimcblmmcffaaGreatDoor.N
set_option linter.unusedSimpArgs false
set_option linter.unusedVariables false
theorem f2f_number {y : Nat} {s : Bool} {m : Nat} {e : Int} (h : Ieee.double.read y = .number s m e) (hi : (Ieee.single.read (Ieee.single.nearest s m e)).isInfinity = false) : floatToFloatBits .f64 y .f32 = some (Ieee.single.nearest s m e) := by
 unfold floatToFloatBits
 rw [if_neg (by decide)]
 have h' : FloatKind.f64.decode y = .number s m e := h
 rw [h']
 show (if (Ieee.single.read (Ieee.single.nearest s m e)).isInfinity = true then none else some (Ieee.single.nearest s m e)) = _
 rw [hi, if_neg (by decide)]
theorem f2f_inf {y : Nat} {s : Bool} (h : Ieee.double.read y = .infinity s) : floatToFloatBits .f64 y .f32 = some (Ieee.single.word s Ieee.single.infRung) := by
 unfold floatToFloatBits
 rw [if_neg (by decide)]
 have h' : FloatKind.f64.decode y = .infinity s := h
 rw [h']
 rfl
theorem number_not_inf (neg : Bool) {r : Nat} (h : r < Ieee.single.infRung) : (Ieee.single.read (Ieee.single.word neg r)).isInfinity = false := by
 obtain ⟨m, p, e, _⟩ := Fl.read_number Ieee.single neg r h
 rw [e]; rfl
theorem double_small {x : Nat} {neg : Bool} {m : Nat} {p : Int} (h : Ieee.double.read x = .number neg m p) : m < 2 ^ 53 := by
 have hb : Ieee.double.binade = 2 ^ 52 := rfl
 rcases Fl.read_cases Ieee.double x with ⟨n, k, e, hk⟩ | ⟨n, k, q, e, h1, h2, h3⟩ | ⟨n, e⟩ | ⟨n, k, e⟩
 ·rw [e] at h; cases h; rw [hb] at hk; exact Nat.lt_trans hk (by decide)
 ·rw [e] at h; cases h; rw [hb] at h2; exact Nat.lt_of_lt_of_le h2 (by decide)
 ·rw [e] at h; cases h
 ·rw [e] at h; cases h
theorem sqrt_narrow : B.SqrtNarrow := by
 intro n x hn hsame
 unfold Ieee.Format.sqrt
 cases hd : Ieee.single.read n with
 | nan s t =>
  rw [hd] at hsame
  cases hx : Ieee.double.read x with
  | nan s' t' => rfl
  | infinity s' => rw [hx] at hsame; exact hsame.elim
  | number s' m' i' => rw [hx] at hsame; exact hsame.elim
 | infinity s =>
  rw [hd] at hsame
  cases hx : Ieee.double.read x with
  | nan s' t' => rw [hx] at hsame; exact hsame.elim
  | number s' m' i' => rw [hx] at hsame; exact hsame.elim
  | infinity s' =>
   rw [hx] at hsame
   obtain rfl : s' = s := hsame
   cases s'
   ·show ∃ z, floatToFloatBits .f64 (Ieee.double.word false Ieee.double.infRung) .f32 = some z ∧ some (Ieee.single.word false Ieee.single.infRung) = some z
    exact ⟨_, f2f_inf (Fl.read_word_inf Ieee.double false (by decide)), rfl⟩
   ·rfl
 | number s m i =>
  rw [hd] at hsame
  obtain ⟨hm, hi1, hi2⟩ := Fl.single_number hd
  cases hx : Ieee.double.read x with
  | nan s' t' => rw [hx] at hsame; exact hsame.elim
  | infinity s' => rw [hx] at hsame; exact hsame.elim
  | number s' m' i' =>
   rw [hx] at hsame
   obtain ⟨rfl, b, hb1, hb2, hv⟩ := hsame
   have hm' := double_small hx
   have p1 : 0 < 2 ^ (i' - b).toNat := Nat.two_pow_pos _
   have p2 : 0 < 2 ^ (i - b).toNat := Nat.two_pow_pos _
   by_cases h0 : m = 0
   ·subst h0
    rw [Nat.zero_mul] at hv
    obtain rfl : m' = 0 := by rcases Nat.mul_eq_zero.1 hv with h | h <;> omega
    simp only [Ieee.Datum.root, if_true, Option.map_some]
    have e1 : Ieee.double.write (.number s' 0 i') = Ieee.double.word s' 0 := by
     show Ieee.double.nearest s' 0 i' = _
     rw [Fl.nearest_rung, Fl.rung_zero]
    have e2 : Ieee.single.write (.number s' 0 i) = Ieee.single.word s' 0 := by
     show Ieee.single.nearest s' 0 i = _
     rw [Fl.nearest_rung, Fl.rung_zero]
    rw [e1, e2]
    refine ⟨Ieee.single.word s' 0, ?_, rfl⟩
    have hr := Fl.read_word_sub Ieee.double s' 0 (by decide)
    have h1 : Ieee.single.nearest s' 0 Ieee.double.leastPlace = Ieee.single.word s' 0 := by rw [Fl.nearest_rung, Fl.rung_zero]
    rw [f2f_number hr (by rw [h1]; exact number_not_inf s' (by decide)), h1]
   ·have h0' : m' ≠ 0 := by
     rintro rfl
     rw [Nat.zero_mul] at hv
     rcases Nat.mul_eq_zero.1 hv.symm with h | h <;> omega
    cases s'
    ·-- a number above 0
     have hii : (i - i').toNat + 2 ≤ 2 * 100 := by
      by_cases hle : i ≤ i'
      ·omega
      ·have e1 : (i - b).toNat = (i' - b).toNat + (i - i').toNat := by omega
       rw [e1, Nat.pow_add, Nat.mul_left_comm, Nat.mul_comm m'] at hv
       have hq := Nat.eq_of_mul_eq_mul_left p1 hv
       have h3 : 2 ^ (i - i').toNat < 2 ^ 53 := by
        refine Nat.lt_of_le_of_lt ?_ hm'
        rw [hq]
        exact Nat.le_mul_of_pos_left _ (by omega)
       have := (Nat.pow_lt_pow_iff_right (by decide : 1 < 2)).1 h3
       omega
     have ha : m * 2 ^ (i % 2).toNat ≠ 0 := by
      intro h
      have := Nat.two_pow_pos (i % 2).toNat
      rcases Nat.mul_eq_zero.1 h with h | h <;> omega
     have ha2 : m * 2 ^ (i % 2).toNat < 2 ^ 25 := by
      have h1 : m * 2 ^ (i % 2).toNat ≤ m * 2 ^ 1 := Nat.mul_le_mul_left _ (Nat.pow_le_pow_right (by decide) (by omega))
      omega
     have hR := Fl.root_is (m * 2 ^ (i % 2).toNat * 4 ^ 100)
     generalize Ieee.Datum.rootFrom (m * 2 ^ (i % 2).toNat * 4 ^ 100) _ 0 = R at hR
     obtain ⟨k1, k2, k3, k4⟩ := Fl.narrow_rung (m * 2 ^ (i % 2).toNat) 100 R ((i - i % 2) / 2 - 1 - (100 : Nat)) ha ha2 rfl hR (by omega) (by omega)
     obtain ⟨S1, q1, j1, j2, j3⟩ := Fl.root_rung Ieee.single m i h0
     have j4 := j3 100 R hR (Nat.le_trans (by decide) k4)
     obtain ⟨S2, q2, l1, l2, l3⟩ := Fl.root_same Ieee.double h0 hb2 hb1 hv.symm 100 R hR (Nat.le_trans (by decide) k4) hii
     have e1 : ((Ieee.Datum.number false m' i').root (Ieee.double.fractionBits + 2)).map Ieee.double.write = some (Ieee.double.word false (Fl.rung Ieee.double (Fl.rs (m * 2 ^ (i % 2).toNat * 4 ^ 100) R) ((i - i % 2) / 2 - 1 - (100 : Nat)))) := by
      rw [l1, ← l3, ← Fl.nearest_rung]; rfl
     have e2 : ((Ieee.Datum.number false m i).root (Ieee.single.fractionBits + 2)).map Ieee.single.write = some (Ieee.single.word false (Fl.rung Ieee.single (Fl.rs (m * 2 ^ (i % 2).toNat * 4 ^ 100) R) ((i - i % 2) / 2 - 1 - (100 : Nat)))) := by
      rw [j1, ← j4, ← Fl.nearest_rung]; rfl
     rw [e1, e2]
     refine ⟨_, ?_, rfl⟩
     have hne : Fl.rs (m * 2 ^ (i % 2).toNat * 4 ^ 100) R ≠ 0 := by
      have : 0 < 2 ^ 100 := Nat.two_pow_pos _
      omega
     have hread := Fl.read_rung Ieee.double false hne ((i - i % 2) / 2 - 1 - (100 : Nat)) k1
     generalize Fl.rs (m * 2 ^ (i % 2).toNat * 4 ^ 100) R = S at *
     generalize (i - i % 2) / 2 - 1 - ((100 : Nat) : Int) = Q at *
     obtain ⟨mm, pp, r1, r2, r3, r4, r5⟩ := Fl.read_number Ieee.double false _ k1
     rw [r1] at hread
     obtain ⟨-, c, c1, c2, c3⟩ := hread
     have hz : Ieee.single.nearest false mm pp = Ieee.single.word false (Fl.rung Ieee.single S Q) := by
      rw [Fl.nearest_rung, Fl.rung_same Ieee.single c1 c2 c3, k2]
     show floatToFloatBits .f64 _ .f32 = some _
     rw [f2f_number r1 (by rw [hz]; exact number_not_inf false k3), hz]
    ·simp only [Ieee.Datum.root, h0, h0', if_false, if_true, Option.map_none]
end Go.Proofs.YtmoimcblmmcffaaGreatDoor.NC

namespace Go.Proofs.YtmoimcblmmcffaaGreatDoor.NC
open Go.RowKit Go.Proofs.YtmoimcblmmcffaaGreatDoor.B Go.Proofs.YtmoimcblmmcffaaGreatDoor.N
set_option linter.unusedSimpArgs false
set_option linter.unusedVariables false
theorem rung_normal2 (f : Ieee.Format) {q k : Nat} (hk : f.binade ≤ k) (hk2 : k < 2 * f.binade) (hq : q * f.binade + k < f.infRung) : Fl.rung f k (f.leastPlace + q) = q * f.binade + k := by
 have h := Fl.read_word_normal f false q k hk hk2 hq
 obtain ⟨m, p, h1, -, -, -, h2⟩ := Fl.read_number f false (q * f.binade + k) hq
 rw [h] at h1
 cases h1
 exact h2
theorem whole_exact (f : Ieee.Format) (h1 : f.leastPlace ≤ -f.fractionBits) (h2 : ((-f.leastPlace).toNat + 2) * f.binade ≤ f.infRung) {x : Nat} {s : Bool} {m : Nat} {i : Int} (h : f.read x = .number s m i) (mode : Int) :
  Fl.rung f (Fl.wholeN mode s m i) 0 < f.infRung ∧ Fl.Same (f.read (f.word s (Fl.rung f (Fl.wholeN mode s m i) 0))) (.number s (Fl.wholeN mode s m i) 0) := by
 rcases Fl.read_cases f x with ⟨n, k, e, hk⟩ | ⟨n, k, q, e, hk1, hk2, hq⟩ | ⟨n, e⟩ | ⟨n, k, e⟩
 ·rw [e] at h; cases h
  by_cases hi : 0 ≤ f.leastPlace
  ·rw [Fl.whole_pos hi, show f.leastPlace.toNat = 0 from by omega, Nat.pow_zero, Nat.mul_one]
   exact Fl.int_exact f h1 h2 s _ (by omega)
  ·exact Fl.int_exact f h1 h2 s _ (Fl.whole_half hi (by omega))
 ·rw [e] at h; cases h
  by_cases hi : 0 ≤ f.leastPlace + (q : Int)
  ·rw [Fl.whole_pos hi, Fl.rung_scale]
   have hq' : q * f.binade + m < f.infRung := by
    have hK : f.infRung = (2 ^ f.exponentBits - 1) * f.binade := rfl
    rw [hK] at hq ⊢
    have h3 := Nat.lt_of_mul_lt_mul_right hq
    have h4 : (q + 2) * f.binade ≤ (2 ^ f.exponentBits - 1) * f.binade := Nat.mul_le_mul_right _ h3
    rw [Nat.add_mul] at h4
    omega
   have hr := rung_normal2 f hk1 hk2 hq'
   rw [show (0 : Int) + ((f.leastPlace + (q : Int)).toNat : Nat) = f.leastPlace + q from by omega, hr]
   refine ⟨hq', ?_⟩
   rw [Fl.read_word_normal f s q m hk1 hk2 hq']
   refine ⟨rfl, 0, hi, Int.le_refl _, ?_⟩
   simp
  ·exact Fl.int_exact f h1 h2 s _ (Fl.whole_half hi (by omega))
 ·rw [e] at h; cases h
 ·rw [e] at h; cases h
theorem exact_d {x : Nat} {s : Bool} {m : Nat} {i : Int} (h : Ieee.double.read x = .number s m i) (mode : Int) :
  Fl.rung Ieee.double (Fl.wholeN mode s m i) 0 < Ieee.double.infRung ∧ Fl.Same (Ieee.double.read (Ieee.double.word s (Fl.rung Ieee.double (Fl.wholeN mode s m i) 0))) (.number s (Fl.wholeN mode s m i) 0) :=
 whole_exact Ieee.double (by decide) (by decide) h mode
theorem exact_s {x : Nat} {s : Bool} {m : Nat} {i : Int} (h : Ieee.single.read x = .number s m i) (mode : Int) :
  Fl.rung Ieee.single (Fl.wholeN mode s m i) 0 < Ieee.single.infRung :=
 (whole_exact Ieee.single (by decide) (by decide) h mode).1
def wholeV (mode : Int) (s : Bool) (n : Nat) : Nat :=
 match (fm s).read n with
 | .nan _ _ => nanN s
 | .infinity g => (fm s).word g (fm s).infRung
 | .number g m i => (fm s).word g (Fl.rung (fm s) (Fl.wholeN mode g m i) 0)
theorem wide_read {n x : Nat} (h : WideOK true n x) : Fl.Same (Ieee.double.read x) (Ieee.single.read n) := h
theorem narrow_whole {mode : Int} {n x y : Nat} (hn : n < 4294967296) (hx : WideOK true n x) (hy : WholeB mode x y) :
  ∃ z : World → Nat, ∃ w2 : World → World, (∀ w, (convert 57 84 (.float .f64 y)).run Tryz.prog w = .ok (.float .f32 (z w)) (w2 w)) ∧ (∀ w, z w < 4294967296) ∧ (∀ w, cleanV true (z w) = (wholeV mode true n : Nat)) ∧ ∀ w, Below w.heap.size w (w2 w) := by
 have hs : (Tryz.prog.underlying 57).isSome = true := by rw [Tryz.underlying57]; rfl
 have hw := wide_read hx
 have hok := hy.1
 unfold Fl.WholeOK at hok
 have hWV : wholeV mode true n = (match Ieee.single.read n with
  | .nan _ _ => nanN true
  | .infinity g => (fm true).word g (fm true).infRung
  | .number g m i => (fm true).word g (Fl.rung (fm true) (Fl.wholeN mode g m i) 0)) := rfl
 rw [hWV]
 cases hd : Ieee.single.read n with
 | nan s t =>
  rw [hd] at hw
  cases hx2 : Ieee.double.read x with
  | nan s' t' =>
   rw [hx2] at hok
   obtain ⟨a, b, hab⟩ := hok
   exact ⟨fun w => _, fun w => w.drew, fun w => run_convert_nan32 hs Tryz.underlying84 hab w, fun w => (clean_conv _ _).1, fun w => (clean_conv _ _).2.trans (nan_eq true), fun w => (Below.refl _ _).drew⟩
  | infinity s' => rw [hx2] at hw; exact hw.elim
  | number s' m' i' => rw [hx2] at hw; exact hw.elim
 | infinity s =>
  rw [hd] at hw
  cases hx2 : Ieee.double.read x with
  | nan s' t' => rw [hx2] at hw; exact hw.elim
  | number s' m' i' => rw [hx2] at hw; exact hw.elim
  | infinity s' =>
   rw [hx2] at hok hw
   obtain rfl : s' = s := hw
   have hok' : y = Ieee.double.word s' Ieee.double.infRung := hok
   subst hok'
   refine ⟨fun _ => Ieee.single.word s' Ieee.single.infRung, fun w => w, fun w => run_convert_float_float w _ _ .f64 .f32 _ _ hs Tryz.underlying84 (f2f_inf (Fl.read_word_inf Ieee.double s' (by decide))), fun _ => ?_, fun _ => clean_word true s' (Nat.le_refl _), fun w => Below.refl _ _⟩
   show Ieee.single.word s' Ieee.single.infRung < 4294967296
   cases s' <;> decide
 | number s m i =>
  rw [hd] at hw
  cases hx2 : Ieee.double.read x with
  | nan s' t' => rw [hx2] at hw; exact hw.elim
  | infinity s' => rw [hx2] at hw; exact hw.elim
  | number s' m' i' =>
   rw [hx2] at hok hw
   obtain ⟨rfl, b, hb1, hb2, hv⟩ := hw
   have hok' : y = Ieee.double.word s' (Fl.rung Ieee.double (Fl.wholeN mode s' m' i') 0) := hok
   obtain ⟨-, he⟩ := exact_d hx2 mode
   rw [Fl.whole_same mode s' hb1 hb2 hv] at hok' he
   rw [← hok'] at he
   have hlt := exact_s hd mode
   cases hr : Ieee.double.read y with
   | nan a c => rw [hr] at he; exact he.elim
   | infinity a => rw [hr] at he; exact he.elim
   | number a c d =>
    rw [hr] at he
    obtain ⟨rfl, b', c1, c2, hv2⟩ := he
    have hnear : Ieee.single.nearest a c d = Ieee.single.word a (Fl.rung Ieee.single (Fl.wholeN mode a m i) 0) := by
     rw [Fl.nearest_rung, Fl.rung_same Ieee.single c1 c2 hv2]
    refine ⟨fun _ => Ieee.single.word a (Fl.rung Ieee.single (Fl.wholeN mode a m i) 0), fun w => w, fun w => run_convert_float_float w _ _ .f64 .f32 y _ hs Tryz.underlying84 ?_, fun _ => ?_, fun _ => clean_word true a (Nat.le_of_lt hlt), fun w => Below.refl _ _⟩
    ·rw [f2f_number hr (by rw [hnear]; exact number_not_inf a hlt), hnear]
    ·have := word_lt true a (r := Fl.rung Ieee.single (Fl.wholeN mode a m i) 0) (Nat.lt_trans hlt (inf_lt true))
     exact this
theorem whole_64 {mode : Int} {a y : Nat} (hy : WholeB mode a y) : cleanV false (y : Int) = (wholeV mode false a : Nat) := by
 obtain ⟨hok, hlt⟩ := hy
 unfold Fl.WholeOK at hok
 have hWV : wholeV mode false a = (match Ieee.double.read a with
  | .nan _ _ => nanN false
  | .infinity g => (fm false).word g (fm false).infRung
  | .number g m i => (fm false).word g (Fl.rung (fm false) (Fl.wholeN mode g m i) 0)) := rfl
 rw [hWV]
 cases hd : Ieee.double.read a with
 | nan s t =>
  rw [hd] at hok
  obtain ⟨g, b, hab⟩ := hok
  have ht := told false y (by show y < 2 * 9223372036854775808; omega)
  have hk : (partsR false y).kind = 3 := by
   generalize partsR false y = p at ht
   have hab' : (fm false).read y = .nan g b := hab
   cases ht with
   | zero n h hr => rw [hr] at hab'; cases hab'
   | inf n h hr => rw [hr] at hab'; cases hab'
   | fin n m e r h0 h1 h hm hm2 he he2 hb hr => rw [hr] at hab'; cases hab'
   | nan n r t u h0 h1 h hr => rfl
  have := told_nothing ht
  rw [decide_eq_true hk] at this
  exact nan_clean2 this
 | infinity s =>
  rw [hd] at hok
  have hok' : y = Ieee.double.word s Ieee.double.infRung := hok
  subst hok'
  exact clean_word false s (Nat.le_refl _)
 | number s m i =>
  rw [hd] at hok
  have hok' : y = Ieee.double.word s (Fl.rung Ieee.double (Fl.wholeN mode s m i) 0) := hok
  subst hok'
  exact clean_word false s (Nat.le_of_lt (exact_d hd mode).1)
def signI (g : Bool) (q : Nat) : Int := if g = true then -(q : Int) else q
def intV (mode : Int) (s : Bool) (n : Nat) : Int × Int :=
 match (fm s).read n with
 | .nan _ _ => (0, 29)
 | .infinity _ => (0, 28)
 | .number g m i => if -2147483648 ≤ signI g (Fl.wholeN mode g m i) ∧ signI g (Fl.wholeN mode g m i) ≤ 2147483647 then (signI g (Fl.wholeN mode g m i), 0) else (0, 28)
theorem lo_read : Ieee.double.read 13970166044103278592 = .number true 4503599627370496 (-21) := by decide
theorem hi_read : Ieee.double.read 4746794007244308480 = .number false 9007199250546688 (-22) := by decide
theorem lo_same : Fl.Same (Ieee.double.read 13970166044103278592) (.number true 2147483648 0) := by
 rw [lo_read]; exact ⟨rfl, -21, by decide, by decide, by decide⟩
theorem hi_same : Fl.Same (Ieee.double.read 4746794007244308480) (.number false 2147483647 0) := by
 rw [hi_read]; exact ⟨rfl, -22, by decide, by decide, by decide⟩
theorem signed_0 (g : Bool) (q : Nat) : Ieee.signed g q 0 = signI g q := by
 unfold Ieee.signed signI; cases g <;> simp
theorem order_lo {r : Nat} {g : Bool} {q : Nat} (h : Fl.Same (Ieee.double.read r) (.number g q 0)) : FloatKind.f64.format.order r 13970166044103278592 = some (compare (signI g q) (-2147483648)) := by
 show (Ieee.double.read r).order (Ieee.double.read 13970166044103278592) = _
 rw [Fl.Same.order h lo_same]
 show some (compare (Ieee.signed g q _) (Ieee.signed true 2147483648 _)) = _
 rw [show ((0 : Int) - min 0 0).toNat = 0 from rfl, signed_0]; rfl
theorem order_hi {r : Nat} {g : Bool} {q : Nat} (h : Fl.Same (Ieee.double.read r) (.number g q 0)) : FloatKind.f64.format.order r 4746794007244308480 = some (compare (signI g q) 2147483647) := by
 show (Ieee.double.read r).order (Ieee.double.read 4746794007244308480) = _
 rw [Fl.Same.order h hi_same]
 show some (compare (Ieee.signed g q _) (Ieee.signed false 2147483647 _)) = _
 rw [show ((0 : Int) - min 0 0).toNat = 0 from rfl, signed_0]; rfl
theorem order_self {r : Nat} {g : Bool} {q : Nat} (h : Fl.Same (Ieee.double.read r) (.number g q 0)) : FloatKind.f64.format.order r r = some .eq := by
 show (Ieee.double.read r).order (Ieee.double.read r) = _
 rw [Fl.Same.order h h]
 show some (compare (Ieee.signed g q _) (Ieee.signed g q _)) = _
 rw [show ((0 : Int) - min 0 0).toNat = 0 from rfl]
 simp [compare, compareOfLessAndEq]
theorem to_int {r : Nat} {g : Bool} {q : Nat} (h : Fl.Same (Ieee.double.read r) (.number g q 0)) (h1 : -2147483648 ≤ signI g q) (h2 : signI g q ≤ 2147483647) : floatToIntVal .f64 r .i64 = some (signI g q) := by
 have ht : (FloatKind.f64.decode r).toInt .zero = some (signI g q) := by
  show (Ieee.double.read r).toInt .zero = _
  cases hr : Ieee.double.read r with
  | nan a b => rw [hr] at h; exact h.elim
  | infinity a => rw [hr] at h; exact h.elim
  | number a m i =>
   rw [hr] at h
   obtain ⟨rfl, b, c1, c2, hv⟩ := h
   show some (Ieee.signed a (Ieee.Toward.zero.cut a (m <<< i.toNat) (-i).toNat) 0) = _
   rw [Fl.cut0, Fl.whole_same 0 a c1 c2 hv, Fl.whole_pos (Int.le_refl 0), signed_0]
   simp
 unfold floatToIntVal
 rw [ht]
 have a1 : IntKind.i64.min = -9223372036854775808 := rfl
 have a2 : IntKind.i64.max = 9223372036854775807 := rfl
 rw [a1, a2]
 show (if _ then _ else _) = _
 rw [if_pos (by omega)]
end Go.Proofs.YtmoimcblmmcffaaGreatDoor.NC

namespace Go.Proofs.YtmoimcblmmcffaaGreatDoor.NC
open Go.RowKit Go.Proofs.YtmoimcblmmcffaaGreatDoor.B Go.Proofs.YtmoimcblmmcffaaGreatDoor.N
set_option linter.unusedSimpArgs false
set_option linter.unusedVariables false
def WideB (s : Bool) (n r : Nat) : Prop := WideOK s n r ∧ r < 18446744073709551616
def RetWB (s : Bool) (n : Nat) (w : World) : Ending → World → Prop := fun e w' => ∃ r : Nat, e = .returned (.float .f64 r) ∧ WideB s n r ∧ Below w.heap.size w w'
theorem wideB_c (s : Bool) (n : Nat) (w : World) (h1 : (n : Int) < topV s) : Calls Tryz.prog 45 #[.int .i64 (if s then 1 else 2), .int .u64 (n : Int)] w (RetWB s n w) := by
 cases s
 ·have c1 := fun w => double64_c (n : Int) w
  have hlt : n < 18446744073709551616 := by have : (n : Int) < 18446744073709551616 := h1; omega
  have e : ((n : Int)).toNat = n := rfl
  rw [e] at c1
  have H := Lib.hid (show WideB false n n from ⟨Fl.Same.refl _, hlt⟩)
  clear h1 hlt e
  go_enter Tryz.func45, Tryz.ntmps45
  go_wp2_with (go_at_call 65; refine (c1 _).mono ?_; rintro e w1 ⟨rfl, hb1⟩; have HE := Ext.next (w0 := w) (W := w) hb1)
  go_ret
  exact ⟨_, rfl, H.out, Ext.end⟩
 ·have h1' : (n : Int) < 4294967296 := h1
  have c1 := fun w => real32_c (n : Int) w (by omega) h1'
  have e : ((n : Int)).toNat = n := rfl
  rw [e] at c1
  obtain ⟨X, W2, hX1, hX2, hX3⟩ := run_widen2 n
  have HX2 := Lib.hid hX2
  have HX3 := Lib.hid hX3
  clear hX2 hX3 h1 h1' e
  go_enter Tryz.func45, Tryz.ntmps45
  go_wp2_with (go_at_call 68; refine (c1 _).mono ?_; rintro e w1 ⟨rfl, hb1⟩; have HE := Ext.next (w0 := w) (W := w) hb1)
  go_ret
  exact ⟨_, rfl, HX2.out _, below_call Ext.end (HX3.out _)⟩
theorem isNaN_n (r : Nat) (w : World) (h : FloatKind.f64.format.order r r = none) : Calls Tryz.prog 48 #[.float .f64 r] w (Ret (.bool true) w) := by
 go_enter Tryz.func48, Tryz.ntmps48
 go_wp2
 go_ret
 exact ⟨rfl, below_end⟩
theorem isNaN_e (r : Nat) (w : World) (h : FloatKind.f64.format.order r r = some .eq) : Calls Tryz.prog 48 #[.float .f64 r] w (Ret (.bool false) w) := by
 go_enter Tryz.func48, Tryz.ntmps48
 go_wp2
 go_ret
 exact ⟨rfl, below_end⟩
inductive Told2 (mode : Int) (s : Bool) (n r : Nat) : Prop
 | nan (h : FloatKind.f64.format.order r r = none) (hp : intV mode s n = (0, 29))
 | low (h : FloatKind.f64.format.order r r = some .eq) (h1 : FloatKind.f64.format.order r 13970166044103278592 = some .lt) (hp : intV mode s n = (0, 28))
 | high (h : FloatKind.f64.format.order r r = some .eq) (h1 : FloatKind.f64.format.order r 13970166044103278592 = some .gt) (h2 : FloatKind.f64.format.order r 4746794007244308480 = some .gt) (hp : intV mode s n = (0, 28))
 | fit (o1 o2 : Ordering) (v : Int) (h : FloatKind.f64.format.order r r = some .eq) (h1 : FloatKind.f64.format.order r 13970166044103278592 = some o1) (ho1 : o1 = .eq ∨ o1 = .gt) (h2 : FloatKind.f64.format.order r 4746794007244308480 = some o2) (ho2 : o2 = .eq ∨ o2 = .lt) (hv : floatToIntVal .f64 r .i64 = some v) (hp : intV mode s n = (v, 0))
theorem cmp_cases (a b : Int) : (a < b ∧ compare a b = .lt) ∨ (a = b ∧ compare a b = .eq) ∨ (b < a ∧ compare a b = .gt) := by
 rcases Int.lt_trichotomy a b with h | h | h
 ·left; exact ⟨h, by simp [compare, compareOfLessAndEq, h]⟩
 ·right; left; exact ⟨h, by subst h; simp [compare, compareOfLessAndEq]⟩
 ·right; right; refine ⟨h, ?_⟩
  have h1 : ¬ a < b := by omega
  have h2 : ¬ a = b := by omega
  simp [compare, compareOfLessAndEq, h1, h2]
theorem told2 {mode : Int} {s : Bool} {n x r : Nat} (hx : WideB s n x) (hr : WholeB mode x r) : Told2 mode s n r := by
 have hw : Fl.Same (Ieee.double.read x) ((fm s).read n) := hx.1
 have hok := hr.1
 unfold Fl.WholeOK at hok
 cases hd : (fm s).read n with
 | nan g t =>
  rw [hd] at hw
  have hp : intV mode s n = (0, 29) := by unfold intV; rw [hd]
  cases hx2 : Ieee.double.read x with
  | nan s' t' =>
   rw [hx2] at hok
   obtain ⟨a, b, hab⟩ := hok
   refine .nan ?_ hp
   show (Ieee.double.read r).order (Ieee.double.read r) = none
   rw [hab]; rfl
  | infinity s' => rw [hx2] at hw; exact hw.elim
  | number s' m' i' => rw [hx2] at hw; exact hw.elim
 | infinity g =>
  rw [hd] at hw
  have hp : intV mode s n = (0, 28) := by unfold intV; rw [hd]
  cases hx2 : Ieee.double.read x with
  | nan s' t' => rw [hx2] at hw; exact hw.elim
  | number s' m' i' => rw [hx2] at hw; exact hw.elim
  | infinity s' =>
   rw [hx2] at hok
   have hok' : r = Ieee.double.word s' Ieee.double.infRung := hok
   subst hok'
   cases s'
   ·exact .high (by decide) (by decide) (by decide) hp
   ·exact .low (by decide) (by decide) hp
 | number g m i =>
  rw [hd] at hw
  cases hx2 : Ieee.double.read x with
  | nan s' t' => rw [hx2] at hw; exact hw.elim
  | infinity s' => rw [hx2] at hw; exact hw.elim
  | number s' m' i' =>
   rw [hx2] at hok hw
   obtain ⟨rfl, b, hb1, hb2, hv⟩ := hw
   have hok' : r = Ieee.double.word s' (Fl.rung Ieee.double (Fl.wholeN mode s' m' i') 0) := hok
   obtain ⟨-, he⟩ := exact_d hx2 mode
   rw [Fl.whole_same mode s' hb1 hb2 hv] at hok' he
   rw [← hok'] at he
   have hp : intV mode s n = if -2147483648 ≤ signI s' (Fl.wholeN mode s' m i) ∧ signI s' (Fl.wholeN mode s' m i) ≤ 2147483647 then (signI s' (Fl.wholeN mode s' m i), 0) else (0, 28) := by unfold intV; rw [hd]
   have o0 := order_self he
   have o1 := order_lo he
   have o2 := order_hi he
   have o3 := to_int he
   generalize signI s' (Fl.wholeN mode s' m i) = v at *
   rcases cmp_cases v (-2147483648) with ⟨c, e⟩ | ⟨c, e⟩ | ⟨c, e⟩
   ·rw [e] at o1
    exact .low o0 o1 (by rw [hp, if_neg (by omega)])
   ·rw [e] at o1
    rcases cmp_cases v 2147483647 with ⟨c', e'⟩ | ⟨c', e'⟩ | ⟨c', e'⟩
    ·rw [e'] at o2; exact .fit _ _ v o0 o1 (.inl rfl) o2 (.inr rfl) (o3 (by omega) (by omega)) (by rw [hp, if_pos (by omega)])
    ·omega
    ·omega
   ·rw [e] at o1
    rcases cmp_cases v 2147483647 with ⟨c', e'⟩ | ⟨c', e'⟩ | ⟨c', e'⟩
    ·rw [e'] at o2; exact .fit _ _ v o0 o1 (.inr rfl) o2 (.inr rfl) (o3 (by omega) (by omega)) (by rw [hp, if_pos (by omega)])
    ·rw [e'] at o2; exact .fit _ _ v o0 o1 (.inr rfl) o2 (.inl rfl) (o3 (by omega) (by omega)) (by rw [hp, if_pos (by omega)])
    ·rw [e'] at o2; exact .high o0 o1 o2 (by rw [hp, if_neg (by omega)])
def wholeErrV (mode t a : Int) : Int := if kindErrV mode 4 = 0 then validV t [a] else kindErrV mode 4
def toIntV (mode t a : Int) : Int × Int := if wholeErrV mode t a = 0 then intV mode (t == 1) a.toNat else (0, wholeErrV mode t a)
theorem ToInteger_c (mode t a : Int) (w : World) (ha : U64 a) : Calls Tryz.prog 14 #[.int .i64 mode, .int .i64 t, .int .u64 a] w (Ret (.tuple #[.int .i64 (toIntV mode t a).1, .int .i64 (toIntV mode t a).2]) w) := by
 have c1 := fun w => kindErr_c mode 4 w
 have c2 := fun g w => valid1_c t a g w ha
 have c3 := fun w => either_c (kindErrV mode 4) (validV t [a]) w
 have e0 : (if kindErrV mode 4 = 0 then validV t [a] else kindErrV mode 4) = wholeErrV mode t a := rfl
 rw [e0] at c3
 unfold toIntV
 have c4 : ∀ w, wholeErrV mode t a = 0 → Calls Tryz.prog 45 #[.int .i64 t, .int .u64 a] w (RetWB (t == 1) a.toNat w) := fun w he => by
  unfold wholeErrV at he
  by_cases hk : kindErrV mode 4 = 0
  ·rw [if_pos hk] at he
   obtain ⟨s, ht, hs, h1⟩ := valid_s1 ha he
   have ea : ((a.toNat : Nat) : Int) = a := Int.toNat_of_nonneg ha.1
   have := wideB_c s a.toNat w (by rw [ea]; exact h1)
   rw [ea, ← ht] at this
   rw [hs]; exact this
  ·rw [if_neg hk] at he; exact absurd he hk
 have c5 : ∀ x w, wholeErrV mode t a = 0 → WideB (t == 1) a.toNat x → Calls Tryz.prog 47 #[.int .i64 mode, .float .f64 x] w (RetWhole mode x w) := fun x w he hx => by
  unfold wholeErrV at he
  by_cases hk : kindErrV mode 4 = 0
  ·obtain ⟨h0, h6⟩ := kindErr_ok hk
   exact whole_c mode x w hx.2 h0 (by omega)
  ·rw [if_neg hk] at he; exact absurd he hk
 have hs1 : (Tryz.prog.underlying 57).isSome = true := by rw [Tryz.underlying57]; rfl
 have hcv : ∀ r v w, floatToIntVal .f64 r .i64 = some v → (convert 57 3 (.float .f64 r)).run Tryz.prog w = .ok (.int .i64 v) w := fun r v w h => run_convert_float_int w 57 3 .f64 .i64 r v hs1 Tryz.underlying3 h
 have HT := Lib.hid (fun x r hx hr => @told2 mode (t == 1) a.toNat x r hx hr)
 clear e0 ha hs1
 generalize wholeErrV mode t a = e at *
 generalize kindErrV mode 4 = k at *
 generalize validV t [a] = v at *
 generalize (t == 1) = s at *
 generalize a.toNat = n at *
 by_cases he : e = 0
 ·subst he
  have d4 := fun w => c4 w rfl
  have C5 := Lib.hid (fun x w hx => c5 x w rfl hx)
  have HC := Lib.hid hcv
  clear c4 c5 hcv
  rw [if_pos rfl]
  generalize hP : intV mode s n = P at *
  have HP := Lib.hid hP
  clear hP
  go_enter Tryz.func14, Tryz.ntmps14
  go_upto_region 5 with (first | (go_at_call 46; refine (c1 _).mono ?_; rintro e w1 ⟨rfl, hb1⟩; have HE := Ext.next (w0 := w) (W := w) hb1) | (go_at_call 24; refine (c2 _ _ (by go_simp)).mono ?_; rintro e w1 ⟨rfl, hb1⟩; have HE := Ext.next (w0 := w) (W := w) hb1) | (go_at_call 30; refine (c3 _).mono ?_; rintro e w1 ⟨rfl, hb1⟩; have HE := Ext.next (w0 := w) (W := w) hb1) | (go_at_call 45; (with_reducible refine (d4 _).mono ?_); rintro e w1 ⟨x, rfl, hx, hb1⟩; have HX := Lib.hid hx; clear hx; have HE := Ext.next (w0 := w) (W := w) hb1) | (go_at_call 47; (with_reducible refine (C5.out _ _ HX.out).mono ?_); rintro e w1 ⟨r, rfl, hr, hb1⟩; have HR := Lib.hid hr; clear hr; have HE := Ext.next (w0 := w) (W := w) hb1))
  rcases HT.out _ _ HX.out HR.out with ⟨h, hp⟩ | ⟨h, h1, hp⟩ | ⟨h, h1, h2, hp⟩ | ⟨o1, o2, v, h, h1, ho1, h2, ho2, hv, hp⟩
  ·have hP := HP.out.symm.trans hp
   subst hP
   have cn := fun w => isNaN_n r w h
   go_wp2_with (go_at_call 48; (with_reducible refine (cn _).mono ?_); rintro e w1 ⟨rfl, hb1⟩; have HE := Ext.next (w0 := w) (W := w) hb1)
   go_ret2
   exact ⟨rfl, Ext.end⟩
  ·have hP := HP.out.symm.trans hp
   subst hP
   have cn := fun w => isNaN_e r w h
   go_wp2_with (go_at_call 48; (with_reducible refine (cn _).mono ?_); rintro e w1 ⟨rfl, hb1⟩; have HE := Ext.next (w0 := w) (W := w) hb1)
   go_ret2
   exact ⟨rfl, Ext.end⟩
  ·have hP := HP.out.symm.trans hp
   subst hP
   have cn := fun w => isNaN_e r w h
   go_wp2_with (go_at_call 48; (with_reducible refine (cn _).mono ?_); rintro e w1 ⟨rfl, hb1⟩; have HE := Ext.next (w0 := w) (W := w) hb1)
   go_ret2
   exact ⟨rfl, Ext.end⟩
  ·have hP := HP.out.symm.trans hp
   subst hP
   have cn := fun w => isNaN_e r w h
   have hc := fun w => HC.out r v w hv
   rcases ho1 with rfl | rfl <;> rcases ho2 with rfl | rfl
   all_goals
    go_wp2_with (go_at_call 48; (with_reducible refine (cn _).mono ?_); rintro e w1 ⟨rfl, hb1⟩; have HE := Ext.next (w0 := w) (W := w) hb1)
    go_ret2
    exact ⟨rfl, Ext.end⟩
 ·have he1 : (e != 0) = true := by simpa using he
  rw [if_neg he]
  clear he c4 c5 hcv
  go_enter Tryz.func14, Tryz.ntmps14
  go_wp2_with (first | (go_at_call 46; refine (c1 _).mono ?_; rintro e w1 ⟨rfl, hb1⟩; have HE := Ext.next (w0 := w) (W := w) hb1) | (go_at_call 24; refine (c2 _ _ (by go_simp)).mono ?_; rintro e w1 ⟨rfl, hb1⟩; have HE := Ext.next (w0 := w) (W := w) hb1) | (go_at_call 30; refine (c3 _).mono ?_; rintro e w1 ⟨rfl, hb1⟩; have HE := Ext.next (w0 := w) (W := w) hb1))
  go_ret2
  exact ⟨rfl, Ext.end⟩
end Go.Proofs.YtmoimcblmmcffaaGreatDoor.NC

namespace Go.Proofs.YtmoimcblmmcffaaGreatDoor.NC
open Go.RowKit Go.Proofs.YtmoimcblmmcffaaGreatDoor.B Go.Proofs.YtmoimcblmmcffaaGreatDoor.N
set_option linter.unusedSimpArgs false
set_option linter.unusedVariables false
theorem wclosure_c (g : Nat) (mode : Int) (x : Nat) (w : World) (hx : x < 18446744073709551616) (h0 : 0 ≤ mode) (h3 : mode ≤ 3) (h : w.cell? ⟨g, 0, none⟩ = some (.int .i64 mode)) : Calls Tryz.prog 49 #[.float .f64 x, .pointer (some ⟨g, 0, none⟩)] w (RetWhole mode x w) := by
 have c1 := fun w => whole_c mode x w hx h0 h3
 have HK := Lib.hid (fun r hr => @copy_ok mode x r hx hr)
 clear hx h0 h3
 go_enter Tryz.func49, Tryz.ntmps49
 go_wp2_with (first | (go_at_call 47; (with_reducible refine (c1 _).mono ?_); rintro e w1 ⟨r, rfl, hr, hb1⟩; have HR := Lib.hid hr; clear hr; have HE := Ext.next (w0 := w) (W := w) hb1) | (go_at_call 50; (with_reducible refine (Copysign_c _ _ _).mono ?_); rintro e w1 ⟨rfl, hb1⟩; have HE := Ext.next (w0 := w) (W := w) hb1))
 go_ret
 exact ⟨_, rfl, HK.out _ HR.out, Ext.end⟩
theorem on1_w64 (g : Nat) (mode : Int) (n : Nat) (w : World) (hn : n < 18446744073709551616) (h0 : 0 ≤ mode) (h3 : mode ≤ 3) (h : w.cell? ⟨g, 0, none⟩ = some (.int .i64 mode)) (hg : g < w.heap.size) :
  Calls Tryz.prog 32 #[.int .i64 2, .int .u64 (n : Int), .func (.func 49) #[] #[.pointer (some ⟨g, 0, none⟩)]] w (Ret (.int .u64 (wholeV mode false n : Nat)) w) := by
 have c1 := fun w => double64_c (n : Int) w
 have e : ((n : Int)).toNat = n := rfl
 rw [e] at c1
 have c2 := fun w => wclosure_c g mode n w hn h0 h3
 have c3 := fun x w => bits64_c x w
 have HW := Lib.hid (fun y hy => @whole_64 mode n y hy)
 clear e hn h0 h3
 go_enter Tryz.func32, Tryz.ntmps32
 go_wp2_with (first | (go_at_call 65; refine (c1 _).mono ?_; rintro e w1 ⟨rfl, hb1⟩; have HE := Ext.next (w0 := w) (W := w) hb1) | (go_at_call 49; refine (c2 _ ((HE.1 _ _ hg).trans h)).mono ?_; rintro e w1 ⟨y, rfl, hy, hb1⟩; have HY := Lib.hid hy; clear hy; have HE := Ext.next (w0 := w) (W := w) hb1) | (go_at_call 63; refine (c3 _ _).mono ?_; rintro e w1 ⟨rfl, hb1⟩; have HE := Ext.next (w0 := w) (W := w) hb1))
 go_ret
 refine ⟨?_, Ext.end⟩
 first | rfl | (show Ending.returned (.int .u64 (cleanV false _)) = _; rw [HW.out _ HY.out])
theorem on1_w32 (g : Nat) (mode : Int) (n : Nat) (w : World) (hn : n < 4294967296) (h0 : 0 ≤ mode) (h3 : mode ≤ 3) (h : w.cell? ⟨g, 0, none⟩ = some (.int .i64 mode)) (hg : g < w.heap.size) :
  Calls Tryz.prog 32 #[.int .i64 1, .int .u64 (n : Int), .func (.func 49) #[] #[.pointer (some ⟨g, 0, none⟩)]] w (Ret (.int .u64 (wholeV mode true n : Nat)) w) := by
 have c1 := fun w => real32_c (n : Int) w (by omega) (by omega)
 have e : ((n : Int)).toNat = n := rfl
 rw [e] at c1
 obtain ⟨X, W2, hX1, hX2, hX3⟩ := run_widen2 n
 have c2 := fun x w hx => wclosure_c g mode x w hx h0 h3
 have HX2 := Lib.hid hX2
 have HX3 := Lib.hid hX3
 have C2 := Lib.hid c2
 have HN := Lib.hid (fun x y hx hy => @narrow_whole mode n x y hn hx hy)
 clear hX2 hX3 e hn h0 h3 c2
 go_enter Tryz.func32, Tryz.ntmps32
 go_wp2_with (first | (go_at_call 68; refine (c1 _).mono ?_; rintro e w1 ⟨rfl, hb1⟩; have HE := Ext.next (w0 := w) (W := w) hb1) | (go_at_call 49; have HE := Ext.call HE (HX3.out _); refine (C2.out _ _ (HX2.out _).2 ((HE.1 _ _ hg).trans h)).mono ?_; rintro e w2 ⟨y, rfl, hy, hb2⟩; have HE := HE.call hb2; obtain ⟨Z, W3, hZ1, hZ2, hZ3, hZ4⟩ := HN.out _ y (HX2.out _).1 hy; have HZ2 := Lib.hid hZ2; have HZ3 := Lib.hid hZ3; have HZ4 := Lib.hid hZ4; clear hZ2 hZ3 hZ4 hy) | (go_at_call 61; have HE := Ext.call HE (HZ4.out _); refine (bits32_c _ _ (HZ2.out _)).mono ?_; rintro e w1 ⟨rfl, hb1⟩; have HE := HE.call hb1))
 go_ret
 refine ⟨?_, Ext.end⟩
 show Ending.returned (.int .u64 (cleanV true _)) = _
 rw [HZ3.out]
def wholeOfV (mode t a : Int) : Int × Int := if wholeErrV mode t a = 0 then ((wholeV mode (t == 1) a.toNat : Nat), 0) else (0, wholeErrV mode t a)
theorem WholeOf_c (mode t a : Int) (w : World) (ha : U64 a) : Calls Tryz.prog 15 #[.int .i64 mode, .int .i64 t, .int .u64 a] w (Ret (.tuple #[.int .u64 (wholeOfV mode t a).1, .int .i64 (wholeOfV mode t a).2]) w) := by
 have c1 := fun w => kindErr_c mode 4 w
 have c2 := fun g w h => valid1_c t a g w ha h
 have c3 := fun w => either_c (kindErrV mode 4) (validV t [a]) w
 have e0 : (if kindErrV mode 4 = 0 then validV t [a] else kindErrV mode 4) = wholeErrV mode t a := rfl
 rw [e0] at c3
 unfold wholeOfV
 have c4 : ∀ g w, wholeErrV mode t a = 0 → w.cell? ⟨g, 0, none⟩ = some (.int .i64 mode) → g < w.heap.size → Calls Tryz.prog 32 #[.int .i64 t, .int .u64 a, .func (.func 49) #[] #[.pointer (some ⟨g, 0, none⟩)]] w (Ret (.int .u64 (wholeV mode (t == 1) a.toNat : Nat)) w) := fun g w he h hg => by
  unfold wholeErrV at he
  by_cases hk : kindErrV mode 4 = 0
  ·rw [if_pos hk] at he
   obtain ⟨s, ht, hs, h1⟩ := valid_s1 ha he
   obtain ⟨h0, h6⟩ := kindErr_ok hk
   have ea : ((a.toNat : Nat) : Int) = a := Int.toNat_of_nonneg ha.1
   rw [hs, ht]
   cases s
   ·have h1' : a < 18446744073709551616 := h1
    have := on1_w64 g mode a.toNat w (by omega) h0 (by omega) h hg
    rw [ea] at this
    exact this
   ·have h1' : a < 4294967296 := h1
    have := on1_w32 g mode a.toNat w (by omega) h0 (by omega) h hg
    rw [ea] at this
    exact this
  ·rw [if_neg hk] at he; exact absurd he hk
 clear e0 ha
 generalize wholeErrV mode t a = e at *
 generalize kindErrV mode 4 = k at *
 generalize validV t [a] = v at *
 generalize ((wholeV mode (t == 1) a.toNat : Nat) : Int) = r at *
 by_cases he : e = 0
 ·subst he
  have C4 := Lib.hid (fun g w h hg => c4 g w rfl h hg)
  clear c4
  rw [if_pos rfl]
  go_enter Tryz.func15, Tryz.ntmps15
  go_upto_region 1 with (fail)
  refine hide1 w (fun W k0 s0 HE => ?_)
  go_upto_region 2 with (first | (go_at_call 46; refine (c1 _).mono ?_; rintro e w1 ⟨rfl, hb1⟩; have HE1 : Ext w W w1 := Ext.next hb1) | (go_at_call 24; refine (c2 _ _ (by first | assumption | (go_simp; done))).mono ?_; rintro e w1 ⟨rfl, hb1⟩; have HE1 : Ext w W w1 := Ext.next hb1) | (go_at_call 30; refine (c3 _).mono ?_; rintro e w1 ⟨rfl, hb1⟩; have HE1 : Ext w W w1 := Ext.next hb1))
  go_wp2_with (go_at_call 32; refine (C4.out _ _ ((HE1.1 _ _ s0).trans (k0 0)) (Nat.lt_of_lt_of_le s0 HE1.2.2.1)).mono ?_; rintro e w9 ⟨rfl, hb9⟩; have HY := HE1.call hb9)
  go_ret2
  exact ⟨rfl, HY.2.2.2⟩
 ·have he1 : (e != 0) = true := by simpa using he
  rw [if_neg he]
  clear he c4
  go_enter Tryz.func15, Tryz.ntmps15
  go_upto_region 1 with (fail)
  refine hide1 w (fun W k0 s0 HE => ?_)
  go_upto_region 2 with (first | (go_at_call 46; refine (c1 _).mono ?_; rintro e w1 ⟨rfl, hb1⟩; have HE1 : Ext w W w1 := Ext.next hb1) | (go_at_call 24; refine (c2 _ _ (by first | assumption | (go_simp; done))).mono ?_; rintro e w1 ⟨rfl, hb1⟩; have HE1 : Ext w W w1 := Ext.next hb1) | (go_at_call 30; refine (c3 _).mono ?_; rintro e w1 ⟨rfl, hb1⟩; have HE1 : Ext w W w1 := Ext.next hb1))
  go_wp2
  go_ret2
  exact ⟨rfl, HE1.2.2.2⟩
end Go.Proofs.YtmoimcblmmcffaaGreatDoor.NC

namespace Go.Proofs.YtmoimcblmmcffaaGreatDoor.NC
open Go.RowKit Go.Proofs.YtmoimcblmmcffaaGreatDoor.B Go.Proofs.YtmoimcblmmcffaaGreatDoor.N
set_option linter.unusedSimpArgs false
set_option linter.unusedVariables false
theorem rg_nat {s : Bool} {a : Nat} (h : a < 2 * signN s) : Rg s (a : Int) := ⟨by omega, by rw [top_sgn]; exact_mod_cast h⟩
theorem nat_rg {s : Bool} {a : Nat} (h : Rg s (a : Int)) : a < 2 * signN s := by have := h.2; rw [top_sgn] at this; exact_mod_cast this
theorem mulR_lt {s : Bool} {a b : Nat} (ha : a < 2 * signN s) (hb : b < 2 * signN s) : mulR s a b < 2 * signN s := by
 have := res_rg s .mul a b
 rw [mul_eq ha hb] at this
 exact nat_rg this
theorem fromR_lt (s : Bool) (n : Int) : fromR s n < 2 * signN s := by
 unfold fromR
 rw [round_near]
 have h := (fm s).nearest_lt (decide (n < 0)) n.natAbs 0
 have e : 2 ^ (fm s).width = 2 * signN s := by cases s <;> rfl
 rwa [e] at h
def powL (s : Bool) (size a : Nat) : Nat → Nat → Nat
 | 0, o => o
 | i + 1, o => powL s size a i (if size < 2 ^ i then o else if size / 2 ^ i % 2 = 1 then mulR s (mulR s o o) a else mulR s o o)
def powR (s : Bool) (a : Nat) (n : Int) : Nat := if n < 0 then divR s (fromR s 1) (powL s n.natAbs a 32 (fromR s 1)) else powL s n.natAbs a 32 (fromR s 1)
theorem powL_lt {s : Bool} {size a : Nat} (ha : a < 2 * signN s) : ∀ (i o : Nat), o < 2 * signN s → powL s size a i o < 2 * signN s
 | 0, o, h => h
 | i + 1, o, h => by
  unfold powL
  refine powL_lt ha i _ ?_
  split
  ·exact h
  ·split
   ·exact mulR_lt (mulR_lt h h) ha
   ·exact mulR_lt h h
theorem apply_mul (s : Bool) (a b : Nat) (w : World) (ha : a < 2 * signN s) (hb : b < 2 * signN s) : Calls Tryz.prog 55 #[.int .i64 2, .int .i64 (tv s), .int .u64 (a : Int), .int .u64 (b : Int)] w (Ret (.int .u64 (mulR s a b : Int)) w) := by
 have h := apply_c 2 s (a : Int) (b : Int) w (rg_nat ha).u64 (rg_nat hb).u64 (rg_nat ha).2 (rg_nat hb).2 (by decide) (by decide)
 rw [← mul_eq ha hb]
 exact h
theorem apply_quo (s : Bool) (a b : Nat) (w : World) (ha : a < 2 * signN s) (hb : b < 2 * signN s) : Calls Tryz.prog 55 #[.int .i64 3, .int .i64 (tv s), .int .u64 (a : Int), .int .u64 (b : Int)] w (Ret (.int .u64 (divR s a b : Int)) w) := by
 have h := apply_c 3 s (a : Int) (b : Int) w (rg_nat ha).u64 (rg_nat hb).u64 (rg_nat ha).2 (rg_nat hb).2 (by decide) (by decide)
 rw [← div_eq ha hb]
 exact h
theorem nat_and_pow (n i : Nat) : n &&& 2 ^ i = if n / 2 ^ i % 2 = 1 then 2 ^ i else 0 := by
 have hb : n.testBit i = decide (n / 2 ^ i % 2 = 1) := Nat.testBit_eq_decide_div_mod_eq
 refine Nat.eq_of_testBit_eq (fun j => ?_)
 rw [Nat.testBit_and, Nat.testBit_two_pow]
 by_cases hj : i = j
 ·subst hj
  rw [hb]
  by_cases h : n / 2 ^ i % 2 = 1
  ·simp [h]
  ·simp [h]
 ·by_cases h : n / 2 ^ i % 2 = 1
  ·simp [h, hj, Nat.testBit_two_pow]
  ·simp [h, hj]
theorem and_bit (n i : Nat) (hn : n < 18446744073709551616) (hi : i < 64) : (bits .and .u64 (n : Int) ((2 ^ i : Nat) : Int) != 0) = decide (n / 2 ^ i % 2 = 1) := by
 have h2 : (2 : Nat) ^ i < 18446744073709551616 := Nat.lt_of_lt_of_le (Nat.pow_lt_pow_right (by decide) hi) (by decide)
 have hk := nat_and_pow n i
 have hp : 0 < 2 ^ i := Nat.two_pow_pos _
 generalize 2 ^ i = B at *
 rw [u64_and _ _ (by omega) (by omega) (by omega) (by omega)]
 show (((n &&& B : Nat) : Int) != 0) = _
 rw [hk]
 by_cases h : n / B % 2 = 1
 ·rw [decide_eq_true h, if_pos h]; simp; omega
 ·rw [decide_eq_false h, if_neg h]; simp
end Go.Proofs.YtmoimcblmmcffaaGreatDoor.NC

namespace Go.Proofs.YtmoimcblmmcffaaGreatDoor.NC
open Go.RowKit Go.Proofs.YtmoimcblmmcffaaGreatDoor.B Go.Proofs.YtmoimcblmmcffaaGreatDoor.N
set_option linter.unusedSimpArgs false
set_option linter.unusedVariables false
set_option maxRecDepth 100000 in
set_option maxHeartbeats 8000000 in
theorem PowerOf_ok (s : Bool) (a : Nat) (n : Int) (w : World) (ha : a < 2 * signN s) (h0 : -2147483648 ≤ n) (h1 : n ≤ 2147483647) : Calls Tryz.prog 23 #[.int .i64 (tv s), .int .u64 (a : Int), .int .i64 n] w (Ret (orErr 0 (powR s a n : Int)) w) := by
 have c1 := fun g w => valid1_c (tv s) (a : Int) g w (rg_nat ha).u64
 rw [(rg_nat ha).valid1] at c1
 have c2 := fun w => ranged_c n (-2147483648) 2147483647 w
 have hr : rangedV n (-2147483648) 2147483647 = 0 := by unfold rangedV; rw [if_neg (by omega), if_neg (by omega)]
 rw [hr] at c2
 have c3 := fun w => either_c 0 0 w
 rw [if_pos rfl] at c3
 have cf := fun w => fromInteger_c (tv s) 1 w
 rw [tv_eq, from_eq] at cf
 have hf := fromR_lt s 1
 unfold orErr
 rw [if_pos rfl]
 obtain ⟨F, hF⟩ : ∃ F, powR s a n = F := ⟨_, rfl⟩
 rw [hF]
 unfold powR at hF
 generalize fromR s 1 = one at *
 obtain ⟨G, hG⟩ : ∃ G, powL s n.natAbs a 32 one = G := ⟨_, rfl⟩
 rw [hG] at hF
 have hGlt : G < 2 * signN s := by rw [← hG]; exact powL_lt ha 32 one hf
 have hsz : n.natAbs ≤ 2147483648 := by omega
 have ca := fun x y w hx hy => apply_mul s x y w hx hy
 have cq := fun w => apply_quo s one G w hf hGlt
 have HA := Lib.hid ca
 clear ca hr
 have hmn : wrap64 (-n) = -n := wr (by omega) (by omega)
 have hmx : (n ≤ -n ∧ -n = (n.natAbs : Int)) ∨ (-n < n ∧ n = (n.natAbs : Int)) := by omega
 obtain ⟨S, hS⟩ : ∃ S, n.natAbs = S := ⟨_, rfl⟩
 rw [hS] at hG hsz hmx
 clear hS
 have HG := Lib.hid hG
 have HF := Lib.hid hF
 have HLT := Lib.hid hf
 have HAL := Lib.hid ha
 clear hG hF hf ha hGlt
 go_enter Tryz.func23, Tryz.ntmps23
 go_upto_region 5 with (first | (go_at_call 24; refine (c1 _ _ (by go_simp)).mono ?_; rintro e w1 ⟨rfl, hb1⟩; have HE := Ext.next (w0 := w) (W := w) hb1) | (go_at_call 31; refine (c2 _).mono ?_; rintro e w2 ⟨rfl, hb2⟩; have HE2 := HE.call hb2) | (go_at_call 30; refine (c3 _).mono ?_; rintro e w3 ⟨rfl, hb3⟩; have HE3 := HE2.call hb3) | (go_at_call 58; refine (cf _).mono ?_; rintro e w4 ⟨rfl, hb4⟩; have HE4 := HE3.call hb4))
 go_cut [10, 11] (fun v10 v11 wc => v10 = .int .u64 (S : Int) ∧ v11 = .int .u64 (one : Int) ∧ wc = w4)
 case first =>
  have hw : IntKind.u64.wrap (S : Int) = (S : Int) := kuwrap (by omega)
  go_wp2
  all_goals
   go_meet
   refine ⟨?_, rfl, rfl⟩
   congr 1
   omega
 case rest =>
  obtain ⟨rfl, rfl, rfl⟩ := hcut
  generalize wc = V at *
  have hbV := Ext.end HE4
  clear HE HE2 HE3 HE4 hb1 hb2 hb3 hb4 c1 c2 c3 cf hmn
  go_wp2
  go_loopw [11, 12] (fun v11 v12 wr => ∃ i o : Nat, i ≤ 32 ∧ v11 = .int .u64 (o : Int) ∧ v12 = .int .u64 (if i = 0 then 0 else ((2 ^ (i - 1) : Nat) : Int)) ∧ o < 2 * signN s ∧ Hid (powL s S a i o = G) ∧ Below w.heap.size w wr) (fun _ v12 _ => (intOf v12).toNat)
  case atStart => exact ⟨32, one, Nat.le_refl _, rfl, rfl, HLT.out, HG, hbV⟩
  case round =>
   obtain ⟨i, o, hi, rfl, rfl, ho, hG, hb⟩ := hrel
   cases i with
   | zero =>
    have hGo : o = G := by have := hG.out; unfold powL at this; exact this
    subst hGo
    simp only [if_true]
    have hF := HF.out
    clear HG hG HF
    by_cases hn : n < 0
    ·rw [if_pos hn] at hF
     subst hF
     have HQ := cq wr
     clear cq HA HLT HAL
     go_wp2_with (go_at_call 55; refine HQ.mono ?_; rintro e w5 ⟨rfl, hb5⟩)
     go_ret2
     exact ⟨rfl, below_call hb hb5⟩
    ·rw [if_neg hn] at hF
     subst hF
     clear cq HA HLT HAL
     go_wp2
     go_ret2
     exact ⟨rfl, hb⟩
   | succ j =>
    have hstep := hG.out
    unfold powL at hstep
    have hbit := and_bit S j (by omega) (by omega)
    have hBle : 2 ^ j ≤ 2 ^ 31 := Nat.pow_le_pow_right (by decide) (by omega)
    have hBpos : 0 < 2 ^ j := Nat.two_pow_pos _
    have hhalf : ((2 ^ j : Nat) : Int) / 2 = (if j = 0 then 0 else ((2 ^ (j - 1) : Nat) : Int)) := by
     cases j with
     | zero => decide
     | succ k => rw [if_neg (by omega), Nat.add_sub_cancel, Nat.pow_succ]; omega
    have c1 := HA.out o o wr ho ho
    have hm1 := mulR_lt ho ho
    have c2 := fun w' => HA.out (mulR s o o) a w' hm1 HAL.out
    have hm2 := mulR_lt hm1 HAL.out
    simp only [Nat.add_sub_cancel, if_neg (Nat.succ_ne_zero j)]
    clear hG HG HF cq hmx
    obtain ⟨hd, hhd⟩ : ∃ z, (if j = 0 then (0 : Int) else ((2 ^ (j - 1) : Nat) : Int)) = z := ⟨_, rfl⟩
    rw [hhd] at hhalf
    generalize 2 ^ j = B at *
    have HH := Lib.hid hhalf
    have HD := Lib.hid hhd
    have HS := Lib.hid hstep
    have HM1 := Lib.hid hm1
    have HM2 := Lib.hid hm2
    have HO := Lib.hid ho
    clear hhalf hhd hstep hm1 hm2 ho
    generalize mulR s o o = o2 at *
    generalize mulR s o2 a = o3 at *
    by_cases hlt : S < B
    ·clear c1 c2 hbit
     go_wp2
     go_roundw
     case rel => exact ⟨j, o, by omega, rfl, by rw [HD.out, ← HH.out], HO.out, (by have := HS.out; rw [if_pos hlt] at this; exact this), hb⟩
     case measure => simp [intOf]; omega
    ·by_cases hbt : S / B % 2 = 1
     ·rw [decide_eq_true hbt] at hbit
      go_wp2_with (first | (go_at_call 55; (with_reducible refine (c1).mono ?_); rintro e w5 ⟨rfl, hb5⟩) | (go_at_call 55; (with_reducible refine (c2 _).mono ?_); rintro e w6 ⟨rfl, hb6⟩))
      go_roundw
      case rel => exact ⟨j, o3, by omega, rfl, by rw [HD.out, ← HH.out], HM2.out, (by have := HS.out; rw [if_neg hlt, if_pos hbt] at this; exact this), below_call (below_call hb hb5) hb6⟩
      case measure => simp [intOf]; omega
     ·rw [decide_eq_false hbt] at hbit
      go_wp2_with (first | (go_at_call 55; (with_reducible refine (c1).mono ?_); rintro e w5 ⟨rfl, hb5⟩))
      go_roundw
      case rel => exact ⟨j, o2, by omega, rfl, by rw [HD.out, ← HH.out], HM1.out, (by have := HS.out; rw [if_neg hlt, if_neg hbt] at this; exact this), below_call hb hb5⟩
      case measure => simp [intOf]; omega
end Go.Proofs.YtmoimcblmmcffaaGreatDoor.NC

namespace Go.Proofs.YtmoimcblmmcffaaGreatDoor.NC
open Go.RowKit Go.Proofs.YtmoimcblmmcffaaGreatDoor.B Go.Proofs.YtmoimcblmmcffaaGreatDoor.N
set_option linter.unusedSimpArgs false
set_option linter.unusedVariables false
def XA : Nat := 4607182419336888320
def XP : Nat := 4607182419873759232
def XQ : Nat := 4607182419873759296
def XL : Nat := 4400016835940974592
theorem conv_a (w : World) : (convert 84 57 (.float .f32 1065353217)).run Tryz.prog w = .ok (.float .f64 XA) w := by kernel_rfl
theorem conv_p (w : World) : (convert 84 57 (.float .f32 1065353218)).run Tryz.prog w = .ok (.float .f64 XP) w := by kernel_rfl
theorem conv_l (w : World) : (convert 57 84 (.float .f64 XL)).run Tryz.prog w = .ok (.float .f32 679477248) w := by kernel_rfl
theorem conv_b (w : World) : (convert 84 57 (.float .f32 679477248)).run Tryz.prog w = .ok (.float .f64 XL) w := by kernel_rfl
theorem mul_k (w : World) : (binOp .mul 57 (.float .f64 XA) (.float .f64 XA)).run Tryz.prog w = .ok (.float .f64 XQ) w := by kernel_rfl
theorem sub_k (w : World) : (binOp .sub 57 (.float .f64 XQ) (.float .f64 XP)).run Tryz.prog w = .ok (.float .f64 XL) w := by kernel_rfl
theorem wide_a (w : World) : Calls Tryz.prog 45 #[.int .i64 1, .int .u64 1065353217] w (Ret (.float .f64 XA) w) := by
 have c1 := fun w => real32_c 1065353217 w (by decide) (by decide)
 have c2 := conv_a
 generalize XA = X at *
 go_enter Tryz.func45, Tryz.ntmps45
 go_wp2_with (go_at_call 68; refine (c1 _).mono ?_; rintro e w1 ⟨rfl, hb1⟩)
 go_ret
 exact ⟨rfl, hb1⟩
theorem wide_p (w : World) : Calls Tryz.prog 45 #[.int .i64 1, .int .u64 1065353218] w (Ret (.float .f64 XP) w) := by
 have c1 := fun w => real32_c 1065353218 w (by decide) (by decide)
 have c2 := conv_p
 generalize XP = X at *
 go_enter Tryz.func45, Tryz.ntmps45
 go_wp2_with (go_at_call 68; refine (c1 _).mono ?_; rintro e w1 ⟨rfl, hb1⟩)
 go_ret
 exact ⟨rfl, hb1⟩
theorem splitErr_k (w : World) : Calls Tryz.prog 59 #[.int .i64 1, .int .u64 1065353217, .int .u64 1065353217] w (Ret (.int .i64 0) w) := by
 have c1 := fun g w => valid2_c 1 1065353217 1065353217 g w (by decide) (by decide)
 have hv : validV 1 [1065353217, 1065353217] = 0 := by decide
 rw [hv] at c1
 have c2 := layoutOf_c 1
 have c3 := sign_c true
 have c4 := infinite_c true
 have ha : bits .andNot .u64 1065353217 2147483648 = 1065353217 := by decide
 simp only [layV, signV, infV, show ((1 : Int) == 1) = true from rfl] at c2 c3 c4
 clear hv
 go_enter Tryz.func59, Tryz.ntmps59
 go_upto_region 5 with (first | (go_at_call 24; refine (c1 _ _ (by go_simp) (by go_simp)).mono ?_; rintro e w1 ⟨rfl, hb1⟩; have HE := Ext.next (w0 := w) (W := w) hb1) | (go_at_call 25; refine (c2 _).mono ?_; rintro e w2 ⟨rfl, hb2⟩; have HE2 := HE.call hb2))
 refine hide1 w (fun W k0 s0 HW => ?_)
 go_region_held3 (fun w' => Ext w W w') (first | exact Ext.drew (by assumption) | exact Ext.next (by assumption)) (first | (go_at_call 26; refine (c3 _).mono ?_; rintro e w1 ⟨rfl, hb1⟩; have HEE : Ext w W w1 := Ext.call (by assumption) hb1) | (go_at_call 67; refine (c4 _).mono ?_; rintro e w1 ⟨rfl, hb1⟩; have HEE : Ext w W w1 := Ext.call (by assumption) hb1))
 all_goals
  go_wp2
  go_ret
  exact ⟨rfl, Ext.end (by assumption)⟩
theorem plain_k (w : World) : Calls Tryz.prog 60 #[layV true, .int .u64 679477248] w (Ret (.int .u64 679477248) w) := by
 have c1 := fun w => isZero_c true 679477248 w
 have hz : zeroV true 679477248 = false := by decide
 rw [hz] at c1
 simp only [layV] at *
 go_enter Tryz.func60, Tryz.ntmps60
 go_upto_region 1 with (fail)
 refine hide1 w (fun W k0 s0 HE => ?_)
 go_wp2_with (go_at_call 28; refine (c1 _).mono ?_; rintro e w1 ⟨rfl, hb1⟩; have HE := Ext.next (w0 := w) (W := W) hb1)
 go_ret
 exact ⟨rfl, Ext.end⟩
set_option maxRecDepth 100000 in
set_option maxHeartbeats 4000000 in
theorem split_k (w : World) : Calls Tryz.prog 22 #[.int .i64 1, .int .u64 1065353217, .int .u64 1065353217] w (Ret (.tuple #[.int .u64 1065353218, .int .u64 679477248, .int .i64 0]) w) := by
 have c1 := splitErr_k
 have c2 := layoutOf_c 1
 have hm : applyV 2 true 1065353217 1065353217 = 1065353218 := by decide +kernel
 have c3 := fun w => apply_c 2 true 1065353217 1065353217 w (by decide) (by decide) (by decide) (by decide) (by decide) (by decide)
 rw [hm] at c3
 simp only [if_true] at c3
 have c4 := fun w => isInfinite_c true 1065353218 w
 have hi : infiniteV true 1065353218 = false := by decide
 rw [hi] at c4
 have c5 := wide_a
 have c6 := wide_p
 have c7 := fun w => bits32_c 679477248 w (by decide)
 have hc : cleanV true ((679477248 : Nat) : Int) = 679477248 := by decide
 rw [hc] at c7
 have c8 := plain_k
 have h1 := mul_k
 have h2 := sub_k
 have h3 := conv_l
 have h4 := conv_b
 have h5 : (FloatKind.f64.format.order XL XL != some .eq) = false := by decide +kernel
 simp only [layV, show ((1 : Int) == 1) = true from rfl] at c2 c4 c8
 generalize XA = xa at *
 generalize XP = xp at *
 generalize XQ = xq at *
 generalize XL = xl at *
 clear hm hi hc
 go_enter Tryz.func22, Tryz.ntmps22
 go_upto_region 5 with (first | (go_at_call 59; refine (c1 _).mono ?_; rintro e w1 ⟨rfl, hb1⟩) | (go_at_call 25; refine (c2 _).mono ?_; rintro e w2 ⟨rfl, hb2⟩))
 refine hide1 w (fun W k0 s0 HW => ?_) (below_call hb1 hb2)
 go_upto_region 9 with (first | (go_at_call 55; refine (c3 _).mono ?_; rintro e w3 ⟨rfl, hb3⟩; have HE3 := HW.call hb3) | (go_at_call 29; refine (c4 _).mono ?_; rintro e w4 ⟨rfl, hb4⟩; have HE4 := HE3.call hb4))
 go_upto_region 12 with (first | (go_at_call 45; (with_reducible refine (c5 _).mono ?_); rintro e w5 ⟨rfl, hb5⟩; have HE4 := HE4.call hb5) | (go_at_call 45; (with_reducible refine (c6 _).mono ?_); rintro e w6 ⟨rfl, hb6⟩; have HE4 := HE4.call hb6))
 go_region_held3 (fun w' => Ext w W w') (first | exact Ext.drew (by assumption) | exact Ext.next (by assumption)) (first | (go_at_call 61; refine (c7 _).mono ?_; rintro e w7 ⟨rfl, hb7⟩; have HE7 : Ext w W w7 := Ext.call (by assumption) hb7) | (go_at_call 60; refine (c8 _).mono ?_; rintro e w8 ⟨rfl, hb8⟩; have HE8 : Ext w W w8 := Ext.call (by assumption) hb8))
 go_wp2
 go_ret3
 exact ⟨rfl, Ext.end HE8⟩
end Go.Proofs.YtmoimcblmmcffaaGreatDoor.NC

namespace Go.Proofs.YtmoimcblmmcffaaGreatDoor.NC
open Go.RowKit Go.Proofs.YtmoimcblmmcffaaGreatDoor.B Go.Proofs.YtmoimcblmmcffaaGreatDoor.N
set_option linter.unusedSimpArgs false
set_option linter.unusedVariables false
theorem aw1 (w : World) : Calls Tryz.prog 19 #[.int .i64 0, .int .i64 1, .int .u64 1065353217, .int .u64 864026624] w (Ret (.tuple #[.int .u64 1065353218, .int .i64 0]) w) := by
 have h := Apply_c 0 1 1065353217 864026624 w (by decide) (by decide)
 have e : applyErrV 0 1 1065353217 864026624 = 0 := by decide
 have v : applyV 0 ((1 : Int) == 1) 1065353217 864026624 = 1065353218 := by decide +kernel
 rw [e, v] at h
 exact h
theorem aw2 (w : World) : Calls Tryz.prog 19 #[.int .i64 3, .int .i64 1, .int .u64 1065353216, .int .u64 1077936128] w (Ret (.tuple #[.int .u64 1051372203, .int .i64 0]) w) := by
 have h := Apply_c 3 1 1065353216 1077936128 w (by decide) (by decide)
 have e : applyErrV 3 1 1065353216 1077936128 = 0 := by decide
 have v : applyV 3 ((1 : Int) == 1) 1065353216 1077936128 = 1051372203 := by decide +kernel
 rw [e, v] at h
 exact h
theorem aw3 (w : World) : Calls Tryz.prog 20 #[.int .i64 1, .int .u64 1073741824] w (Ret (.tuple #[.int .u64 1068827891, .int .i64 0]) w) := by
 have h := SqrtOf_c sqrt_narrow 1 1073741824 w (by decide)
 have e : validV 1 [1073741824] = 0 := by decide
 have v : sqrtV ((1 : Int) == 1) 1073741824 = 1068827891 := by decide +kernel
 rw [e, v] at h
 exact h
theorem aw4 (w : World) : Calls Tryz.prog 21 #[.int .i64 1, .int .i64 16777219] w (Ret (.tuple #[.int .u64 1266679810, .int .i64 0]) w) := by
 have h := FromInteger_c 1 16777219 w
 have e : fromErrV 1 16777219 = 0 := by decide
 have v : fromIntV ((1 : Int) == 1) 16777219 = 1266679810 := by decide +kernel
 rw [e, v] at h
 exact h
theorem aw6 (w : World) : Calls Tryz.prog 23 #[.int .i64 1, .int .u64 1077936128, .int .i64 (-2)] w (Ret (.tuple #[.int .u64 1038323257, .int .i64 0]) w) := by
 have h := PowerOf_ok true 1077936128 (-2) w (by decide) (by decide) (by decide)
 have v : powR true 1077936128 (-2) = 1038323257 := by decide +kernel
 rw [v] at h
 exact h
set_option maxRecDepth 100000 in
set_option maxHeartbeats 4000000 in
theorem awake_c (w : World) : Calls Tryz.prog 5 #[] w (Ret (.bool true) w) := by
 have c1 := aw1
 have c2 := aw2
 have c3 := aw3
 have c4 := aw4
 have c5 := split_k
 have c6 := aw6
 go_enter Tryz.func5, Tryz.ntmps5
 go_wp2_with (first | (go_at_call 19; (with_reducible refine (c1 _).mono ?_); rintro e w1 ⟨rfl, hb1⟩) | (go_at_call 19; (with_reducible refine (c2 _).mono ?_); rintro e w2 ⟨rfl, hb2⟩) | (go_at_call 20; (with_reducible refine (c3 _).mono ?_); rintro e w3 ⟨rfl, hb3⟩) | (go_at_call 21; (with_reducible refine (c4 _).mono ?_); rintro e w4 ⟨rfl, hb4⟩) | (go_at_call 22; (with_reducible refine (c5 _).mono ?_); rintro e w5 ⟨rfl, hb5⟩) | (go_at_call 23; (with_reducible refine (c6 _).mono ?_); rintro e w6 ⟨rfl, hb6⟩))
 go_ret
 exact ⟨rfl, below_call (below_call (below_call (below_call (below_call hb1 hb2) hb3) hb4) hb5) hb6⟩
end Go.Proofs.YtmoimcblmmcffaaGreatDoor.NC

namespace Go.Proofs.YtmoimcblmmcffaaGreatDoor.NC
open Go.RowKit Go.Proofs.YtmoimcblmmcffaaGreatDoor.B Go.Proofs.YtmoimcblmmcffaaGreatDoor.N
set_option linter.unusedSimpArgs false
set_option linter.unusedVariables false
theorem within_c (n lo hi : Int) (w : World) : Calls Tryz.prog 10 #[.int .i64 n, .int .i64 lo, .int .i64 hi] w (Ret (.bool (decide (lo ≤ n ∧ n ≤ hi))) w) := by
 by_cases h1 : n < lo
 ·rw [decide_eq_false (by omega)]
  go_enter Tryz.func10, Tryz.ntmps10
  go_wp2
  go_ret
  exact ⟨rfl, below_end⟩
 ·by_cases h2 : hi < n
  ·rw [decide_eq_false (by omega)]
   have d1 : decide (n < lo) = false := decide_eq_false h1
   have d2 : decide (hi < n) = true := decide_eq_true h2
   go_enter Tryz.func10, Tryz.ntmps10
   go_wp2
   go_ret
   exact ⟨rfl, below_end⟩
  ·rw [decide_eq_true (by omega)]
   have d1 : decide (n < lo) = false := decide_eq_false h1
   have d2 : decide (hi < n) = false := decide_eq_false h2
   go_enter Tryz.func10, Tryz.ntmps10
   go_wp2
   go_ret
   exact ⟨rfl, below_end⟩
end Go.Proofs.YtmoimcblmmcffaaGreatDoor.NC

namespace Go.Proofs.YtmoimcblmmcffaaGreatDoor.NC
open Go.RowKit Go.Proofs.YtmoimcblmmcffaaGreatDoor.B Go.Proofs.YtmoimcblmmcffaaGreatDoor.N
set_option linter.unusedSimpArgs false
set_option linter.unusedVariables false
theorem opErr_c (n k : Int) (w : World) (h0 : 1 ≤ k) (h1 : k ≤ 1000) : Calls Tryz.prog 16 #[.int .i64 n, .int .i64 k] w (Ret (.int .i64 (kindErrV n k)) w) := by
 have c1 := fun w => within_c n 0 (k - 1) w
 by_cases h : 0 ≤ n ∧ n ≤ k - 1
 ·rw [decide_eq_true h] at c1
  have e : kindErrV n k = 0 := by unfold kindErrV; rw [if_neg (by omega), if_neg (by omega)]
  rw [e]
  clear h e
  go_enter Tryz.func16, Tryz.ntmps16
  go_wp2_with (go_at_call 10; refine (c1 _).mono ?_; rintro e w1 ⟨rfl, hb1⟩)
  go_ret
  exact ⟨rfl, hb1⟩
 ·rw [decide_eq_false h] at c1
  have e : kindErrV n k = 15 := by
   unfold kindErrV
   by_cases h2 : n < 0
   ·rw [if_pos h2]
   ·rw [if_neg h2, if_pos (by omega)]
  rw [e]
  clear h e
  go_enter Tryz.func16, Tryz.ntmps16
  go_wp2_with (go_at_call 10; refine (c1 _).mono ?_; rintro e w1 ⟨rfl, hb1⟩)
  go_ret
  exact ⟨rfl, hb1⟩
theorem typeErrR_c (t : Int) (w : World) : Calls Tryz.prog 35 #[.int .i64 t] w (Ret (.int .i64 (typeErrV t)) w) := by
 unfold typeErrV
 by_cases h1 : t = 1
 ·subst h1
  go_enter Tryz.func35, Tryz.ntmps35
  go_wp2
  go_ret
  exact ⟨rfl, below_end⟩
 ·by_cases h2 : t = 2
  ·subst h2
   go_enter Tryz.func35, Tryz.ntmps35
   go_wp2
   go_ret
   exact ⟨rfl, below_end⟩
  ·rw [if_neg h1, if_neg h2]
   have b1 : (t != 1) = true := by simpa using h1
   have b2 : (t != 2) = true := by simpa using h2
   go_enter Tryz.func35, Tryz.ntmps35
   go_wp2
   go_ret
   exact ⟨rfl, below_end⟩
theorem bitsErrR_c (t a : Int) (w : World) : Calls Tryz.prog 36 #[.int .i64 t, .int .u64 a] w (Ret (.int .i64 (bitsErrV t [a])) w) := by
 by_cases h1 : t = 1
 ·subst h1
  by_cases h2 : 4294967296 ≤ a
  ·have e : bitsErrV 1 [a] = 2 := by unfold bitsErrV; rw [if_pos ⟨rfl, by simp; exact h2⟩]
   rw [e]
   go_enter Tryz.func36, Tryz.ntmps36
   go_wp2
   go_ret
   exact ⟨rfl, below_end⟩
  ·have e : bitsErrV 1 [a] = 0 := by unfold bitsErrV; rw [if_neg]; rintro ⟨_, h⟩; simp at h; exact h2 h
   rw [e]
   go_enter Tryz.func36, Tryz.ntmps36
   go_wp2
   go_ret
   exact ⟨rfl, below_end⟩
 ·have e : bitsErrV t [a] = 0 := by unfold bitsErrV; rw [if_neg]; rintro ⟨h, _⟩; exact h1 h
  rw [e]
  have b : (t == 1) = false := by simpa using h1
  go_enter Tryz.func36, Tryz.ntmps36
  go_wp2
  go_ret
  exact ⟨rfl, below_end⟩
theorem bothErr_c (t a : Int) (w : World) : Calls Tryz.prog 8 #[.int .i64 t, .int .u64 a] w (Ret (.int .i64 (validV t [a])) w) := by
 have c1 := fun w => typeErrR_c t w
 have c2 := fun w => bitsErrR_c t a w
 unfold validV
 generalize bitsErrV t [a] = b at *
 generalize typeErrV t = e at *
 by_cases h : e = 0
 ·subst h
  rw [if_pos rfl]
  go_enter Tryz.func8, Tryz.ntmps8
  go_wp2_with (first | (go_at_call 35; refine (c1 _).mono ?_; rintro e w1 ⟨rfl, hb1⟩) | (go_at_call 36; refine (c2 _).mono ?_; rintro e w2 ⟨rfl, hb2⟩))
  go_ret
  exact ⟨rfl, below_call hb1 hb2⟩
 ·rw [if_neg h]
  have b : (e != 0) = true := by simpa using h
  go_enter Tryz.func8, Tryz.ntmps8
  go_wp2_with (first | (go_at_call 35; refine (c1 _).mono ?_; rintro e w1 ⟨rfl, hb1⟩))
  go_ret
  exact ⟨rfl, hb1⟩
theorem isInteger_c (n : Int) (w : World) : Calls Tryz.prog 54 #[.int .i64 n] w (Ret (.bool (decide (-2147483648 ≤ n ∧ n ≤ 2147483647))) w) := by
 have c1 := fun w => within_c n (-2147483648) 2147483647 w
 generalize decide (-2147483648 ≤ n ∧ n ≤ 2147483647) = b at *
 go_enter Tryz.func54, Tryz.ntmps54
 go_wp2_with (go_at_call 10; refine (c1 _).mono ?_; rintro e w1 ⟨rfl, hb1⟩)
 go_ret
 exact ⟨rfl, hb1⟩
end Go.Proofs.YtmoimcblmmcffaaGreatDoor.NC

namespace Go.Proofs.YtmoimcblmmcffaaGreatDoor.NC
open Go.RowKit Go.Proofs.YtmoimcblmmcffaaGreatDoor.B Go.Proofs.YtmoimcblmmcffaaGreatDoor.N
set_option linter.unusedSimpArgs false
set_option linter.unusedVariables false
def RetWholeR (Q : Nat) (neg : Bool) (w : World) : Ending → World → Prop := fun e w' => ∃ A c, e = .returned (.tuple #[.slice A (digs Q).length c, .bool neg]) ∧ (digs Q).length ≤ c ∧ Big w' A Q ∧ Below w.heap.size w w'
set_option maxRecDepth 100000 in
set_option maxHeartbeats 8000000 in
theorem whole_pos_c (mode k1 : Int) (n1 : Bool) (g1 : Nat) (x1 : Int) (w : World) (hg : g1 < 2 ^ 53) (hx : 0 ≤ x1) (hx2 : x1 ≤ 1000) :
  Calls Tryz.prog 51 #[.int .i64 mode, .agg #[.int .i64 k1, .bool n1, .int .i64 (g1 : Int), .int .i64 x1]] w (RetWholeR (g1 * 2 ^ x1.toNat) n1 w) := by
 obtain ⟨K, rfl⟩ := Int.eq_ofNat_of_zero_le hx
 have cn1 := fun w => nat_c w (n := g1) (by omega)
 have hl1 : (digs g1).length ≤ 20000 := by have := len4 (s := false) (m := g1) (by simpa [lowN] using hg); omega
 have cl : ∀ (w : World) (A : Option Addr) (c : Nat), Big w A g1 → (digs g1).length ≤ c → Calls Tryz.prog 76 #[.slice A (digs g1).length c, .int .i64 (K : Int)] w (RetBig (g1 * 2 ^ K) w) := fun w A c h hc => left_c (s := K) w h hc hl1 (by omega)
 have f0 : decide ((K : Int) ≥ 0) = true := decide_eq_true (by omega)
 have f1 : decide (0 ≤ (K : Int)) = true := decide_eq_true (by omega)
 rw [Int.toNat_natCast]
 generalize g1 * 2 ^ K = m at *
 clear hx hx2 hl1
 go_enter Tryz.func51, Tryz.ntmps51
 go_upto_region 1 with (fail)
 refine hide1 w (fun W kk0 s0 HE => ?_)
 go_upto_region 3 with (first | (go_at_call 44; (with_reducible refine (cn1 _).mono ?_); rintro e w2 ⟨A1, c1, rfl, hc1, hB1, hb2⟩; have HE2 := HE.call hb2))
 have kk2 : ∀ i, w2.cell? ⟨w.heap.size, i, none⟩ = #[Value.int .i64 k1, .bool n1, .int .i64 (g1 : Int), .int .i64 (K : Int)][i]? := fun i => (HE2.1 _ _ s0).trans (kk0 i)
 have s2 : w.heap.size < w2.heap.size := Nat.lt_of_lt_of_le s0 HE2.2.2.1
 have HE3 : Ext w w2 w2 := Ext.refl HE2.2.2.2
 clear kk0 s0 HE2 hb2 HE
 go_region_held3 (fun w' => Ext w w2 w') (first | assumption | (with_reducible exact Ext.call (by assumption) hb3) | ((with_reducible refine Ext.drew ?_); assumption)) (first | (go_at_call 76; refine (cl _ _ _ (hB1.ext (by assumption)) hc1).mono ?_; rintro e w3 ⟨A3, c3, rfl, hc3, hB3, hb3⟩; have HE5 : Ext w w2 w3 := Ext.call (by assumption) hb3))
 all_goals
  have HX := (by assumption : Ext w w2 _)
  go_wp2
  go_ret2
  exact ⟨_, _, rfl, hc3, (by first | exact hB3 | exact hB3.drew | exact hB3.drew.drew), HX.2.2.2⟩
end Go.Proofs.YtmoimcblmmcffaaGreatDoor.NC

namespace Go.Proofs.YtmoimcblmmcffaaGreatDoor.NC
open Go.RowKit Go.Proofs.YtmoimcblmmcffaaGreatDoor.B Go.Proofs.YtmoimcblmmcffaaGreatDoor.N
set_option linter.unusedSimpArgs false
set_option linter.unusedVariables false
abbrev RightC (g1 d q : Nat) (rest : Bool) : Prop := ∀ (w : World) (A : Option Addr) (c : Nat), Big w A g1 → (digs g1).length ≤ c → Calls Tryz.prog 78 #[.slice A (digs g1).length c, .int .i64 (d : Int)] w fun e w' => ∃ A c, e = .returned (.tuple #[.slice A (digs q).length c, .bool rest]) ∧ (digs q).length ≤ c ∧ Big w' A q ∧ Below w.heap.size w w'
abbrev DigitC (h : Nat) (u : Int) : Prop := ∀ (w : World) (A : Option Addr) (c : Nat), Big w A h → (digs h).length ≤ c → Calls Tryz.prog 81 #[.slice A (digs h).length c, .int .i64 0] w (Ret (.int .i64 u) w)
abbrev PlusC (q : Nat) : Prop := ∀ (w : World) (A : Option Addr) (c : Nat) (A' : Option Addr), Big w A q → (digs q).length ≤ c → Big w A' 1 → Calls Tryz.prog 77 #[.slice A (digs q).length c, .slice A' 1 1] w (RetBig (q + 1) w)
set_option maxRecDepth 100000 in
set_option maxHeartbeats 2000000 in
theorem whole_n0 (k1 : Int) (n1 : Bool) (g1 d q : Nat) (rest : Bool) (w : World) (hg : g1 < 2 ^ 53) (hd : 1 ≤ d) (hd2 : d ≤ 2000) (c3 : RightC g1 d q rest) :
  Calls Tryz.prog 51 #[.int .i64 0, .agg #[.int .i64 k1, .bool n1, .int .i64 (g1 : Int), .int .i64 (-(d : Int))]] w (RetWholeR (q) n1 w) := by
 have cn1 := fun w => nat_c w (n := g1) (by omega)
 have f0 : decide (-(d : Int) ≥ 0) = false := decide_eq_false (by omega)
 have f1 : decide (0 ≤ -(d : Int)) = false := decide_eq_false (by omega)
 have f8 : decide (d = 0) = false := decide_eq_false (by omega)
 have f2 : wrap64 (d : Int) = (d : Int) := wr (by omega) (by omega)
 have f3 : IntKind.i64.wrap (d : Int) = (d : Int) := iwr (by omega) (by omega)
 have f4 : wrap64 (- -(d : Int)) = (d : Int) := by rw [Int.neg_neg]; exact f2
 have f5 : IntKind.i64.wrap (- -(d : Int)) = (d : Int) := by rw [Int.neg_neg]; exact f3
 clear hg hd hd2
 go_enter Tryz.func51, Tryz.ntmps51
 go_upto_region 1 with (fail)
 refine hide1 w (fun W kk0 s0 HE => ?_)
 go_upto_region 16 with (first | (go_at_call 44; (with_reducible refine (cn1 _).mono ?_); rintro e w2 ⟨A1, b1, rfl, hc1, hB1, hb2⟩; have HE2 := HE.call hb2) | (go_at_call 78; (with_reducible refine (c3 _ _ _ hB1 hc1).mono ?_); rintro e w3 ⟨A3, b3, rfl, hc3, hB3, hb3⟩; have HE2 := HE2.call hb3; have hB1' := hB1.below hb3))
 have HX := HE2
 go_quiet (fail)
 go_wp2
 go_ret2
 exact ⟨_, _, rfl, hc3, (by first | exact hB3 | exact hB3.drew | exact hB3.drewN _), (by first | exact HX.2.2.2 | exact (HX.drewN _).2.2.2 | exact HX.drew.2.2.2)⟩
set_option maxRecDepth 100000 in
set_option maxHeartbeats 2000000 in
theorem whole_n10 (k1 : Int) (n1 : Bool) (g1 d q : Nat) (rest : Bool) (rest2 : Bool) (u : Int) (w : World) (hg : g1 < 2 ^ 53) (hd : 1 ≤ d) (hd2 : d ≤ 2000) (c3 : RightC g1 d q rest) (h : Nat) (d1 : Nat) (hd1 : d = d1 + 1) (c4 : RightC g1 d1 h rest2) (c5 : DigitC h u) (hu : (Int.tmod u 2 == 1) = false) :
  Calls Tryz.prog 51 #[.int .i64 1, .agg #[.int .i64 k1, .bool n1, .int .i64 (g1 : Int), .int .i64 (-(d : Int))]] w (RetWholeR (q) n1 w) := by
 have cn1 := fun w => nat_c w (n := g1) (by omega)
 have f0 : decide (-(d : Int) ≥ 0) = false := decide_eq_false (by omega)
 have f1 : decide (0 ≤ -(d : Int)) = false := decide_eq_false (by omega)
 have f8 : decide (d = 0) = false := decide_eq_false (by omega)
 have f2 : wrap64 (d : Int) = (d : Int) := wr (by omega) (by omega)
 have f3 : IntKind.i64.wrap (d : Int) = (d : Int) := iwr (by omega) (by omega)
 have f4 : wrap64 (- -(d : Int)) = (d : Int) := by rw [Int.neg_neg]; exact f2
 have f5 : IntKind.i64.wrap (- -(d : Int)) = (d : Int) := by rw [Int.neg_neg]; exact f3
 have f6 : wrap64 ((d : Int) - 1) = (d1 : Int) := by rw [wr (by omega) (by omega)]; omega
 have f7 : IntKind.i64.wrap ((d : Int) - 1) = (d1 : Int) := by rw [iwr (by omega) (by omega)]; omega
 clear hg hd hd2 hd1
 go_enter Tryz.func51, Tryz.ntmps51
 go_upto_region 1 with (fail)
 refine hide1 w (fun W kk0 s0 HE => ?_)
 go_upto_region 16 with (first | (go_at_call 44; (with_reducible refine (cn1 _).mono ?_); rintro e w2 ⟨A1, b1, rfl, hc1, hB1, hb2⟩; have HE2 := HE.call hb2) | (go_at_call 78; (with_reducible refine (c3 _ _ _ hB1 hc1).mono ?_); rintro e w3 ⟨A3, b3, rfl, hc3, hB3, hb3⟩; have HE2 := HE2.call hb3; have hB1' := hB1.below hb3) | (go_at_call 78; (with_reducible refine (c4 _ _ _ hB1' hc1).mono ?_); rintro e w4 ⟨A4, b4, rfl, hc4, hB4, hb4⟩; have HE2 := HE2.call hb4; have hB3 := hB3.below hb4) | (go_at_call 81; (with_reducible refine (c5 _ _ _ hB4 hc4).mono ?_); rintro e w5 ⟨rfl, hb5⟩; have HE2 := HE2.call hb5; have hB3 := hB3.below hb5))
 have HX := HE2
 go_quiet (fail)
 go_wp2
 go_ret2
 exact ⟨_, _, rfl, hc3, (by first | exact hB3 | exact hB3.drew | exact hB3.drewN _), (by first | exact HX.2.2.2 | exact (HX.drewN _).2.2.2 | exact HX.drew.2.2.2)⟩
set_option maxRecDepth 100000 in
set_option maxHeartbeats 2000000 in
theorem whole_n11 (k1 : Int) (n1 : Bool) (g1 d q : Nat) (rest : Bool) (rest2 : Bool) (u : Int) (w : World) (hg : g1 < 2 ^ 53) (hd : 1 ≤ d) (hd2 : d ≤ 2000) (c3 : RightC g1 d q rest) (h : Nat) (d1 : Nat) (hd1 : d = d1 + 1) (c4 : RightC g1 d1 h rest2) (c5 : DigitC h u) (hu : (Int.tmod u 2 == 1) = true) (c6 : PlusC q) :
  Calls Tryz.prog 51 #[.int .i64 1, .agg #[.int .i64 k1, .bool n1, .int .i64 (g1 : Int), .int .i64 (-(d : Int))]] w (RetWholeR (q + 1) n1 w) := by
 have cn1 := fun w => nat_c w (n := g1) (by omega)
 have f0 : decide (-(d : Int) ≥ 0) = false := decide_eq_false (by omega)
 have f1 : decide (0 ≤ -(d : Int)) = false := decide_eq_false (by omega)
 have f8 : decide (d = 0) = false := decide_eq_false (by omega)
 have f2 : wrap64 (d : Int) = (d : Int) := wr (by omega) (by omega)
 have f3 : IntKind.i64.wrap (d : Int) = (d : Int) := iwr (by omega) (by omega)
 have f4 : wrap64 (- -(d : Int)) = (d : Int) := by rw [Int.neg_neg]; exact f2
 have f5 : IntKind.i64.wrap (- -(d : Int)) = (d : Int) := by rw [Int.neg_neg]; exact f3
 have f6 : wrap64 ((d : Int) - 1) = (d1 : Int) := by rw [wr (by omega) (by omega)]; omega
 have f7 : IntKind.i64.wrap ((d : Int) - 1) = (d1 : Int) := by rw [iwr (by omega) (by omega)]; omega
 clear hg hd hd2 hd1
 go_enter Tryz.func51, Tryz.ntmps51
 go_upto_region 1 with (fail)
 refine hide1 w (fun W kk0 s0 HE => ?_)
 go_upto_region 16 with (first | (go_at_call 44; (with_reducible refine (cn1 _).mono ?_); rintro e w2 ⟨A1, b1, rfl, hc1, hB1, hb2⟩; have HE2 := HE.call hb2) | (go_at_call 78; (with_reducible refine (c3 _ _ _ hB1 hc1).mono ?_); rintro e w3 ⟨A3, b3, rfl, hc3, hB3, hb3⟩; have HE2 := HE2.call hb3; have hB1' := hB1.below hb3) | (go_at_call 78; (with_reducible refine (c4 _ _ _ hB1' hc1).mono ?_); rintro e w4 ⟨A4, b4, rfl, hc4, hB4, hb4⟩; have HE2 := HE2.call hb4; have hB3 := hB3.below hb4) | (go_at_call 81; (with_reducible refine (c5 _ _ _ hB4 hc4).mono ?_); rintro e w5 ⟨rfl, hb5⟩; have HE2 := HE2.call hb5; have hB3 := hB3.below hb5) | (go_at_call 77; (with_reducible refine (c6 _ _ _ _ (hB3.alloc _) hc3 (big_lit digs_one)).mono ?_); rintro e w6 ⟨A6, b6, rfl, hc6, hB6, hb6⟩; have HE2 := (HE2.alloc _).call hb6))
 have HX := HE2
 go_quiet (fail)
 go_wp2
 go_ret2
 exact ⟨_, _, rfl, hc6, (by first | exact hB6 | exact hB6.drew | exact hB6.drewN _), (by first | exact HX.2.2.2 | exact (HX.drewN _).2.2.2 | exact HX.drew.2.2.2)⟩
set_option maxRecDepth 100000 in
set_option maxHeartbeats 2000000 in
theorem whole_n200 (k1 : Int) (g1 d q : Nat) (w : World) (hg : g1 < 2 ^ 53) (hd : 1 ≤ d) (hd2 : d ≤ 2000) (c3 : RightC g1 d q false) :
  Calls Tryz.prog 51 #[.int .i64 2, .agg #[.int .i64 k1, .bool false, .int .i64 (g1 : Int), .int .i64 (-(d : Int))]] w (RetWholeR (q) false w) := by
 have cn1 := fun w => nat_c w (n := g1) (by omega)
 have f0 : decide (-(d : Int) ≥ 0) = false := decide_eq_false (by omega)
 have f1 : decide (0 ≤ -(d : Int)) = false := decide_eq_false (by omega)
 have f8 : decide (d = 0) = false := decide_eq_false (by omega)
 have f2 : wrap64 (d : Int) = (d : Int) := wr (by omega) (by omega)
 have f3 : IntKind.i64.wrap (d : Int) = (d : Int) := iwr (by omega) (by omega)
 have f4 : wrap64 (- -(d : Int)) = (d : Int) := by rw [Int.neg_neg]; exact f2
 have f5 : IntKind.i64.wrap (- -(d : Int)) = (d : Int) := by rw [Int.neg_neg]; exact f3
 clear hg hd hd2
 go_enter Tryz.func51, Tryz.ntmps51
 go_upto_region 1 with (fail)
 refine hide1 w (fun W kk0 s0 HE => ?_)
 go_upto_region 16 with (first | (go_at_call 44; (with_reducible refine (cn1 _).mono ?_); rintro e w2 ⟨A1, b1, rfl, hc1, hB1, hb2⟩; have HE2 := HE.call hb2) | (go_at_call 78; (with_reducible refine (c3 _ _ _ hB1 hc1).mono ?_); rintro e w3 ⟨A3, b3, rfl, hc3, hB3, hb3⟩; have HE2 := HE2.call hb3; have hB1' := hB1.below hb3))
 have HX := HE2
 go_quiet (fail)
 go_wp2
 go_ret2
 exact ⟨_, _, rfl, hc3, (by first | exact hB3 | exact hB3.drew | exact hB3.drewN _), (by first | exact HX.2.2.2 | exact (HX.drewN _).2.2.2 | exact HX.drew.2.2.2)⟩
set_option maxRecDepth 100000 in
set_option maxHeartbeats 2000000 in
theorem whole_n201 (k1 : Int) (g1 d q : Nat) (w : World) (hg : g1 < 2 ^ 53) (hd : 1 ≤ d) (hd2 : d ≤ 2000) (c3 : RightC g1 d q false) :
  Calls Tryz.prog 51 #[.int .i64 2, .agg #[.int .i64 k1, .bool true, .int .i64 (g1 : Int), .int .i64 (-(d : Int))]] w (RetWholeR (q) true w) := by
 have cn1 := fun w => nat_c w (n := g1) (by omega)
 have f0 : decide (-(d : Int) ≥ 0) = false := decide_eq_false (by omega)
 have f1 : decide (0 ≤ -(d : Int)) = false := decide_eq_false (by omega)
 have f8 : decide (d = 0) = false := decide_eq_false (by omega)
 have f2 : wrap64 (d : Int) = (d : Int) := wr (by omega) (by omega)
 have f3 : IntKind.i64.wrap (d : Int) = (d : Int) := iwr (by omega) (by omega)
 have f4 : wrap64 (- -(d : Int)) = (d : Int) := by rw [Int.neg_neg]; exact f2
 have f5 : IntKind.i64.wrap (- -(d : Int)) = (d : Int) := by rw [Int.neg_neg]; exact f3
 clear hg hd hd2
 go_enter Tryz.func51, Tryz.ntmps51
 go_upto_region 1 with (fail)
 refine hide1 w (fun W kk0 s0 HE => ?_)
 go_upto_region 16 with (first | (go_at_call 44; (with_reducible refine (cn1 _).mono ?_); rintro e w2 ⟨A1, b1, rfl, hc1, hB1, hb2⟩; have HE2 := HE.call hb2) | (go_at_call 78; (with_reducible refine (c3 _ _ _ hB1 hc1).mono ?_); rintro e w3 ⟨A3, b3, rfl, hc3, hB3, hb3⟩; have HE2 := HE2.call hb3; have hB1' := hB1.below hb3))
 have HX := HE2
 go_quiet (fail)
 go_wp2
 go_ret2
 exact ⟨_, _, rfl, hc3, (by first | exact hB3 | exact hB3.drew | exact hB3.drewN _), (by first | exact HX.2.2.2 | exact (HX.drewN _).2.2.2 | exact HX.drew.2.2.2)⟩
set_option maxRecDepth 100000 in
set_option maxHeartbeats 2000000 in
theorem whole_n210 (k1 : Int) (g1 d q : Nat) (w : World) (hg : g1 < 2 ^ 53) (hd : 1 ≤ d) (hd2 : d ≤ 2000) (c3 : RightC g1 d q true) :
  Calls Tryz.prog 51 #[.int .i64 2, .agg #[.int .i64 k1, .bool false, .int .i64 (g1 : Int), .int .i64 (-(d : Int))]] w (RetWholeR (q) false w) := by
 have cn1 := fun w => nat_c w (n := g1) (by omega)
 have f0 : decide (-(d : Int) ≥ 0) = false := decide_eq_false (by omega)
 have f1 : decide (0 ≤ -(d : Int)) = false := decide_eq_false (by omega)
 have f8 : decide (d = 0) = false := decide_eq_false (by omega)
 have f2 : wrap64 (d : Int) = (d : Int) := wr (by omega) (by omega)
 have f3 : IntKind.i64.wrap (d : Int) = (d : Int) := iwr (by omega) (by omega)
 have f4 : wrap64 (- -(d : Int)) = (d : Int) := by rw [Int.neg_neg]; exact f2
 have f5 : IntKind.i64.wrap (- -(d : Int)) = (d : Int) := by rw [Int.neg_neg]; exact f3
 clear hg hd hd2
 go_enter Tryz.func51, Tryz.ntmps51
 go_upto_region 1 with (fail)
 refine hide1 w (fun W kk0 s0 HE => ?_)
 go_upto_region 16 with (first | (go_at_call 44; (with_reducible refine (cn1 _).mono ?_); rintro e w2 ⟨A1, b1, rfl, hc1, hB1, hb2⟩; have HE2 := HE.call hb2) | (go_at_call 78; (with_reducible refine (c3 _ _ _ hB1 hc1).mono ?_); rintro e w3 ⟨A3, b3, rfl, hc3, hB3, hb3⟩; have HE2 := HE2.call hb3; have hB1' := hB1.below hb3))
 have HX := HE2
 go_quiet (fail)
 go_wp2
 go_ret2
 exact ⟨_, _, rfl, hc3, (by first | exact hB3 | exact hB3.drew | exact hB3.drewN _), (by first | exact HX.2.2.2 | exact (HX.drewN _).2.2.2 | exact HX.drew.2.2.2)⟩
set_option maxRecDepth 100000 in
set_option maxHeartbeats 2000000 in
theorem whole_n211 (k1 : Int) (g1 d q : Nat) (w : World) (hg : g1 < 2 ^ 53) (hd : 1 ≤ d) (hd2 : d ≤ 2000) (c3 : RightC g1 d q true) (c6 : PlusC q) :
  Calls Tryz.prog 51 #[.int .i64 2, .agg #[.int .i64 k1, .bool true, .int .i64 (g1 : Int), .int .i64 (-(d : Int))]] w (RetWholeR (q + 1) true w) := by
 have cn1 := fun w => nat_c w (n := g1) (by omega)
 have f0 : decide (-(d : Int) ≥ 0) = false := decide_eq_false (by omega)
 have f1 : decide (0 ≤ -(d : Int)) = false := decide_eq_false (by omega)
 have f8 : decide (d = 0) = false := decide_eq_false (by omega)
 have f2 : wrap64 (d : Int) = (d : Int) := wr (by omega) (by omega)
 have f3 : IntKind.i64.wrap (d : Int) = (d : Int) := iwr (by omega) (by omega)
 have f4 : wrap64 (- -(d : Int)) = (d : Int) := by rw [Int.neg_neg]; exact f2
 have f5 : IntKind.i64.wrap (- -(d : Int)) = (d : Int) := by rw [Int.neg_neg]; exact f3
 clear hg hd hd2
 go_enter Tryz.func51, Tryz.ntmps51
 go_upto_region 1 with (fail)
 refine hide1 w (fun W kk0 s0 HE => ?_)
 go_upto_region 16 with (first | (go_at_call 44; (with_reducible refine (cn1 _).mono ?_); rintro e w2 ⟨A1, b1, rfl, hc1, hB1, hb2⟩; have HE2 := HE.call hb2) | (go_at_call 78; (with_reducible refine (c3 _ _ _ hB1 hc1).mono ?_); rintro e w3 ⟨A3, b3, rfl, hc3, hB3, hb3⟩; have HE2 := HE2.call hb3; have hB1' := hB1.below hb3) | (go_at_call 77; (with_reducible refine (c6 _ _ _ _ (hB3.alloc _) hc3 (big_lit digs_one)).mono ?_); rintro e w6 ⟨A6, b6, rfl, hc6, hB6, hb6⟩; have HE2 := (HE2.alloc _).call hb6))
 have HX := HE2
 go_quiet (fail)
 go_wp2
 go_ret2
 exact ⟨_, _, rfl, hc6, (by first | exact hB6 | exact hB6.drew | exact hB6.drewN _), (by first | exact HX.2.2.2 | exact (HX.drewN _).2.2.2 | exact HX.drew.2.2.2)⟩
set_option maxRecDepth 100000 in
set_option maxHeartbeats 2000000 in
theorem whole_n300 (k1 : Int) (g1 d q : Nat) (w : World) (hg : g1 < 2 ^ 53) (hd : 1 ≤ d) (hd2 : d ≤ 2000) (c3 : RightC g1 d q false) :
  Calls Tryz.prog 51 #[.int .i64 3, .agg #[.int .i64 k1, .bool false, .int .i64 (g1 : Int), .int .i64 (-(d : Int))]] w (RetWholeR (q) false w) := by
 have cn1 := fun w => nat_c w (n := g1) (by omega)
 have f0 : decide (-(d : Int) ≥ 0) = false := decide_eq_false (by omega)
 have f1 : decide (0 ≤ -(d : Int)) = false := decide_eq_false (by omega)
 have f8 : decide (d = 0) = false := decide_eq_false (by omega)
 have f2 : wrap64 (d : Int) = (d : Int) := wr (by omega) (by omega)
 have f3 : IntKind.i64.wrap (d : Int) = (d : Int) := iwr (by omega) (by omega)
 have f4 : wrap64 (- -(d : Int)) = (d : Int) := by rw [Int.neg_neg]; exact f2
 have f5 : IntKind.i64.wrap (- -(d : Int)) = (d : Int) := by rw [Int.neg_neg]; exact f3
 clear hg hd hd2
 go_enter Tryz.func51, Tryz.ntmps51
 go_upto_region 1 with (fail)
 refine hide1 w (fun W kk0 s0 HE => ?_)
 go_upto_region 16 with (first | (go_at_call 44; (with_reducible refine (cn1 _).mono ?_); rintro e w2 ⟨A1, b1, rfl, hc1, hB1, hb2⟩; have HE2 := HE.call hb2) | (go_at_call 78; (with_reducible refine (c3 _ _ _ hB1 hc1).mono ?_); rintro e w3 ⟨A3, b3, rfl, hc3, hB3, hb3⟩; have HE2 := HE2.call hb3; have hB1' := hB1.below hb3))
 have HX := HE2
 go_quiet (fail)
 go_wp2
 go_ret2
 exact ⟨_, _, rfl, hc3, (by first | exact hB3 | exact hB3.drew | exact hB3.drewN _), (by first | exact HX.2.2.2 | exact (HX.drewN _).2.2.2 | exact HX.drew.2.2.2)⟩
set_option maxRecDepth 100000 in
set_option maxHeartbeats 2000000 in
theorem whole_n301 (k1 : Int) (g1 d q : Nat) (w : World) (hg : g1 < 2 ^ 53) (hd : 1 ≤ d) (hd2 : d ≤ 2000) (c3 : RightC g1 d q false) :
  Calls Tryz.prog 51 #[.int .i64 3, .agg #[.int .i64 k1, .bool true, .int .i64 (g1 : Int), .int .i64 (-(d : Int))]] w (RetWholeR (q) true w) := by
 have cn1 := fun w => nat_c w (n := g1) (by omega)
 have f0 : decide (-(d : Int) ≥ 0) = false := decide_eq_false (by omega)
 have f1 : decide (0 ≤ -(d : Int)) = false := decide_eq_false (by omega)
 have f8 : decide (d = 0) = false := decide_eq_false (by omega)
 have f2 : wrap64 (d : Int) = (d : Int) := wr (by omega) (by omega)
 have f3 : IntKind.i64.wrap (d : Int) = (d : Int) := iwr (by omega) (by omega)
 have f4 : wrap64 (- -(d : Int)) = (d : Int) := by rw [Int.neg_neg]; exact f2
 have f5 : IntKind.i64.wrap (- -(d : Int)) = (d : Int) := by rw [Int.neg_neg]; exact f3
 clear hg hd hd2
 go_enter Tryz.func51, Tryz.ntmps51
 go_upto_region 1 with (fail)
 refine hide1 w (fun W kk0 s0 HE => ?_)
 go_upto_region 16 with (first | (go_at_call 44; (with_reducible refine (cn1 _).mono ?_); rintro e w2 ⟨A1, b1, rfl, hc1, hB1, hb2⟩; have HE2 := HE.call hb2) | (go_at_call 78; (with_reducible refine (c3 _ _ _ hB1 hc1).mono ?_); rintro e w3 ⟨A3, b3, rfl, hc3, hB3, hb3⟩; have HE2 := HE2.call hb3; have hB1' := hB1.below hb3))
 have HX := HE2
 go_quiet (fail)
 go_wp2
 go_ret2
 exact ⟨_, _, rfl, hc3, (by first | exact hB3 | exact hB3.drew | exact hB3.drewN _), (by first | exact HX.2.2.2 | exact (HX.drewN _).2.2.2 | exact HX.drew.2.2.2)⟩
set_option maxRecDepth 100000 in
set_option maxHeartbeats 2000000 in
theorem whole_n310 (k1 : Int) (g1 d q : Nat) (w : World) (hg : g1 < 2 ^ 53) (hd : 1 ≤ d) (hd2 : d ≤ 2000) (c3 : RightC g1 d q true) (c6 : PlusC q) :
  Calls Tryz.prog 51 #[.int .i64 3, .agg #[.int .i64 k1, .bool false, .int .i64 (g1 : Int), .int .i64 (-(d : Int))]] w (RetWholeR (q + 1) false w) := by
 have cn1 := fun w => nat_c w (n := g1) (by omega)
 have f0 : decide (-(d : Int) ≥ 0) = false := decide_eq_false (by omega)
 have f1 : decide (0 ≤ -(d : Int)) = false := decide_eq_false (by omega)
 have f8 : decide (d = 0) = false := decide_eq_false (by omega)
 have f2 : wrap64 (d : Int) = (d : Int) := wr (by omega) (by omega)
 have f3 : IntKind.i64.wrap (d : Int) = (d : Int) := iwr (by omega) (by omega)
 have f4 : wrap64 (- -(d : Int)) = (d : Int) := by rw [Int.neg_neg]; exact f2
 have f5 : IntKind.i64.wrap (- -(d : Int)) = (d : Int) := by rw [Int.neg_neg]; exact f3
 clear hg hd hd2
 go_enter Tryz.func51, Tryz.ntmps51
 go_upto_region 1 with (fail)
 refine hide1 w (fun W kk0 s0 HE => ?_)
 go_upto_region 16 with (first | (go_at_call 44; (with_reducible refine (cn1 _).mono ?_); rintro e w2 ⟨A1, b1, rfl, hc1, hB1, hb2⟩; have HE2 := HE.call hb2) | (go_at_call 78; (with_reducible refine (c3 _ _ _ hB1 hc1).mono ?_); rintro e w3 ⟨A3, b3, rfl, hc3, hB3, hb3⟩; have HE2 := HE2.call hb3; have hB1' := hB1.below hb3) | (go_at_call 77; (with_reducible refine (c6 _ _ _ _ (hB3.alloc _) hc3 (big_lit digs_one)).mono ?_); rintro e w6 ⟨A6, b6, rfl, hc6, hB6, hb6⟩; have HE2 := (HE2.alloc _).call hb6))
 have HX := HE2
 go_quiet (fail)
 go_wp2
 go_ret2
 exact ⟨_, _, rfl, hc6, (by first | exact hB6 | exact hB6.drew | exact hB6.drewN _), (by first | exact HX.2.2.2 | exact (HX.drewN _).2.2.2 | exact HX.drew.2.2.2)⟩
set_option maxRecDepth 100000 in
set_option maxHeartbeats 2000000 in
theorem whole_n311 (k1 : Int) (g1 d q : Nat) (w : World) (hg : g1 < 2 ^ 53) (hd : 1 ≤ d) (hd2 : d ≤ 2000) (c3 : RightC g1 d q true) :
  Calls Tryz.prog 51 #[.int .i64 3, .agg #[.int .i64 k1, .bool true, .int .i64 (g1 : Int), .int .i64 (-(d : Int))]] w (RetWholeR (q) true w) := by
 have cn1 := fun w => nat_c w (n := g1) (by omega)
 have f0 : decide (-(d : Int) ≥ 0) = false := decide_eq_false (by omega)
 have f1 : decide (0 ≤ -(d : Int)) = false := decide_eq_false (by omega)
 have f8 : decide (d = 0) = false := decide_eq_false (by omega)
 have f2 : wrap64 (d : Int) = (d : Int) := wr (by omega) (by omega)
 have f3 : IntKind.i64.wrap (d : Int) = (d : Int) := iwr (by omega) (by omega)
 have f4 : wrap64 (- -(d : Int)) = (d : Int) := by rw [Int.neg_neg]; exact f2
 have f5 : IntKind.i64.wrap (- -(d : Int)) = (d : Int) := by rw [Int.neg_neg]; exact f3
 clear hg hd hd2
 go_enter Tryz.func51, Tryz.ntmps51
 go_upto_region 1 with (fail)
 refine hide1 w (fun W kk0 s0 HE => ?_)
 go_upto_region 16 with (first | (go_at_call 44; (with_reducible refine (cn1 _).mono ?_); rintro e w2 ⟨A1, b1, rfl, hc1, hB1, hb2⟩; have HE2 := HE.call hb2) | (go_at_call 78; (with_reducible refine (c3 _ _ _ hB1 hc1).mono ?_); rintro e w3 ⟨A3, b3, rfl, hc3, hB3, hb3⟩; have HE2 := HE2.call hb3; have hB1' := hB1.below hb3))
 have HX := HE2
 go_quiet (fail)
 go_wp2
 go_ret2
 exact ⟨_, _, rfl, hc3, (by first | exact hB3 | exact hB3.drew | exact hB3.drewN _), (by first | exact HX.2.2.2 | exact (HX.drewN _).2.2.2 | exact HX.drew.2.2.2)⟩
end Go.Proofs.YtmoimcblmmcffaaGreatDoor.NC

namespace Go.Proofs.YtmoimcblmmcffaaGreatDoor.NC
open Go.RowKit Go.Proofs.YtmoimcblmmcffaaGreatDoor.B Go.Proofs.YtmoimcblmmcffaaGreatDoor.N
set_option linter.unusedSimpArgs false
set_option linter.unusedVariables false
theorem half_up (g P : Nat) (hP : 0 < P) : (g + P) / (P * 2) = g / (P * 2) + g / P % 2 := by
 rw [← Nat.div_div_eq_div_mul, ← Nat.div_div_eq_div_mul, Nat.add_div_right _ hP]
 omega
theorem wholeR_c (mode k1 : Int) (n1 : Bool) (g1 : Nat) (x1 : Int) (w : World) (h0 : 0 ≤ mode) (h3 : mode ≤ 3) (hg : g1 < 2 ^ 53) (hx : -1100 ≤ x1) (hx2 : x1 ≤ 1000) :
  Calls Tryz.prog 51 #[.int .i64 mode, .agg #[.int .i64 k1, .bool n1, .int .i64 (g1 : Int), .int .i64 x1]] w (RetWholeR (Fl.wholeN mode n1 g1 x1) n1 w) := by
 by_cases hp : 0 ≤ x1
 ·rw [Fl.whole_pos hp]
  exact whole_pos_c mode k1 n1 g1 x1 w hg hp hx2
 ·obtain ⟨d, hd⟩ : ∃ d : Nat, x1 = -((d + 1 : Nat) : Int) := ⟨(-x1).toNat - 1, by omega⟩
  have hdn : (-x1).toNat = d + 1 := by omega
  have hlen : (digs g1).length ≤ 4 := len4 (s := false) (m := g1) (by simpa [lowN] using hg)
  have hlim : (digs g1).length ≤ Lim := by unfold Lim; omega
  have hq1 : g1 / 2 ^ (d + 1) ≤ g1 := Nat.div_le_self _ _
  have c3 : RightC g1 (d + 1) (g1 / 2 ^ (d + 1)) (g1 % 2 ^ (d + 1) != 0) := fun w A c hB hc => right_c w hB hc hlim (by omega)
  have c4 : RightC g1 d (g1 / 2 ^ d) (g1 % 2 ^ d != 0) := fun w A c hB hc => right_c w hB hc hlim (by omega)
  have c5 : DigitC (g1 / 2 ^ d) ((g1 / 2 ^ d % 65536 : Nat) : Int) := fun w A c hB hc => digit_c w hB hc
  have c6 : PlusC (g1 / 2 ^ (d + 1)) := fun w A c A' hB hc hB' => by
   have h := plus_c w hB hc hB' (c1 := 1) (by rw [digs_one]; exact Nat.le_refl 1) (Nat.le_trans (len_mono hq1) hlim) (by rw [digs_one]; decide)
   rw [digs_one] at h
   exact h
  have hu : (Int.tmod ((g1 / 2 ^ d % 65536 : Nat) : Int) 2 == 1) = decide (g1 / 2 ^ d % 2 = 1) := by
   rw [Int.tmod_eq_emod_of_nonneg (by omega)]
   by_cases h : g1 / 2 ^ d % 2 = 1
   ·rw [decide_eq_true h, beq_iff_eq]; omega
   ·rw [decide_eq_false h, beq_eq_false_iff_ne]; omega
  have hP := half_up g1 (2 ^ d) (Nat.two_pow_pos _)
  rw [← Nat.pow_succ] at hP
  have hm : mode = 0 ∨ mode = 1 ∨ mode = 2 ∨ mode = 3 := by omega
  have hW : Fl.wholeN mode n1 g1 x1 = (if mode = 0 then g1 / 2 ^ (d + 1)
   else if mode = 1 then g1 / 2 ^ (d + 1) + g1 / 2 ^ d % 2
   else if mode = 2 then g1 / 2 ^ (d + 1) + (n1 && g1 % 2 ^ (d + 1) != 0).toNat
   else g1 / 2 ^ (d + 1) + (!n1 && g1 % 2 ^ (d + 1) != 0).toNat) := by
   unfold Fl.wholeN
   rw [if_neg hp, hdn, Nat.add_sub_cancel, hP]
  have hd1 : 1 ≤ d + 1 := by omega
  have hd2 : d + 1 ≤ 2000 := by omega
  rw [hW, hd]
  clear hW hP hdn hlen hlim hq1 hd
  generalize g1 / 2 ^ (d + 1) = q at *
  generalize (g1 % 2 ^ (d + 1) != 0) = rest at *
  rcases hm with rfl | rfl | rfl | rfl
  ·exact whole_n0 k1 n1 g1 (d + 1) q rest w hg hd1 hd2 c3
  ·by_cases hb : g1 / 2 ^ d % 2 = 1
   ·rw [decide_eq_true hb] at hu
    rw [hb]
    exact whole_n11 k1 n1 g1 (d + 1) q rest _ _ w hg hd1 hd2 c3 _ d rfl c4 c5 hu c6
   ·rw [decide_eq_false hb] at hu
    rw [show g1 / 2 ^ d % 2 = 0 from by omega]
    exact whole_n10 k1 n1 g1 (d + 1) q rest _ _ w hg hd1 hd2 c3 _ d rfl c4 c5 hu
  ·cases rest <;> cases n1
   ·exact whole_n200 k1 g1 (d + 1) q w hg hd1 hd2 c3
   ·exact whole_n201 k1 g1 (d + 1) q w hg hd1 hd2 c3
   ·exact whole_n210 k1 g1 (d + 1) q w hg hd1 hd2 c3
   ·exact whole_n211 k1 g1 (d + 1) q w hg hd1 hd2 c3 c6
  ·cases rest <;> cases n1
   ·exact whole_n300 k1 g1 (d + 1) q w hg hd1 hd2 c3
   ·exact whole_n301 k1 g1 (d + 1) q w hg hd1 hd2 c3
   ·exact whole_n310 k1 g1 (d + 1) q w hg hd1 hd2 c3 c6
   ·exact whole_n311 k1 g1 (d + 1) q w hg hd1 hd2 c3
theorem whole_lt {mode : Int} {n : Bool} {m : Nat} {e : Int} (hm : m < 2 ^ 53) (h2 : e ≤ 1000) : ∃ k, k ≤ 1100 ∧ Fl.wholeN mode n m e < 2 ^ k := by
 by_cases hp : 0 ≤ e
 ·rw [Fl.whole_pos hp]
  have h1 : m * 2 ^ e.toNat < 2 ^ 53 * 2 ^ e.toNat := Nat.mul_lt_mul_of_pos_right hm (Nat.two_pow_pos _)
  rw [← Nat.pow_add] at h1
  exact ⟨53 + e.toNat, by omega, h1⟩
 ·have h1 : Fl.wholeN mode n m e ≤ 2 ^ 53 := Fl.whole_half hp (Nat.lt_of_lt_of_le hm (by decide))
  exact ⟨54, by decide, Nat.lt_of_le_of_lt h1 (by decide)⟩
theorem whole_len {mode : Int} {n : Bool} {m : Nat} {e : Int} (hm : m < 2 ^ 53) (h2 : e ≤ 1000) : (digs (Fl.wholeN mode n m e)).length ≤ 1000 := by
 obtain ⟨k, hk, h⟩ := whole_lt (mode := mode) (n := n) hm h2
 have := len_bits h
 omega
def intR (n : Bool) (Q : Nat) : Int × Int := if 40 < N.bits Q then (0, 28) else if -2147483648 ≤ signI n Q ∧ signI n Q ≤ 2147483647 then (signI n Q, 0) else (0, 28)
set_option maxRecDepth 100000 in
set_option maxHeartbeats 4000000 in
theorem toIntR_num (mode : Int) (s : Bool) (a : Nat) (k : Int) (n : Bool) (g : Nat) (e : Int) (Q : Nat) (w : World) (k3 : (k == 3) = false) (k2 : (k == 2) = false) (hQ : (digs Q).length ≤ 1000)
  (c1 : ∀ w, Calls Tryz.prog 37 #[.int .i64 (tv s), .int .u64 (a : Int)] w (Ret (.agg #[.int .i64 k, .bool n, .int .i64 (g : Int), .int .i64 e]) w))
  (cW : ∀ w, Calls Tryz.prog 51 #[.int .i64 mode, .agg #[.int .i64 k, .bool n, .int .i64 (g : Int), .int .i64 e]] w (RetWholeR Q n w)) :
  Calls Tryz.prog 17 #[.int .i64 mode, .int .i64 (tv s), .int .u64 (a : Int)] w (Ret (.tuple #[.int .i64 (intR n Q).1, .int .i64 (intR n Q).2]) w) := by
 have cl : ∀ (w : World) (A : Option Addr) (c : Nat), Big w A Q → (digs Q).length ≤ c → Calls Tryz.prog 52 #[.slice A (digs Q).length c] w (Ret (.int .i64 (N.bits Q : Int)) w) := fun w A c hB hc => length_c w hB hc (by unfold Lim; omega)
 unfold intR
 by_cases h40 : 40 < N.bits Q
 ·rw [if_pos h40]
  have f1 : decide ((40 : Int) < (N.bits Q : Int)) = true := decide_eq_true (by omega)
  have f2 : decide ((N.bits Q : Int) > 40) = true := f1
  generalize N.bits Q = b at *
  clear h40 hQ
  go_enter Tryz.func17, Tryz.ntmps17
  go_upto_region 2 with ((go_at_call 37; (with_reducible refine (c1 _).mono ?_); rintro e w1 ⟨rfl, hb1⟩))
  refine hide1 w (fun W kk0 s0 HE => ?_) (below_end)
  go_wp2_with (first | (go_at_call 51; (with_reducible refine (cW _).mono ?_); rintro e w2 ⟨A1, b1, rfl, hc1, hB1, hb2⟩; have HE2 := HE.call hb2) | (go_at_call 52; (with_reducible refine (cl _ _ _ hB1 hc1).mono ?_); rintro e w3 ⟨rfl, hb3⟩; have HE2 := HE2.call hb3))
  go_ret2
  exact ⟨rfl, Ext.end HE2⟩
 ·rw [if_neg h40]
  have hlt : Q < 2 ^ 40 := by
   by_cases hz : Q = 0
   ·subst hz; decide
   ·have : N.bits Q = Q.log2 + 1 := by unfold N.bits; rw [if_neg hz]
    exact (Nat.log2_lt hz).1 (by omega)
  have hlt2 : Q < 1099511627776 := hlt
  have f1 : decide ((40 : Int) < (N.bits Q : Int)) = false := decide_eq_false (by omega)
  have f2 : decide ((N.bits Q : Int) > 40) = false := f1
  have cI : ∀ (w : World) (A : Option Addr) (c : Nat), Big w A Q → (digs Q).length ≤ c → Calls Tryz.prog 53 #[.slice A (digs Q).length c] w (Ret (.int .i64 (Q : Int)) w) := fun w A c hB hc => int_c w hB hc (by omega)
  have ci : ∀ v w, Calls Tryz.prog 54 #[.int .i64 v] w (Ret (.bool (decide (-2147483648 ≤ v ∧ v ≤ 2147483647))) w) := fun v w => isInteger_c v w
  have hv : wrap64 (-(Q : Int)) = -(Q : Int) := wr (by omega) (by omega)
  generalize N.bits Q = b at *
  clear h40 hQ hlt hlt2
  have hD : ∀ v : Int, (-2147483648 ≤ v ∧ v ≤ 2147483647) ∨ ¬ (-2147483648 ≤ v ∧ v ≤ 2147483647) := fun v => Classical.em _
  cases n
  ·have e1 : signI false Q = (Q : Int) := rfl
   rw [e1]
   rcases hD (Q : Int) with h | h
   all_goals
    first | rw [if_pos h] | rw [if_neg h]
    have ci := fun w => ci (Q : Int) w
    first | rw [decide_eq_true h] at ci | rw [decide_eq_false h] at ci
    clear h hD e1
    go_enter Tryz.func17, Tryz.ntmps17
    go_upto_region 2 with ((go_at_call 37; (with_reducible refine (c1 _).mono ?_); rintro e w1 ⟨rfl, hb1⟩))
    refine hide1 w (fun W kk0 s0 HE => ?_) (below_end)
    go_wp2_with (first | (go_at_call 51; (with_reducible refine (cW _).mono ?_); rintro e w2 ⟨A1, b1, rfl, hc1, hB1, hb2⟩; have HE2 := HE.call hb2) | (go_at_call 52; (with_reducible refine (cl _ _ _ hB1 hc1).mono ?_); rintro e w3 ⟨rfl, hb3⟩; have HE2 := HE2.call hb3; have hB1 := hB1.below hb3) | (go_at_call 53; (with_reducible refine (cI _ _ _ hB1 hc1).mono ?_); rintro e w3 ⟨rfl, hb3⟩; have HE2 := HE2.call hb3) | (go_at_call 54; (with_reducible refine (ci _).mono ?_); rintro e w3 ⟨rfl, hb3⟩; have HE2 := HE2.call hb3))
    go_ret2
    exact ⟨rfl, Ext.end HE2⟩
  ·have e1 : signI true Q = -(Q : Int) := rfl
   rw [e1]
   rcases hD (-(Q : Int)) with h | h
   all_goals
    first | rw [if_pos h] | rw [if_neg h]
    have ci := fun w => ci (-(Q : Int)) w
    first | rw [decide_eq_true h] at ci | rw [decide_eq_false h] at ci
    clear h hD e1
    go_enter Tryz.func17, Tryz.ntmps17
    go_upto_region 2 with ((go_at_call 37; (with_reducible refine (c1 _).mono ?_); rintro e w1 ⟨rfl, hb1⟩))
    refine hide1 w (fun W kk0 s0 HE => ?_) (below_end)
    go_wp2_with (first | (go_at_call 51; (with_reducible refine (cW _).mono ?_); rintro e w2 ⟨A1, b1, rfl, hc1, hB1, hb2⟩; have HE2 := HE.call hb2) | (go_at_call 52; (with_reducible refine (cl _ _ _ hB1 hc1).mono ?_); rintro e w3 ⟨rfl, hb3⟩; have HE2 := HE2.call hb3; have hB1 := hB1.below hb3) | (go_at_call 53; (with_reducible refine (cI _ _ _ hB1 hc1).mono ?_); rintro e w3 ⟨rfl, hb3⟩; have HE2 := HE2.call hb3) | (go_at_call 54; (with_reducible refine (ci _).mono ?_); rintro e w3 ⟨rfl, hb3⟩; have HE2 := HE2.call hb3))
    go_ret2
    exact ⟨rfl, Ext.end HE2⟩
theorem intR_eq {mode : Int} {s : Bool} {a : Nat} {n : Bool} {m : Nat} {e : Int} (h : (fm s).read a = .number n m e) : intR n (Fl.wholeN mode n m e) = intV mode s a := by
 have hi : intV mode s a = if -2147483648 ≤ signI n (Fl.wholeN mode n m e) ∧ signI n (Fl.wholeN mode n m e) ≤ 2147483647 then (signI n (Fl.wholeN mode n m e), 0) else (0, 28) := by unfold intV; rw [h]
 rw [hi]
 unfold intR
 generalize Fl.wholeN mode n m e = Q
 by_cases h40 : 40 < N.bits Q
 ·rw [if_pos h40]
  have hz : Q ≠ 0 := by rintro rfl; exact absurd h40 (by decide)
  have hb : N.bits Q = Q.log2 + 1 := by unfold N.bits; rw [if_neg hz]
  have h1 : 2 ^ Q.log2 ≤ Q := Nat.log2_self_le hz
  have h2 : 2 ^ 40 ≤ 2 ^ Q.log2 := Nat.pow_le_pow_right (by decide) (by omega)
  have h3 : 1099511627776 ≤ Q := Nat.le_trans h2 h1
  rw [if_neg]
  unfold signI
  cases n
  ·simp only [Bool.false_eq_true, if_false]; omega
  ·simp only [if_true]; omega
 ·rw [if_neg h40]
set_option maxRecDepth 100000 in
set_option maxHeartbeats 4000000 in
theorem toIntR_c (mode : Int) (s : Bool) (a : Nat) (w : World) (ha : a < 2 * signN s) (h0 : 0 ≤ mode) (h3 : mode ≤ 3) :
  Calls Tryz.prog 17 #[.int .i64 mode, .int .i64 (tv s), .int .u64 (a : Int)] w (Ret (.tuple #[.int .i64 (intV mode s a).1, .int .i64 (intV mode s a).2]) w) := by
 have c1 := fun w => parts_c s a w (by rw [top_sgn]; exact_mod_cast ha)
 have ht := told s a ha
 clear ha
 have ci : ∀ v w, Calls Tryz.prog 54 #[.int .i64 v] w (Ret (.bool (decide (-2147483648 ≤ v ∧ v ≤ 2147483647))) w) := fun v w => isInteger_c v w
 generalize partsR s a = p at *
 cases ht with
 | nan neg r t n h0' h1 h hr =>
  have hi : intV mode s a = (0, 29) := by unfold intV; rw [hr]
  rw [hi]
  simp only [PP.v] at c1
  clear ci hi hr h h1 h0' h0 h3
  go_enter Tryz.func17, Tryz.ntmps17
  go_upto_region 2 with ((go_at_call 37; (with_reducible refine (c1 _).mono ?_); rintro e w1 ⟨rfl, hb1⟩))
  refine hide1 w (fun W kk0 s0 HE => ?_) (below_end)
  go_wp2
  go_ret2
  exact ⟨rfl, Ext.end HE⟩
 | inf neg h hr =>
  have hi : intV mode s a = (0, 28) := by unfold intV; rw [hr]
  rw [hi]
  simp only [PP.v] at c1
  clear ci hi hr h h0 h3
  go_enter Tryz.func17, Tryz.ntmps17
  go_upto_region 2 with ((go_at_call 37; (with_reducible refine (c1 _).mono ?_); rintro e w1 ⟨rfl, hb1⟩))
  refine hide1 w (fun W kk0 s0 HE => ?_) (below_end)
  go_wp2
  go_ret2
  exact ⟨rfl, Ext.end HE⟩
 | zero neg h hr =>
  simp only [PP.v] at c1
  have hQ : Fl.wholeN mode neg 0 (leastN s) = 0 := Fl.whole_zero _ _ _
  have h2 := intR_eq (mode := mode) hr
  rw [hQ] at h2
  rw [← h2]
  have cW := fun w => wholeR_c mode 0 neg 0 0 w h0 h3 (by decide) (by decide) (by decide)
  rw [Fl.whole_zero] at cW
  exact toIntR_num mode s a 0 neg 0 0 0 w (by decide) (by decide) (by rw [digs_zero]; decide) c1 cW
 | fin neg m e r h0' h1 h hm hm2 he he2 hb hr =>
  simp only [PP.v] at c1
  have hm53 : m < 2 ^ 53 := by cases s <;> simp [lowN] at hm2 <;> omega
  have he' : -1100 ≤ e ∧ e ≤ 1000 := by cases s <;> simp [leastN, mostN] at he he2 <;> omega
  rw [← intR_eq (mode := mode) hr]
  have cW := fun w => wholeR_c mode 1 neg m e w h0 h3 hm53 he'.1 he'.2
  exact toIntR_num mode s a 1 neg m e _ w (by decide) (by decide) (whole_len hm53 he'.2) c1 cW
set_option maxRecDepth 100000 in
set_option maxHeartbeats 4000000 in
theorem wholeOfR_c (mode : Int) (s : Bool) (a : Nat) (w : World) (ha : a < 2 * signN s) (h0 : 0 ≤ mode) (h3 : mode ≤ 3) :
  Calls Tryz.prog 18 #[.int .i64 mode, .int .i64 (tv s), .int .u64 (a : Int)] w (Ret (.int .u64 (wholeV mode s a : Nat)) w) := by
 have c1 := fun w => parts_c s a w (by rw [top_sgn]; exact_mod_cast ha)
 have ht := told s a ha
 clear ha
 have cb := fun p w hp => bits_c s p w hp
 have hwn : (∃ n, partsR s a = ⟨0, n, 0, 0⟩ ∧ wholeV mode s a = bitsR s ⟨0, n, 0, 0⟩) ∨ (∃ n, partsR s a = ⟨2, n, 0, 0⟩ ∧ wholeV mode s a = bitsR s ⟨2, n, 0, 0⟩) ∨ (partsR s a = ⟨3, false, 0, 0⟩ ∧ wholeV mode s a = bitsR s ⟨3, false, 0, 0⟩) ∨ (∃ n m e, partsR s a = ⟨1, n, m, e⟩ ∧ m < 2 ^ 53 ∧ -1100 ≤ e ∧ e ≤ 1000 ∧ wholeV mode s a = roundR s n (Fl.wholeN mode n m e) 0 false) := by
  generalize partsR s a = p at *
  unfold wholeV
  cases ht with
  | nan neg r t n h0' h1 h hr =>
   right; right; left
   rw [hr]
   exact ⟨rfl, (bits_nan s false).symm⟩
  | inf neg h hr =>
   right; left
   rw [hr]
   exact ⟨neg, rfl, (bits_inf s neg).symm⟩
  | zero neg h hr =>
   left
   rw [hr]
   refine ⟨neg, rfl, ?_⟩
   show (fm s).word neg (Fl.rung (fm s) (Fl.wholeN mode neg 0 (leastN s)) 0) = _
   rw [Fl.whole_zero, Fl.rung_zero, bits_zero]
  | fin neg m e r h0' h1 h hm hm2 he he2 hb hr =>
   right; right; right
   rw [hr]
   refine ⟨neg, m, e, rfl, by cases s <;> simp [lowN] at hm2 <;> omega, ?_, ?_, (round_exact s neg _ 0).symm⟩
   ·cases s <;> simp [leastN] at he <;> omega
   ·cases s <;> simp [mostN] at he2 <;> omega
 clear ht
 rcases hwn with ⟨n, hp, hv⟩ | ⟨n, hp, hv⟩ | ⟨hp, hv⟩ | ⟨n, m, e, hp, hm, he, he2, hv⟩
 ·rw [hp] at c1
  rw [hv]
  have cb := fun w => cb ⟨0, n, 0, 0⟩ w (.inl rfl)
  simp only [PP.v, Int.natCast_zero] at c1 cb
  generalize bitsR s ⟨0, n, 0, 0⟩ = R at *
  clear hp hv h0 h3
  go_enter Tryz.func18, Tryz.ntmps18
  go_upto_region 2 with ((go_at_call 37; (with_reducible refine (c1 _).mono ?_); rintro e w1 ⟨rfl, hb1⟩))
  refine hide1 w (fun W kk0 s0 HE => ?_) (below_end)
  go_wp2_with (go_at_call 42; (with_reducible refine (cb _).mono ?_); rintro e w2 ⟨rfl, hb2⟩; have HE2 := HE.call hb2)
  go_ret
  exact ⟨rfl, Ext.end HE2⟩
 ·rw [hp] at c1
  rw [hv]
  have cb := fun w => cb ⟨2, n, 0, 0⟩ w (.inr (.inl rfl))
  simp only [PP.v, Int.natCast_zero] at c1 cb
  generalize bitsR s ⟨2, n, 0, 0⟩ = R at *
  clear hp hv h0 h3
  go_enter Tryz.func18, Tryz.ntmps18
  go_upto_region 2 with ((go_at_call 37; (with_reducible refine (c1 _).mono ?_); rintro e w1 ⟨rfl, hb1⟩))
  refine hide1 w (fun W kk0 s0 HE => ?_) (below_end)
  go_wp2_with (go_at_call 42; (with_reducible refine (cb _).mono ?_); rintro e w2 ⟨rfl, hb2⟩; have HE2 := HE.call hb2)
  go_ret
  exact ⟨rfl, Ext.end HE2⟩
 ·rw [hp] at c1
  rw [hv]
  have cb := fun w => cb ⟨3, false, 0, 0⟩ w (.inr (.inr (.inl rfl)))
  simp only [PP.v, Int.natCast_zero] at c1 cb
  generalize bitsR s ⟨3, false, 0, 0⟩ = R at *
  clear hp hv h0 h3
  go_enter Tryz.func18, Tryz.ntmps18
  go_upto_region 2 with ((go_at_call 37; (with_reducible refine (c1 _).mono ?_); rintro e w1 ⟨rfl, hb1⟩))
  refine hide1 w (fun W kk0 s0 HE => ?_) (below_end)
  go_wp2_with (go_at_call 42; (with_reducible refine (cb _).mono ?_); rintro e w2 ⟨rfl, hb2⟩; have HE2 := HE.call hb2)
  go_ret
  exact ⟨rfl, Ext.end HE2⟩
 ·rw [hp] at c1
  rw [hv]
  simp only [PP.v] at c1
  have cW := fun w => wholeR_c mode 1 n m e w h0 h3 hm he he2
  have cr := fun w A c hB hc => round_c s n (Fl.wholeN mode n m e) 0 false A c w hB hc (whole_len hm he2) (by decide) (by decide)
  generalize roundR s n (Fl.wholeN mode n m e) 0 false = R at *
  generalize Fl.wholeN mode n m e = Q at *
  clear hp hv h0 h3 cb hm he he2
  go_enter Tryz.func18, Tryz.ntmps18
  go_upto_region 2 with ((go_at_call 37; (with_reducible refine (c1 _).mono ?_); rintro e w1 ⟨rfl, hb1⟩))
  refine hide1 w (fun W kk0 s0 HE => ?_) (below_end)
  go_wp2_with (first | (go_at_call 51; (with_reducible refine (cW _).mono ?_); rintro e w2 ⟨A1, b1, rfl, hc1, hB1, hb2⟩; have HE2 := HE.call hb2) | (go_at_call 43; (with_reducible refine (cr _ _ _ hB1 hc1).mono ?_); rintro e w3 ⟨rfl, hb3⟩; have HE2 := HE2.call hb3))
  go_ret
  exact ⟨rfl, Ext.end HE2⟩
end Go.Proofs.YtmoimcblmmcffaaGreatDoor.NC

namespace Go.Proofs.YtmoimcblmmcffaaGreatDoor.NC
open Go.RowKit Go.Proofs.YtmoimcblmmcffaaGreatDoor.B Go.Proofs.YtmoimcblmmcffaaGreatDoor.N
set_option linter.unusedSimpArgs false
set_option linter.unusedVariables false
set_option maxRecDepth 100000 in
set_option maxHeartbeats 4000000 in
theorem law_whole (mode t a : Int) (w : World) (ha : U64 a) : Calls Tryz.prog 4 #[.int .i64 mode, .int .i64 t, .int .u64 a] w (Ret (.bool true) w) := by
 have c1 := awake_c
 have c2 := fun w => ToInteger_c mode t a w ha
 have c3 := fun w => WholeOf_c mode t a w ha
 have c4 := fun w => opErr_c mode 4 w (by decide) (by decide)
 have c5 := fun w => bothErr_c t a w
 unfold toIntV at c2
 unfold wholeOfV at c3
 by_cases hk : kindErrV mode 4 = 0
 ·have he : wholeErrV mode t a = validV t [a] := by unfold wholeErrV; rw [if_pos hk]
  rw [he] at c2 c3
  rw [hk] at c4
  by_cases hv : validV t [a] = 0
  ·obtain ⟨h0, h3⟩ := kindErr_ok hk
   obtain ⟨s, ht, hs, h1⟩ := valid_s1 ha hv
   obtain rfl : t = tv s := ht
   obtain ⟨x, rfl⟩ := Int.eq_ofNat_of_zero_le ha.1
   have hx : x < 2 * signN s := by rw [top_sgn] at h1; exact_mod_cast h1
   have d2 := fun w => toIntR_c mode s x w hx h0 (by omega)
   have d3 := fun w => wholeOfR_c mode s x w hx h0 (by omega)
   rw [hv] at c2 c3 c5
   rw [if_pos rfl, hs, Int.toNat_natCast] at c2 c3
   generalize (wholeV mode s x : Nat) = R at *
   obtain ⟨p, hp⟩ : ∃ p, intV mode s x = p := ⟨_, rfl⟩
   obtain ⟨p1, p2⟩ := p
   rw [hp] at c2 d2
   simp only at c2 c3 d2
   generalize tv s = t at *
   clear ha hk he hv h0 h3 hs h1 hx hp
   go_enter Tryz.func4, Tryz.ntmps4
   go_wp2_with (first | (go_at_call 5; refine (c1 _).mono ?_; rintro e w1 ⟨rfl, hb1⟩; have HE := Ext.next (w0 := w) (W := w) hb1) | (go_at_call 14; refine (c2 _).mono ?_; rintro e w2 ⟨rfl, hb2⟩; have HE := HE.call hb2) | (go_at_call 15; refine (c3 _).mono ?_; rintro e w3 ⟨rfl, hb3⟩; have HE := HE.call hb3) | (go_at_call 16; refine (c4 _).mono ?_; rintro e w4 ⟨rfl, hb4⟩; have HE := HE.call hb4) | (go_at_call 8; refine (c5 _).mono ?_; rintro e w5 ⟨rfl, hb5⟩; have HE := HE.call hb5) | (go_at_call 17; refine (d2 _).mono ?_; rintro e w6 ⟨rfl, hb6⟩; have HE := HE.call hb6) | (go_at_call 18; refine (d3 _).mono ?_; rintro e w7 ⟨rfl, hb7⟩; have HE := HE.call hb7))
   go_ret
   exact ⟨rfl, Ext.end HE⟩
  ·rw [if_neg hv] at c2 c3
   have b1 : (validV t [a] != 0) = true := by simpa using hv
   clear ha hk he hv
   generalize validV t [a] = V at *
   go_enter Tryz.func4, Tryz.ntmps4
   go_wp2_with (first | (go_at_call 5; refine (c1 _).mono ?_; rintro e w1 ⟨rfl, hb1⟩; have HE := Ext.next (w0 := w) (W := w) hb1) | (go_at_call 14; refine (c2 _).mono ?_; rintro e w2 ⟨rfl, hb2⟩; have HE := HE.call hb2) | (go_at_call 15; refine (c3 _).mono ?_; rintro e w3 ⟨rfl, hb3⟩; have HE := HE.call hb3) | (go_at_call 16; refine (c4 _).mono ?_; rintro e w4 ⟨rfl, hb4⟩; have HE := HE.call hb4) | (go_at_call 8; refine (c5 _).mono ?_; rintro e w5 ⟨rfl, hb5⟩; have HE := HE.call hb5))
   go_ret
   exact ⟨rfl, Ext.end HE⟩
 ·have he : wholeErrV mode t a = kindErrV mode 4 := by unfold wholeErrV; rw [if_neg hk]
  rw [he, if_neg hk] at c2 c3
  have b1 : (kindErrV mode 4 != 0) = true := by simpa using hk
  have b2 : (kindErrV mode 4 == 0) = false := by simpa using hk
  clear ha hk he c5
  generalize kindErrV mode 4 = V at *
  go_enter Tryz.func4, Tryz.ntmps4
  go_wp2_with (first | (go_at_call 5; refine (c1 _).mono ?_; rintro e w1 ⟨rfl, hb1⟩; have HE := Ext.next (w0 := w) (W := w) hb1) | (go_at_call 14; refine (c2 _).mono ?_; rintro e w2 ⟨rfl, hb2⟩; have HE := HE.call hb2) | (go_at_call 15; refine (c3 _).mono ?_; rintro e w3 ⟨rfl, hb3⟩; have HE := HE.call hb3) | (go_at_call 16; refine (c4 _).mono ?_; rintro e w4 ⟨rfl, hb4⟩; have HE := HE.call hb4))
  go_ret
  exact ⟨rfl, Ext.end HE⟩
end Go.Proofs.YtmoimcblmmcffaaGreatDoor.NC

namespace Go.Proofs.YtmoimcblmmcffaaGreatDoor.Law
open Go.ChangeShapes Go.WideShapes Go.ChangeAt Go.RowKit
set_option maxRecDepth 100000 in
theorem realsWhole_contract (H : Type) (enc : TypeId × Value → H) (W : World) (base : Nat) (args : Array Value) (ds gs : List (DataW H)) (before : List MemPlace)
  (hval : ∀ (j : Nat) t v, Tryz.f4.params[j]? = some t → args[j]? = some v → Value.okWide Tryz.prog W .any base t v)
  (hW : DataW.Whole enc Tryz.prog Tryz.f4.params.toList Rows.realsWholeSpec.vars false W args.toList ds gs before) :
  Calls Tryz.prog 4 args W fun e W' => ∃ v, e = .returned v ∧ Rows.realsWholeSpec.post enc Tryz.prog Tryz.f4 false true false false W args v W' := by
 have hW' := hW
 obtain ⟨p, q, hA0, hV, rfl, hfz, hnd⟩ := hW
 have hA : DataW.TrodAll enc Tryz.prog W 0 (fun _ => true) true Tryz.f4.params.toList args.toList ds p := hA0
 rw [Tryz.params4] at hA hval
 obtain ⟨v0, vs0, d0, ds0, p0, q0, hargs, rfl, rfl, h0, r0⟩ := trodAll_cons hA
 obtain ⟨v1, vs1, d1, ds1, p1, q1, rfl, rfl, rfl, h1, r1⟩ := trodAll_cons r0
 obtain ⟨v2, vs2, d2, ds2, p2, q2, rfl, rfl, rfl, h2, r2⟩ := trodAll_cons r1
 obtain ⟨rfl, rfl, rfl⟩ := trodAll_nil r2
 obtain rfl : args = #[v0, v1, v2] := by cases args; simp_all
 obtain ⟨rfl, rfl⟩ := trodVars_none hV
 obtain ⟨z0, rfl, rfl, rfl, w0⟩ := open_int Tryz.underlying3 (hval 0 3 v0 rfl rfl) h0
 obtain ⟨z1, rfl, rfl, rfl, w1⟩ := open_int Tryz.underlying3 (hval 1 3 v1 rfl rfl) h1
 obtain ⟨z2, rfl, rfl, rfl, w2⟩ := open_int Tryz.underlying22 (hval 2 22 v2 rfl rfl) h2
 clear hA0
 simp only [List.append_nil] at hW'
 refine (NC.law_whole z0 z1 z2 W (u64_wf w2)).mono fun e W' ⟨he, hg⟩ => ?_
 subst he
 exact ⟨_, rfl, _, _, _, [], [], [], hW', trodAll_mk1 (shut_bool Tryz.underlying4 _), (trodAll_cons_mk (shut_int Tryz.underlying3 w0) (trodAll_cons_mk (shut_int Tryz.underlying3 w1) (trodAll_cons_mk (shut_int Tryz.underlying22 w2) trodAll_mk0))), rfl, hg.frame _, fun h => by cases h⟩
theorem realsWhole_met (os : Os) : laidMet Tryz.prog Rows.realsWholeRow.laid ((laidWorld os).forCall (fun _ _ => 0) ⟨#[], #[Value.int .i64 0, Value.int .i64 0, Value.int .u64 0], []⟩).memory :=
 laidMet_of_run' 8 (by kernel_rfl) (by kernel_rfl)
theorem realsWhole_reads (os : Os) {H : Type} (enc : TypeId × Value → H) : ∃ places, DataW.whole enc Tryz.prog ((laidWorld os).forCall (fun _ _ => 0) ⟨#[], #[Value.int .i64 0, Value.int .i64 0, Value.int .u64 0], []⟩).memory Tryz.f4.params.toList Rows.realsWholeSpec.vars false (#[Value.int .i64 0, Value.int .i64 0, Value.int .u64 0] : Array Value).toList 8 = some ([.lit (.int .i64 0), .lit (.int .i64 0), .lit (.int .u64 0)], [], places) :=
 ⟨[], by kernel_rfl⟩
set_option maxRecDepth 100000 in
theorem realsWhole_lifted (os : Os) (started : os.Started) (H : Type) (enc : TypeId × Value → H) (F : Stop.Interp) :
  ReturnsInHanded {} Tryz.checked os 4 .any ((OpenSpec.ofChange Rows.realsWholeSpec).preRow enc Tryz.prog Tryz.f4 Rows.realsWholeRow.domain false Rows.realsWholeRow.laid) (((OpenSpec.ofChange Rows.realsWholeSpec).at F).post enc Tryz.prog Tryz.f4 false true false false) := by
 obtain ⟨places, hx⟩ := realsWhole_reads os enc
 refine returnsInHanded_of_row (C := Tryz.checked) (s := OpenSpec.ofChange Rows.realsWholeSpec) own started (by kernel_rfl) Tryz.func4
  (witness_row_at (enc := enc) (C := Tryz.checked) false (laidWorld os) #[Value.int .i64 0, Value.int .i64 0, Value.int .u64 0] rfl (by kernel_rfl) (by kernel_rfl) (by kernel_rfl)
   (OpenSpec.preRow_of_cond 8 hx (by kernel_rfl) (fun k hk => by cases hk) (by kernel_rfl) (realsWhole_met os))) ?_
 intro W base args ds gs before hval hW _ _ _ hL _ _
 exact realsWhole_contract H enc W base args ds gs before hval hW
theorem realsWhole_said : Rows.RealsWholeSaid :=
 OpenClaim.holds_of_cond 4 Tryz.f4 rfl rfl rfl rfl rfl rfl rfl ⟨rfl, rfl, rfl, rfl, rfl⟩ rfl rfl rfl rfl rfl (by kernel_rfl) Tryz.func4 (by kernel_rfl)
  (of_decide_eq_true (by kernel_rfl)) (by unfold Func.isWrapper; first | (rw [if_pos (by decide +kernel)]; kernel_rfl) | (rw [if_neg (by decide +kernel)]; exact ⟨rfl, rfl⟩))
  (fun os started H enc _ F => by rw [OpenClaim.pre_eq_preRow]; exact realsWhole_lifted os started H enc F)
theorem realsWhole_plain (f : FuncId) (fn : Func) (hf : Tryz.pinned.checked.prog.funcNamed "formulary/formularylaw08.RealsWhole" = some f) (hfn : Tryz.pinned.checked.prog.funcs[f]? = some fn) :
  false = Tryz.pinned.checked.prog.looks [] ∧ ∀ (j : Nat) t, fn.params[j]? = some t → Tryz.pinned.checked.prog.wantsStandIn t = false := by
 obtain rfl : f = 4 := Option.some.inj ((show Tryz.prog.funcNamed "formulary/formularylaw08.RealsWhole" = some 4 by kernel_rfl).symm.trans hf) |>.symm
 obtain rfl : fn = Tryz.f4 := (Option.some.inj (Tryz.func4.symm.trans hfn)).symm
 refine ⟨by kernel_rfl, fun j t ht => ?_⟩
 rw [Tryz.params4] at ht
 have hm := Array.mem_of_getElem? ht
 simp at hm
 rcases hm with rfl | rfl
 ·exact (show Tryz.prog.wantsStandIn 3 = false by kernel_rfl)
 ·exact (show Tryz.prog.wantsStandIn 22 = false by kernel_rfl)
theorem realsWhole_card : Rows.RealsWholeCardSaid :=
 Claim7.holds_tied_plain_at .later [] _ _ _ _ realsWhole_said (fun _ h => by cases h) (by kernel_rfl) (fun _ h => by cases h) realsWhole_row_tie rfl ⟨rfl, rfl⟩ (by kernel_rfl) rfl realsWhole_plain (by kernel_rfl)
end Go.Proofs.YtmoimcblmmcffaaGreatDoor.Law
