/- Contracts and plain laws that the law ComplexesReal leans on (texts joined by program; what it does not come to is left out). -/
import Derived.Test.YtmoimcblmmcffaaGreatQComplexesRealC
import Derived.Laws.FloatArith
import Derived.Lib.Hide
import Derived.Test.YtmoimcblmmcffaaGreatQComplexesRealF

namespace Fl
open Ieee
set_option linter.unusedSimpArgs false
set_option linter.unusedVariables false
theorem rnd_scale (m k d : Nat) : rnd (m * 2 ^ k) (k + d) = rnd m d := by
 have hK : 0 < 2 ^ k := Nat.two_pow_pos _
 unfold rnd
 have e1 : m * 2 ^ k / 2 ^ (k + d) = m / 2 ^ d := by
  rw [Nat.pow_add, Nat.mul_comm m, Nat.mul_div_mul_left _ _ hK]
 have e2 : m * 2 ^ k % 2 ^ (k + d) = 2 ^ k * (m % 2 ^ d) := by
  rw [Nat.pow_add, Nat.mul_comm m, Nat.mul_mod_mul_left]
 rw [e1, e2, Nat.pow_add]
 generalize 2 ^ k = K at *
 generalize m % 2 ^ d = r
 generalize 2 ^ d = D
 have a1 : (K * D < 2 * (K * r)) ↔ D < 2 * r := by
  rw [show 2 * (K * r) = K * (2 * r) from by rw [Nat.mul_left_comm], Nat.mul_lt_mul_left hK]
 have a2 : (K * D = 2 * (K * r)) ↔ D = 2 * r := by
  rw [show 2 * (K * r) = K * (2 * r) from by rw [Nat.mul_left_comm]]
  exact Nat.mul_right_inj (Nat.pos_iff_ne_zero.1 hK)
 congr 2
 congr 1
 ·exact decide_eq_decide.2 a1
 ·congr 1
  rw [Bool.eq_iff_iff, beq_iff_eq, beq_iff_eq]; exact a2
theorem rnd_exact (m d : Nat) : rnd (m * 2 ^ d) d = m := by
 have := rnd_scale m d 0
 rwa [Nat.add_zero, rnd_zero] at this
theorem log2_mul_pow {m : Nat} (h : m ≠ 0) (k : Nat) : (m * 2 ^ k).log2 = m.log2 + k := by
 have hK : 0 < 2 ^ k := Nat.two_pow_pos _
 have hn : m * 2 ^ k ≠ 0 := by
  intro e; rcases Nat.mul_eq_zero.1 e with e | e <;> omega
 rw [Nat.log2_eq_iff hn]
 have h1 := Nat.log2_self_le h
 have h2 : m < 2 ^ (m.log2 + 1) := Nat.lt_log2_self
 refine ⟨?_, ?_⟩
 ·rw [Nat.pow_add]; exact Nat.mul_le_mul_right _ h1
 ·rw [show m.log2 + k + 1 = (m.log2 + 1) + k from by omega, Nat.pow_add]; exact Nat.mul_lt_mul_of_pos_right h2 hK
def rung (f : Format) (m : Nat) (p : Int) : Nat := if m = 0 then 0 else min ((lastOf f m p - f.leastPlace).toNat * f.binade + keptOf f m p) f.infRung
theorem nearest_rung (f : Format) (neg : Bool) (m : Nat) (p : Int) : f.nearest neg m p = f.word neg (rung f m p) := by
 rw [nearest_eq]; unfold rung
 by_cases h : m = 0
 ·rw [if_pos h, if_pos h]
 ·rw [if_neg h, if_neg h]
theorem rung_zero (f : Format) (p : Int) : rung f 0 p = 0 := rfl
theorem rung_scale (f : Format) (m k : Nat) (p : Int) : rung f (m * 2 ^ k) p = rung f m (p + k) := by
 have hK : 0 < 2 ^ k := Nat.two_pow_pos _
 by_cases h : m = 0
 ·subst h; rw [Nat.zero_mul]; rfl
 have hn : m * 2 ^ k ≠ 0 := by
  intro e; rcases Nat.mul_eq_zero.1 e with e | e <;> omega
 unfold rung
 rw [if_neg h, if_neg hn]
 have hl : lastOf f (m * 2 ^ k) p = lastOf f m (p + k) := by
  unfold lastOf; rw [log2_mul_pow h]; congr 1; omega
 rw [hl]
 congr 2
 unfold keptOf
 rw [hl]
 generalize lastOf f m (p + k) = L
 rw [Nat.shiftLeft_eq, Nat.shiftLeft_eq]
 by_cases c1 : L ≤ p
 ·rw [show (L - p).toNat = 0 from by omega, show (L - (p + k)).toNat = 0 from by omega, rnd_zero, rnd_zero, Nat.mul_assoc, ← Nat.pow_add]
  congr 2; omega
 ·by_cases c2 : L ≤ p + k
  ·rw [show (L - (p + k)).toNat = 0 from by omega, rnd_zero, show (p - L).toNat = 0 from by omega, Nat.pow_zero, Nat.mul_one]
   obtain ⟨u, hu⟩ : ∃ u : Nat, k = u + (L - p).toNat := ⟨k - (L - p).toNat, by omega⟩
   rw [show (p + k - L).toNat = u from by omega]
   rw [show 2 ^ k = 2 ^ u * 2 ^ (L - p).toNat from by rw [← Nat.pow_add, ← hu], ← Nat.mul_assoc, rnd_exact]
  ·rw [show (p - L).toNat = 0 from by omega, show (p + k - L).toNat = 0 from by omega, Nat.pow_zero, Nat.mul_one, Nat.mul_one]
   rw [show (L - p).toNat = k + (L - (p + k)).toNat from by omega, rnd_scale]
theorem rung_same (f : Format) {m n : Nat} {p q b : Int} (h1 : b ≤ p) (h2 : b ≤ q) (h : m * 2 ^ (p - b).toNat = n * 2 ^ (q - b).toNat) : rung f m p = rung f n q := by
 have e1 := rung_scale f m (p - b).toNat b
 have e2 := rung_scale f n (q - b).toNat b
 rw [show b + ((p - b).toNat : Int) = p from by omega] at e1
 rw [show b + ((q - b).toNat : Int) = q from by omega] at e2
 rw [← e1, ← e2, h]
theorem bit_le (b : Bool) : b.toNat ≤ 1 := by cases b <;> decide
theorem sticky_low {n k F : Nat} (h : 2 ^ (F + 1) ≤ sticky n k) : 2 ^ (F + 1 + k) ≤ n := by
 have hP : 0 < 2 ^ (k + 1) := Nat.two_pow_pos _
 unfold sticky at h
 have := bit_le (n % 2 ^ (k + 1) != 0)
 rw [Nat.pow_succ] at h
 have h2 : 2 ^ F ≤ n / 2 ^ (k + 1) := by omega
 have h3 := (Nat.le_div_iff_mul_le hP).1 h2
 rw [← Nat.pow_add] at h3
 rwa [show F + 1 + k = F + (k + 1) from by omega]
theorem log2_sticky {n k F : Nat} (h : 2 ^ (F + 1) ≤ sticky n k) : n.log2 = (sticky n k).log2 + k ∧ F + 1 ≤ (sticky n k).log2 := by
 have h1 := sticky_low h
 have hp : 0 < 2 ^ (F + 1 + k) := Nat.two_pow_pos _
 have hp2 : 0 < 2 ^ (F + 1) := Nat.two_pow_pos _
 have hs0 : sticky n k ≠ 0 := by omega
 have hlg : F + 1 ≤ (sticky n k).log2 := (Nat.le_log2 hs0).2 h
 refine ⟨?_, hlg⟩
 rw [Nat.log2_eq_iff (by omega)]
 have a1 := Nat.log2_self_le hs0
 have a2 : sticky n k < 2 ^ ((sticky n k).log2 + 1) := Nat.lt_log2_self
 generalize (sticky n k).log2 = L at *
 unfold sticky at a1 a2
 have hb := bit_le (n % 2 ^ (k + 1) != 0)
 have hP : 0 < 2 ^ (k + 1) := Nat.two_pow_pos _
 obtain ⟨l, rfl⟩ : ∃ l, L = l + 1 := ⟨L - 1, by omega⟩
 have p1 : 2 ^ (l + 1) = 2 * 2 ^ l := by rw [Nat.pow_succ, Nat.mul_comm]
 have p2 : 2 ^ (l + 1 + 1) = 2 * 2 ^ (l + 1) := by rw [Nat.pow_succ 2 (l + 1), Nat.mul_comm]
 rw [p1] at a1
 rw [p2] at a2
 have b1 : 2 ^ l ≤ n / 2 ^ (k + 1) := by omega
 have b2 : n / 2 ^ (k + 1) < 2 ^ (l + 1) := by omega
 refine ⟨?_, ?_⟩
 ·rw [show l + 1 + k = l + (k + 1) from by omega, Nat.pow_add]
  exact (Nat.le_div_iff_mul_le hP).1 b1
 ·rw [show l + 1 + k + 1 = l + 1 + (k + 1) from by omega, Nat.pow_add 2 (l + 1)]
  exact (Nat.div_lt_iff_lt_mul hP).1 b2
theorem rung_sticky (f : Format) (n k : Nat) (p : Int) (h : 2 ^ (f.fractionBits + 2) ≤ sticky n k) : rung f n p = rung f (sticky n k) (p + k) := by
 obtain ⟨hl, hl2⟩ := log2_sticky h
 have h1 := sticky_low h
 have hp : 0 < 2 ^ (f.fractionBits + 1 + 1 + k) := Nat.two_pow_pos _
 have hp2 : 0 < 2 ^ (f.fractionBits + 2) := Nat.two_pow_pos _
 unfold rung
 rw [if_neg (by omega : ¬ n = 0), if_neg (by omega : ¬ sticky n k = 0)]
 have hL : lastOf f n p = lastOf f (sticky n k) (p + k) := by
  unfold lastOf; rw [hl]; congr 1; omega
 rw [hL]
 congr 2
 unfold keptOf
 rw [hL]
 have hge : p + k + 2 ≤ lastOf f (sticky n k) (p + k) := by
  unfold lastOf
  have : p + k + 2 ≤ p + k + (sticky n k).log2 - f.fractionBits := by omega
  exact Int.le_trans this (Int.le_max_left _ _)
 generalize lastOf f (sticky n k) (p + k) = L at *
 rw [show (p - L).toNat = 0 from by omega, show (p + k - L).toNat = 0 from by omega, Nat.shiftLeft_eq, Nat.shiftLeft_eq, Nat.pow_zero, Nat.mul_one, Nat.mul_one]
 obtain ⟨d, hd⟩ : ∃ d : Nat, (L - (p + k)).toNat = d + 2 := ⟨(L - (p + k)).toNat - 2, by omega⟩
 rw [hd, show (L - p).toNat = k + (d + 2) from by omega]
 exact rnd_sticky n k d
def qs (a b : Nat) : Nat := 2 * (a / b) + (a % b != 0).toNat
theorem toNat_ne (n : Nat) : (n != 0).toNat = if n = 0 then 0 else 1 := by
 by_cases h : n = 0 <;> simp [h]
theorem qs_sticky (a b k : Nat) (hb : 0 < b) : sticky (qs (a * 2 ^ k) b) k = qs a b := by
 have hK : 0 < 2 ^ k := Nat.two_pow_pos _
 unfold sticky qs
 have hQ : a * 2 ^ k / b / 2 ^ k = a / b := by
  rw [Nat.div_div_eq_div_mul, Nat.mul_comm b, Nat.mul_comm a, Nat.mul_div_mul_left _ _ hK]
 rw [show 2 ^ (k + 1) = 2 * 2 ^ k from by rw [Nat.pow_succ, Nat.mul_comm]]
 have hr := bit_le (a * 2 ^ k % b != 0)
 have d1 : (2 * (a * 2 ^ k / b) + (a * 2 ^ k % b != 0).toNat) / (2 * 2 ^ k) = a / b := by
  rw [← Nat.div_div_eq_div_mul, show (2 * (a * 2 ^ k / b) + (a * 2 ^ k % b != 0).toNat) / 2 = a * 2 ^ k / b from by omega, hQ]
 have m1 : (2 * (a * 2 ^ k / b) + (a * 2 ^ k % b != 0).toNat) % (2 * 2 ^ k) = 2 * (a * 2 ^ k / b % 2 ^ k) + (a * 2 ^ k % b != 0).toNat := by
  rw [Nat.mod_mul, show (2 * (a * 2 ^ k / b) + (a * 2 ^ k % b != 0).toNat) / 2 = a * 2 ^ k / b from by omega]; omega
 rw [d1, m1]
 congr 1
 rw [toNat_ne, toNat_ne, toNat_ne]
 have key : (2 * (a * 2 ^ k / b % 2 ^ k) + (if a * 2 ^ k % b = 0 then 0 else 1) = 0) ↔ a % b = 0 := by
  constructor
  ·intro h
   have h1 : a * 2 ^ k % b = 0 := by
    by_cases c : a * 2 ^ k % b = 0
    ·exact c
    ·rw [if_neg c] at h; omega
   have h2 : a * 2 ^ k / b % 2 ^ k = 0 := by rw [if_pos h1] at h; omega
   have e1 := Nat.div_add_mod (a * 2 ^ k) b
   have e2 := Nat.div_add_mod (a * 2 ^ k / b) (2 ^ k)
   rw [h1, Nat.add_zero] at e1
   rw [h2, Nat.add_zero, hQ] at e2
   rw [← e2] at e1
   have e3 : 2 ^ k * (b * (a / b)) = 2 ^ k * a := by rw [← Nat.mul_left_comm, e1, Nat.mul_comm]
   have e4 := Nat.eq_of_mul_eq_mul_left hK e3
   rw [← e4, Nat.mul_mod_right]
  ·intro h
   obtain ⟨c, rfl⟩ := Nat.dvd_of_mod_eq_zero h
   have e1 : b * c * 2 ^ k = b * (c * 2 ^ k) := Nat.mul_assoc ..
   rw [e1, Nat.mul_mod_right, Nat.mul_div_cancel_left _ hb, Nat.mul_mod_left]
   simp
 by_cases c : a % b = 0
 ·rw [if_pos c, if_pos (key.2 c)]
 ·rw [if_neg c, if_neg (fun h => c (key.1 h))]
theorem rung_qs_le (f : Format) (m b k1 k2 : Nat) (p : Int) (hb : 0 < b) (hk : k1 ≤ k2) (h1 : 2 ^ (f.fractionBits + 2) ≤ qs (m * 2 ^ k1) b) :
  rung f (qs (m * 2 ^ k1) b) (p - k1) = rung f (qs (m * 2 ^ k2) b) (p - k2) := by
 obtain ⟨k, rfl⟩ : ∃ k, k2 = k1 + k := ⟨k2 - k1, by omega⟩
 have hs := qs_sticky (m * 2 ^ k1) b k hb
 rw [Nat.mul_assoc, ← Nat.pow_add] at hs
 rw [rung_sticky f (qs (m * 2 ^ (k1 + k)) b) k _ (by rw [hs]; exact h1), hs]
 congr 1; omega
theorem rung_qs (f : Format) (m b k1 k2 : Nat) (p : Int) (hb : 0 < b) (h1 : 2 ^ (f.fractionBits + 2) ≤ qs (m * 2 ^ k1) b) (h2 : 2 ^ (f.fractionBits + 2) ≤ qs (m * 2 ^ k2) b) :
  rung f (qs (m * 2 ^ k1) b) (p - k1) = rung f (qs (m * 2 ^ k2) b) (p - k2) := by
 rcases Nat.le_total k1 k2 with h | h
 ·exact rung_qs_le f m b k1 k2 p hb h h1
 ·exact (rung_qs_le f m b k2 k1 p hb h h2).symm
theorem rung_more (f : Format) (q : Nat) (more : Bool) (e : Int) (h : 2 ^ (f.fractionBits + 1) ≤ q) : rung f (q * 8 + more.toNat) (e - 3) = rung f (2 * q + more.toNat) (e - 1) := by
 have hb := bit_le more
 have hs : sticky (q * 8 + more.toNat) 2 = 2 * q + more.toNat := by
  unfold sticky
  rw [show (2 : Nat) ^ (2 + 1) = 8 from rfl, show (q * 8 + more.toNat) / 8 = q from by omega, show (q * 8 + more.toNat) % 8 = more.toNat from by omega]
  congr 1
  cases more <;> rfl
 have h2 : 2 ^ (f.fractionBits + 2) ≤ sticky (q * 8 + more.toNat) 2 := by
  rw [hs, show f.fractionBits + 2 = f.fractionBits + 1 + 1 from rfl, Nat.pow_succ]; omega
 rw [rung_sticky f _ 2 _ h2, hs]
 congr 1; omega
def IsRt (a q : Nat) : Prop := q * q ≤ a ∧ a < (q + 1) * (q + 1)
def rs (a q : Nat) : Nat := 2 * q + (q * q != a).toNat
theorem sq_lt {a b : Nat} (h : a * a < b * b) : a < b := by
 by_cases c : a < b
 ·exact c
 ·have := Nat.mul_le_mul (Nat.le_of_not_lt c) (Nat.le_of_not_lt c); omega
theorem sq_le {a b : Nat} (h : a * a ≤ b * b) : a ≤ b := by
 by_cases c : a ≤ b
 ·exact c
 ·have c' : b < a := by omega
  have := Nat.mul_lt_mul_of_lt_of_le c' (Nat.le_of_lt c') (by omega : 0 < a)
  omega
theorem isRt_scale {a r R k : Nat} (h : IsRt a r) (H : IsRt (a * 4 ^ k) R) : R / 2 ^ k = r ∧ ((R % 2 ^ k = 0 ∧ R * R = a * 4 ^ k) ↔ r * r = a) := by
 have hK : 0 < 2 ^ k := Nat.two_pow_pos _
 have h4 : (4 : Nat) ^ k = 2 ^ k * 2 ^ k := by rw [← Nat.mul_pow]
 rw [h4] at H ⊢
 generalize 2 ^ k = K at *
 obtain ⟨h1, h2⟩ := h
 obtain ⟨H1, H2⟩ := H
 have a1 : r * K < R + 1 := by
  refine sq_lt (Nat.lt_of_le_of_lt ?_ H2)
  rw [show r * K * (r * K) = r * r * (K * K) from by rw [Nat.mul_mul_mul_comm]]
  exact Nat.mul_le_mul_right _ h1
 have a2 : R < (r + 1) * K := by
  refine sq_lt (Nat.lt_of_le_of_lt H1 ?_)
  rw [show (r + 1) * K * ((r + 1) * K) = (r + 1) * (r + 1) * (K * K) from by rw [Nat.mul_mul_mul_comm]]
  exact Nat.mul_lt_mul_of_pos_right h2 (Nat.mul_pos hK hK)
 have hd : R / K = r := Nat.div_eq_of_lt_le (by omega) a2
 refine ⟨hd, ?_, ?_⟩
 ·rintro ⟨c1, c2⟩
  have e := Nat.div_add_mod R K
  rw [hd, c1, Nat.add_zero] at e
  rw [← e, Nat.mul_mul_mul_comm, Nat.mul_comm a] at c2
  exact Nat.eq_of_mul_eq_mul_left (Nat.mul_pos hK hK) c2
 ·intro c
  have e : R = K * r := by
   have b1 : R * R ≤ (K * r) * (K * r) := by rw [Nat.mul_mul_mul_comm, c, Nat.mul_comm (K * K)]; exact H1
   have := sq_le b1
   rw [Nat.mul_comm] at a1
   omega
  subst e
  refine ⟨Nat.mul_mod_right _ _, ?_⟩
  rw [Nat.mul_mul_mul_comm, c, Nat.mul_comm]
theorem rs_sticky {a r R k : Nat} (h : IsRt a r) (H : IsRt (a * 4 ^ k) R) : sticky (rs (a * 4 ^ k) R) k = rs a r := by
 obtain ⟨hd, hz⟩ := isRt_scale h H
 unfold sticky rs
 rw [show 2 ^ (k + 1) = 2 * 2 ^ k from by rw [Nat.pow_succ, Nat.mul_comm]]
 have hr := bit_le (R * R != a * 4 ^ k)
 rw [← Nat.div_div_eq_div_mul, Nat.mod_mul, show (2 * R + (R * R != a * 4 ^ k).toNat) / 2 = R from by omega, hd]
 congr 1
 have hb : (2 * R + (R * R != a * 4 ^ k).toNat) % 2 = (R * R != a * 4 ^ k).toNat := by omega
 rw [hb]
 by_cases c : r * r = a
 ·obtain ⟨z1, z2⟩ := hz.2 c
  rw [z1, z2, c]; simp
 ·have z : ¬ (R % 2 ^ k = 0 ∧ R * R = a * 4 ^ k) := fun h => c (hz.1 h)
  have e1 : (r * r != a) = true := by simpa using c
  rw [e1]
  by_cases c2 : R * R = a * 4 ^ k
  ·have c3 : R % 2 ^ k ≠ 0 := fun h => z ⟨h, c2⟩
   have : ((R * R != a * 4 ^ k).toNat + 2 * (R % 2 ^ k) != 0) = true := by rw [bne_iff_ne]; omega
   rw [this]
  ·have : (R * R != a * 4 ^ k) = true := by simpa using c2
   rw [this]; simp
theorem rung_rs_le (f : Format) (a k1 k2 r1 r2 : Nat) (p : Int) (hk : k1 ≤ k2) (h1 : IsRt (a * 4 ^ k1) r1) (h2 : IsRt (a * 4 ^ k2) r2) (hb : 2 ^ (f.fractionBits + 2) ≤ rs (a * 4 ^ k1) r1) :
  rung f (rs (a * 4 ^ k1) r1) (p - k1) = rung f (rs (a * 4 ^ k2) r2) (p - k2) := by
 obtain ⟨k, rfl⟩ : ∃ k, k2 = k1 + k := ⟨k2 - k1, by omega⟩
 rw [Nat.pow_add 4, ← Nat.mul_assoc] at h2
 have hs := rs_sticky h1 h2
 rw [Nat.pow_add 4, ← Nat.mul_assoc, rung_sticky f (rs (a * 4 ^ k1 * 4 ^ k) r2) k _ (by rw [hs]; exact hb), hs]
 congr 1; omega
theorem rung_rs (f : Format) (a k1 k2 r1 r2 : Nat) (p : Int) (h1 : IsRt (a * 4 ^ k1) r1) (h2 : IsRt (a * 4 ^ k2) r2) (hb : 2 ^ (f.fractionBits + 2) ≤ rs (a * 4 ^ k1) r1) (hb2 : 2 ^ (f.fractionBits + 2) ≤ rs (a * 4 ^ k2) r2) :
  rung f (rs (a * 4 ^ k1) r1) (p - k1) = rung f (rs (a * 4 ^ k2) r2) (p - k2) := by
 rcases Nat.le_total k1 k2 with h | h
 ·exact rung_rs_le f a k1 k2 r1 r2 p h h1 h2 hb
 ·exact (rung_rs_le f a k2 k1 r2 r1 p h h2 h1 hb2).symm
theorem rootFrom_is (n : Nat) : ∀ (t r : Nat), r * r ≤ n → n < (r + 2 ^ t) * (r + 2 ^ t) → IsRt n (Datum.rootFrom n t r)
 | 0, r, h1, h2 => ⟨h1, h2⟩
 | t + 1, r, h1, h2 => by
  unfold Datum.rootFrom
  simp only [Nat.shiftLeft_eq, Nat.one_mul]
  by_cases c : (r + 2 ^ t) * (r + 2 ^ t) ≤ n
  ·rw [if_pos c]
   exact rootFrom_is n t _ c (by rw [Nat.add_assoc, show 2 ^ t + 2 ^ t = 2 ^ (t + 1) from by rw [Nat.pow_succ]; omega]; exact h2)
  ·rw [if_neg c]
   exact rootFrom_is n t r h1 (by omega)
theorem root_is (n : Nat) : IsRt n (Datum.rootFrom n (n.log2 / 2 + 1) 0) := by
 refine rootFrom_is n _ 0 (Nat.zero_le _) ?_
 rw [Nat.zero_add, ← Nat.pow_add]
 have : n < 2 ^ (n.log2 + 1) := Nat.lt_log2_self
 exact Nat.lt_of_lt_of_le this (Nat.pow_le_pow_right (by decide) (by omega))
end Fl

namespace Fl
open Ieee
set_option linter.unusedSimpArgs false
set_option linter.unusedVariables false
theorem rnd_parts (Q c d : Nat) (hc : c < 2 ^ d) : rnd (Q * 2 ^ d + c) d = if 2 * c < 2 ^ d then Q else if 2 * c = 2 ^ d then Q + Q % 2 else Q + 1 := by
 have hF : 0 < 2 ^ d := Nat.two_pow_pos _
 unfold rnd
 rw [Nat.add_comm (Q * 2 ^ d), Nat.add_mul_div_right _ _ hF, Nat.div_eq_of_lt hc, Nat.zero_add, Nat.add_mul_mod_self_right, Nat.mod_eq_of_lt hc]
 generalize 2 ^ d = F at *
 by_cases h1 : 2 * c < F
 ·rw [if_pos h1, decide_eq_false (by omega : ¬ F < 2 * c), show (F == 2 * c) = false from by simp; omega]
  simp
 ·rw [if_neg h1]
  by_cases h2 : 2 * c = F
  ·rw [if_pos h2, decide_eq_false (by omega : ¬ F < 2 * c), show (F == 2 * c) = true from by simp [h2]]
   rcases Nat.mod_two_eq_zero_or_one Q with h | h <;> simp [h]
  ·rw [if_neg h2, decide_eq_true (by omega : F < 2 * c)]
   simp
theorem rnd_split (n d : Nat) : n = n / 2 ^ d * 2 ^ d + n % 2 ^ d ∧ n % 2 ^ d < 2 ^ d := ⟨by rw [Nat.mul_comm]; exact (Nat.div_add_mod _ _).symm, Nat.mod_lt _ (Nat.two_pow_pos _)⟩
theorem rnd_twice (S D e : Nat) (he : 0 < e) (h : rnd S D % 2 ^ e ≠ 2 ^ (e - 1) ∨ S = rnd S D * 2 ^ D) : rnd (rnd S D) e = rnd S (D + e) := by
 by_cases hx : S = rnd S D * 2 ^ D
 ·conv => rhs; rw [hx]
  exact (rnd_scale _ _ _).symm
 have h' : rnd S D % 2 ^ e ≠ 2 ^ (e - 1) := h.elim id (fun h => absurd h hx)
 clear h
 obtain ⟨a1, a2⟩ := rnd_split S D
 obtain ⟨b1, b2⟩ := rnd_split (S / 2 ^ D) e
 have hT := rnd_parts (S / 2 ^ D) (S % 2 ^ D) D a2
 rw [← a1] at hT
 generalize hr : S % 2 ^ D = r at *
 generalize hs : S / 2 ^ D = s at *
 generalize hQ : s / 2 ^ e = Q at *
 generalize hc : s % 2 ^ e = c at *
 have hS : S = Q * 2 ^ (D + e) + (c * 2 ^ D + r) := by
  rw [a1, b1, Nat.pow_add, Nat.add_mul, Nat.mul_assoc, Nat.mul_comm (2 ^ e), Nat.add_assoc]
 have hD : 0 < 2 ^ D := Nat.two_pow_pos _
 have hE : 2 ^ e = 2 * 2 ^ (e - 1) := by
  obtain ⟨k, rfl⟩ : ∃ k, e = k + 1 := ⟨e - 1, by omega⟩
  rw [Nat.pow_succ, Nat.add_sub_cancel, Nat.mul_comm]
 have hcr : c * 2 ^ D + r < 2 ^ (D + e) := by
  have : (c + 1) * 2 ^ D ≤ 2 ^ e * 2 ^ D := Nat.mul_le_mul_right _ b2
  rw [Nat.add_mul, Nat.one_mul] at this
  rw [Nat.pow_add, Nat.mul_comm (2 ^ D)]; omega
 have hP : 2 ^ (D + e) = 2 * (2 ^ (e - 1) * 2 ^ D) := by rw [Nat.pow_add, hE, Nat.mul_comm (2 ^ D), Nat.mul_assoc]
 have hR := rnd_parts Q _ _ hcr
 rw [← hS, hP] at hR
 rw [hR]
 clear hR
 generalize rnd S D = T at *
 obtain ⟨u, hu, hu1⟩ : ∃ u, T = s + u ∧ ((u = 0 ∧ (0 < c ∨ True)) ∨ (u = 1 ∧ 0 < r)) := by
  by_cases c1 : 2 * r < 2 ^ D
  ·rw [if_pos c1] at hT; exact ⟨0, by omega, .inl ⟨rfl, .inr trivial⟩⟩
  ·rw [if_neg c1] at hT
   by_cases c2 : 2 * r = 2 ^ D
   ·rw [if_pos c2] at hT
    rcases Nat.mod_two_eq_zero_or_one s with h | h
    ·exact ⟨0, by omega, .inl ⟨rfl, .inr trivial⟩⟩
    ·exact ⟨1, by omega, .inr ⟨rfl, by omega⟩⟩
   ·rw [if_neg c2] at hT; exact ⟨1, by omega, .inr ⟨rfl, by omega⟩⟩
 have hTu : T = Q * 2 ^ e + (c + u) := by omega
 generalize 2 ^ (e - 1) = H at *
 generalize 2 ^ D = P at *
 by_cases k1 : c + u < H
 ·have hlt : (c + 1) * P ≤ H * P := Nat.mul_le_mul_right _ (by omega)
  rw [Nat.add_mul, Nat.one_mul] at hlt
  rw [if_pos (by omega), hTu, rnd_parts _ _ _ (by omega), if_pos (by omega)]
 ·by_cases k2 : c + u = H
  ·exfalso
   apply h'
   rw [hTu, Nat.add_comm, Nat.add_mul_mod_self_right, Nat.mod_eq_of_lt (by omega), k2]
  ·have hgt : H * P < c * P + r := by
    rcases hu1 with ⟨hu0, -⟩ | ⟨hu0, hr0⟩
    ·have : (H + 1) * P ≤ c * P := Nat.mul_le_mul_right _ (by omega)
     rw [Nat.add_mul, Nat.one_mul] at this; omega
    ·have : H * P ≤ c * P := Nat.mul_le_mul_right _ (by omega)
     omega
   rw [if_neg (by omega), if_neg (by omega)]
   by_cases k3 : c + u < 2 ^ e
   ·rw [hTu, rnd_parts _ _ _ k3, if_neg (by omega), if_neg (by omega)]
   ·have : c + u = 2 ^ e := by rcases hu1 with ⟨hu0, -⟩ | ⟨hu0, -⟩ <;> omega
    rw [hTu, this, show Q * 2 ^ e + 2 ^ e = (Q + 1) * 2 ^ e from by rw [Nat.add_mul, Nat.one_mul], rnd_exact]
theorem sq_gap (y k : Nat) : (y + k) * (y + k) = y * y + k * (k + 2 * y) := by
 have e : k * (2 * y) = 2 * (y * k) := by rw [Nat.mul_left_comm, Nat.mul_comm k]
 simp only [Nat.add_mul, Nat.mul_add, Nat.mul_comm k y, e]; omega
theorem near_middle (P M S X t c : Nat) (hP : 2 ≤ P) (hM : M = t * (268435456 * P)) (hX : X = c * (268435456 * P * (268435456 * P))) (hd : S ≤ M → 2 * (M - S) ≤ P) (hd2 : M ≤ S → 2 * (S - M) ≤ P) (hS : S < 9007199254740992 * P)
  (h : S * S = X ∨ (1 ≤ S ∧ (S - 1) * (S - 1) < X ∧ X < (S + 1) * (S + 1))) : S = M := by
 have hMM : M * M = t * t * (268435456 * P * (268435456 * P)) := by rw [hM, Nat.mul_mul_mul_comm]
 have hU : 268435456 * P * (268435456 * P) = 72057594037927936 * (P * P) := by rw [Nat.mul_mul_mul_comm]
 have hPP : 0 < P * P := Nat.mul_pos (by omega) (by omega)
 rcases Nat.lt_trichotomy X (M * M) with hl | hl | hl
 ·exfalso
  have hc : X + 268435456 * P * (268435456 * P) ≤ M * M := by
   rw [hX, hMM] at *
   have : c < t * t := Nat.lt_of_mul_lt_mul_right hl
   have := Nat.mul_le_mul_right (268435456 * P * (268435456 * P)) (Nat.succ_le_of_lt this)
   rw [Nat.succ_mul] at this
   exact this
  have hlow : (S - 1) * (S - 1) ≤ X := by
   rcases h with h | ⟨_, h, _⟩
   ·rw [← h]; exact Nat.mul_le_mul (by omega) (by omega)
   ·omega
  have hlt : S - 1 < M := sq_lt (by omega)
  obtain ⟨g, hg⟩ : ∃ g, M = (S - 1) + g := ⟨M - (S - 1), by omega⟩
  have hgP : g ≤ P := by
   by_cases c : S ≤ M
   ·have := hd c; omega
   ·have := hd2 (by omega); omega
  have e := sq_gap (S - 1) g
  rw [← hg] at e
  have hb : g * (g + 2 * (S - 1)) ≤ P * (36028797018963968 * P) := Nat.mul_le_mul hgP (by omega)
  rw [Nat.mul_left_comm] at hb
  omega
 ·rcases h with h | ⟨h1, h2, h3⟩
  ·have a := sq_le (Nat.le_of_eq (h.trans hl)); have b := sq_le (Nat.le_of_eq (h.trans hl).symm); omega
  ·rw [hl] at h2 h3
   have a := sq_lt h2; have b := sq_lt h3; omega
 ·exfalso
  have hc : M * M + 268435456 * P * (268435456 * P) ≤ X := by
   rw [hX, hMM] at *
   have : t * t < c := Nat.lt_of_mul_lt_mul_right hl
   have := Nat.mul_le_mul_right (268435456 * P * (268435456 * P)) (Nat.succ_le_of_lt this)
   rw [Nat.succ_mul] at this
   exact this
  have hup : X ≤ (S + 1) * (S + 1) := by
   rcases h with h | ⟨_, _, h⟩
   ·rw [← h]; exact Nat.mul_le_mul (by omega) (by omega)
   ·omega
  have hlt : M < S + 1 := sq_lt (by omega)
  obtain ⟨g, hg⟩ : ∃ g, S + 1 = M + g := ⟨S + 1 - M, by omega⟩
  have hgP : g ≤ P := by have := hd2 (by omega); omega
  have e := sq_gap M g
  rw [← hg] at e
  have hb : g * (g + 2 * M) ≤ P * (36028797018963968 * P) := Nat.mul_le_mul hgP (by omega)
  rw [Nat.mul_left_comm] at hb
  omega
theorem root_middle (a K R D : Nat) (h : IsRt (a * 4 ^ K) R) (hK : D + 27 ≤ K) (hD : 1 ≤ D) (hS : rs (a * 4 ^ K) R < 2 ^ (D + 53)) :
  rnd (rs (a * 4 ^ K) R) D % 2 ^ 29 ≠ 2 ^ (29 - 1) ∨ rs (a * 4 ^ K) R = rnd (rs (a * 4 ^ K) R) D * 2 ^ D := by
 by_cases hm : rnd (rs (a * 4 ^ K) R) D % 2 ^ 29 = 2 ^ (29 - 1)
 ·right
  obtain ⟨s1, s2⟩ := rnd_split (rs (a * 4 ^ K) R) D
  have hT := rnd_parts (rs (a * 4 ^ K) R / 2 ^ D) (rs (a * 4 ^ K) R % 2 ^ D) D s2
  rw [← s1] at hT
  have hX : 4 * (a * 4 ^ K) = 4 * a * 4 ^ (K - (28 + D)) * (268435456 * 2 ^ D * (268435456 * 2 ^ D)) ∨ K = D + 27 := by
   by_cases c : K = D + 27
   ·exact .inr c
   ·left
    have e1 : 268435456 * 2 ^ D * (268435456 * 2 ^ D) = 4 ^ (28 + D) := by
     rw [show (268435456 : Nat) = 2 ^ 28 from rfl, ← Nat.pow_add, ← Nat.mul_pow]
    rw [e1, Nat.mul_assoc (4 * a), ← Nat.pow_add, show K - (28 + D) + (28 + D) = K from by omega, Nat.mul_assoc]
  have hX' : ∃ c, 4 * (a * 4 ^ K) = c * (268435456 * 2 ^ D * (268435456 * 2 ^ D)) := by
   rcases hX with h | h
   ·exact ⟨_, h⟩
   ·refine ⟨a, ?_⟩
    have e1 : 268435456 * 2 ^ D * (268435456 * 2 ^ D) = 4 ^ (28 + D) := by
     rw [show (268435456 : Nat) = 2 ^ 28 from rfl, ← Nat.pow_add, ← Nat.mul_pow]
    rw [e1, h, show 28 + D = D + 27 + 1 from by omega, Nat.pow_succ 4 (D + 27), Nat.mul_left_comm, Nat.mul_comm 4]
  clear hX
  obtain ⟨c, hX⟩ := hX'
  have hrt : rs (a * 4 ^ K) R * rs (a * 4 ^ K) R = 4 * (a * 4 ^ K) ∨ (1 ≤ rs (a * 4 ^ K) R ∧ (rs (a * 4 ^ K) R - 1) * (rs (a * 4 ^ K) R - 1) < 4 * (a * 4 ^ K) ∧ 4 * (a * 4 ^ K) < (rs (a * 4 ^ K) R + 1) * (rs (a * 4 ^ K) R + 1)) := by
   obtain ⟨h1, h2⟩ := h
   unfold rs
   generalize a * 4 ^ K = A at *
   by_cases e : R * R = A
   ·left
    rw [show (R * R != A) = false from by simpa using e]
    simp only [Bool.toNat_false, Nat.add_zero]
    rw [Nat.mul_mul_mul_comm, e]
   ·right
    rw [show (R * R != A) = true from by simpa using e]
    simp only [Bool.toNat_true]
    refine ⟨by omega, ?_, ?_⟩
    ·rw [Nat.add_sub_cancel, Nat.mul_mul_mul_comm]; omega
    ·rw [show 2 * R + 1 + 1 = 2 * (R + 1) from by omega, Nat.mul_mul_mul_comm]; omega
  have hpow : 2 ^ (D + 53) = 9007199254740992 * 2 ^ D := by rw [Nat.pow_add, Nat.mul_comm]
  rw [hpow] at hS
  have hP : 2 ≤ 2 ^ D := Nat.pow_le_pow_right (n := 2) (i := 1) (by decide) hD
  generalize rnd (rs (a * 4 ^ K) R) D = T at *
  generalize rs (a * 4 ^ K) R / 2 ^ D = s at *
  generalize rs (a * 4 ^ K) R % 2 ^ D = r at *
  generalize rs (a * 4 ^ K) R = S at *
  generalize 4 * (a * 4 ^ K) = X at *
  generalize 2 ^ D = P at *
  have ht : ∃ t, T = t * 268435456 := ⟨T / 268435456, by
   have e := Nat.div_add_mod T (2 ^ 29)
   rw [hm] at e
   omega⟩
  obtain ⟨t, ht⟩ := ht
  have hsP : (s + 1) * P = s * P + P := by rw [Nat.add_mul, Nat.one_mul]
  refine near_middle P (T * P) S X t c hP (by rw [ht, Nat.mul_assoc]) hX ?_ ?_ hS hrt
  ·intro hle
   by_cases c1 : 2 * r < P
   ·rw [if_pos c1] at hT; subst hT; omega
   ·rw [if_neg c1] at hT
    by_cases c2 : 2 * r = P
    ·rw [if_pos c2] at hT
     rcases Nat.mod_two_eq_zero_or_one s with h | h <;> rw [h] at hT <;> subst hT <;> (try simp only [Nat.add_zero] at *) <;> omega
    ·rw [if_neg c2] at hT; subst hT; omega
  ·intro hle
   by_cases c1 : 2 * r < P
   ·rw [if_pos c1] at hT; subst hT; omega
   ·rw [if_neg c1] at hT
    by_cases c2 : 2 * r = P
    ·rw [if_pos c2] at hT
     rcases Nat.mod_two_eq_zero_or_one s with h | h <;> rw [h] at hT <;> subst hT <;> (try simp only [Nat.add_zero] at *) <;> omega
    ·rw [if_neg c2] at hT; subst hT; omega
 ·exact .inl hm
end Fl

namespace Fl
open Ieee
set_option linter.unusedSimpArgs false
set_option linter.unusedVariables false
theorem rnd_mono {m n : Nat} (h : m ≤ n) (d : Nat) : rnd m d ≤ rnd n d := by
 have hF : 0 < 2 ^ d := Nat.two_pow_pos _
 unfold rnd
 have h1 : m / 2 ^ d ≤ n / 2 ^ d := Nat.div_le_div_right h
 have e1 := Nat.div_add_mod m (2 ^ d)
 have e2 := Nat.div_add_mod n (2 ^ d)
 have l1 := Nat.mod_lt m hF
 have l2 := Nat.mod_lt n hF
 generalize 2 ^ d = F at *
 generalize m / F = a at *
 generalize n / F = b at *
 generalize m % F = r at *
 generalize n % F = t at *
 rcases Nat.lt_or_eq_of_le h1 with h2 | h2
 ·have := bit_le (decide (F < 2 * r) || F == 2 * r && a % 2 == 1)
  omega
 ·subst h2
  have hrt : r ≤ t := by omega
  refine Nat.add_le_add_left ?_ _
  by_cases c1 : F < 2 * r
  ·rw [decide_eq_true c1, decide_eq_true (by omega : F < 2 * t)]; simp
  ·by_cases c2 : F = 2 * r
   ·by_cases c3 : F < 2 * t
    ·rw [decide_eq_true c3]; exact bit_le _
    ·rw [show t = r from by omega]; exact Nat.le_refl _
   ·rw [decide_eq_false c1, show (F == 2 * r) = false from by simpa using c2]
    simp
theorem rnd_le {m d B : Nat} (h : m ≤ B * 2 ^ d) : rnd m d ≤ B := by
 have := rnd_mono h d
 rwa [rnd_exact] at this
theorem le_rnd {m d B : Nat} (h : B * 2 ^ d ≤ m) : B ≤ rnd m d := by
 have := rnd_mono h d
 rwa [rnd_exact] at this
theorem kept_range (f : Format) {m : Nat} (hm : m ≠ 0) (p : Int) : keptOf f m p ≤ 2 * f.binade ∧ (f.leastPlace < lastOf f m p → f.binade ≤ keptOf f m p) := by
 have h1 := Nat.log2_self_le hm
 have h2 : m < 2 ^ (m.log2 + 1) := Nat.lt_log2_self
 unfold keptOf
 have hL : p + m.log2 - f.fractionBits ≤ lastOf f m p := Int.le_max_left _ _
 have hL2 : f.leastPlace < lastOf f m p → lastOf f m p = p + m.log2 - f.fractionBits := by unfold lastOf; omega
 generalize lastOf f m p = L at *
 generalize m.log2 = l at *
 unfold Format.binade
 rw [Nat.shiftLeft_eq]
 rw [show 2 * 2 ^ f.fractionBits = 2 ^ (f.fractionBits + 1) from by rw [Nat.pow_succ, Nat.mul_comm]]
 constructor
 ·refine rnd_le ?_
  have a1 : m * 2 ^ (p - L).toNat ≤ 2 ^ (l + 1) * 2 ^ (p - L).toNat := Nat.mul_le_mul_right _ (by omega)
  refine Nat.le_trans a1 ?_
  rw [← Nat.pow_add, ← Nat.pow_add]
  exact Nat.pow_le_pow_right (by decide) (by omega)
 ·intro hlt
  have e := hL2 hlt
  refine le_rnd ?_
  have a1 : 2 ^ l * 2 ^ (p - L).toNat ≤ m * 2 ^ (p - L).toNat := Nat.mul_le_mul_right _ h1
  refine Nat.le_trans ?_ a1
  rw [← Nat.pow_add, ← Nat.pow_add]
  exact Nat.pow_le_pow_right (by decide) (by omega)
theorem last_ge (f : Format) (m : Nat) (p : Int) : f.leastPlace ≤ lastOf f m p := Int.le_max_right _ _
theorem rung_le (f : Format) (m : Nat) (p : Int) : rung f m p ≤ f.infRung := by
 unfold rung
 by_cases h : m = 0
 ·rw [if_pos h]; exact Nat.zero_le _
 ·rw [if_neg h]; exact Nat.min_le_right _ _
def V (f : Format) (r : Nat) : Nat := if r < f.binade then r else (f.binade + r % f.binade) * 2 ^ (r / f.binade - 1)
theorem V_succ (f : Format) (r : Nat) : V f r < V f (r + 1) := by
 have hb := binade_pos f
 unfold V
 by_cases h1 : r + 1 < f.binade
 ·rw [if_pos h1, if_pos (by omega)]; omega
 ·rw [if_neg h1]
  by_cases h2 : r < f.binade
  ·rw [if_pos h2]
   have e : r + 1 = f.binade := by omega
   rw [e, Nat.mod_self, Nat.div_self hb]; simp; omega
  ·rw [if_neg h2]
   have q1 : 1 ≤ r / f.binade := (Nat.le_div_iff_mul_le hb).2 (by omega)
   have e1 := Nat.div_add_mod r f.binade
   have l1 := Nat.mod_lt r hb
   obtain ⟨q, hq⟩ : ∃ q, r / f.binade = q + 1 := ⟨r / f.binade - 1, by omega⟩
   generalize r % f.binade = t at *
   rw [hq] at e1 ⊢
   by_cases h3 : t + 1 = f.binade
   ·have e2 : r + 1 = f.binade * (q + 2) := by rw [Nat.mul_add] at e1 ⊢; omega
    rw [e2, Nat.mul_mod_right, Nat.mul_div_cancel_left _ hb]
    simp only [Nat.add_sub_cancel, Nat.add_zero]
    rw [show q + 2 - 1 = q + 1 from rfl, Nat.pow_succ, Nat.mul_comm (2 ^ q), ← Nat.mul_assoc]
    exact Nat.mul_lt_mul_of_pos_right (by omega) (Nat.two_pow_pos _)
   ·have e2 : r + 1 = f.binade * (q + 1) + (t + 1) := by omega
    have d1 : (r + 1) / f.binade = q + 1 := by rw [e2, Nat.mul_add_div hb, Nat.div_eq_of_lt (by omega)]
    have m1 : (r + 1) % f.binade = t + 1 := by rw [e2, Nat.mul_add_mod, Nat.mod_eq_of_lt (by omega)]
    rw [d1, m1]
    exact Nat.mul_lt_mul_of_pos_right (by omega) (Nat.two_pow_pos _)
theorem V_lt (f : Format) {r t : Nat} (h : r < t) : V f r < V f t := by
 obtain ⟨k, rfl⟩ : ∃ k, t = r + 1 + k := ⟨t - r - 1, by omega⟩
 induction k with
 | zero => exact V_succ f r
 | succ k ih => exact Nat.lt_trans (ih (by omega)) (V_succ f _)
theorem V_zero (f : Format) : V f 0 = 0 := by unfold V; rw [if_pos (binade_pos f)]
theorem V_cmp (f : Format) (r t : Nat) : (V f r < V f t ↔ r < t) ∧ (V f r = V f t ↔ r = t) := by
 rcases Nat.lt_trichotomy r t with h | h | h
 ·have := V_lt f h; constructor <;> constructor <;> intro <;> omega
 ·subst h; constructor <;> constructor <;> intro <;> omega
 ·have := V_lt f h; constructor <;> constructor <;> intro <;> omega
theorem read_number (f : Format) (neg : Bool) (r : Nat) (h : r < f.infRung) : ∃ m p, f.read (f.word neg r) = .number neg m p ∧ f.leastPlace ≤ p ∧ m * 2 ^ (p - f.leastPlace).toNat = V f r ∧ (m = 0 ↔ r = 0) ∧ rung f m p = r := by
 have hb := binade_pos f
 have h1 := f.infRung_add_binade
 by_cases c : r < f.binade
 ·refine ⟨r, f.leastPlace, read_word_sub f neg r c, Int.le_refl _, ?_, Iff.rfl, ?_⟩
  ·unfold V; rw [if_pos c, Int.sub_self]; simp
  ·unfold rung
   by_cases h0 : r = 0
   ·rw [if_pos h0, h0]
   ·rw [if_neg h0]
    have hl : lastOf f r f.leastPlace = f.leastPlace := by
     unfold lastOf
     have : r.log2 < f.fractionBits := (Nat.log2_lt h0).2 c
     omega
    have hk : keptOf f r f.leastPlace = r := by
     unfold keptOf; rw [hl, Int.sub_self]; exact rnd_zero r
    rw [hl, hk, Int.sub_self]
    simp; omega
 ·have q1 : 1 ≤ r / f.binade := (Nat.le_div_iff_mul_le hb).2 (by omega)
  have e1 := Nat.div_add_mod r f.binade
  have l1 := Nat.mod_lt r hb
  obtain ⟨q, hq⟩ : ∃ q, r / f.binade = q + 1 := ⟨r / f.binade - 1, by omega⟩
  have e2 : r = q * f.binade + (f.binade + r % f.binade) := by rw [hq, Nat.mul_add, Nat.mul_comm] at e1; omega
  refine ⟨f.binade + r % f.binade, f.leastPlace + q, ?_, by omega, ?_, by omega, ?_⟩
  ·have := read_word_normal f neg q (f.binade + r % f.binade) (by omega) (by omega) (by omega)
   rwa [← e2] at this
  ·unfold V
   rw [if_neg c, hq, show (f.leastPlace + q - f.leastPlace).toNat = q from by omega, Nat.add_sub_cancel]
  ·unfold rung
   rw [if_neg (by omega)]
   have hlg : (f.binade + r % f.binade).log2 = f.fractionBits := by
    rw [Nat.log2_eq_iff (by omega)]
    have : 2 ^ (f.fractionBits + 1) = 2 * f.binade := by unfold Format.binade; rw [Nat.pow_succ, Nat.mul_comm]
    refine ⟨?_, by omega⟩
    show f.binade ≤ _
    omega
   have hl : lastOf f (f.binade + r % f.binade) (f.leastPlace + q) = f.leastPlace + q := by
    unfold lastOf; rw [hlg]; omega
   have hk : keptOf f (f.binade + r % f.binade) (f.leastPlace + q) = f.binade + r % f.binade := by
    unfold keptOf; rw [hl, Int.sub_self]; exact rnd_zero _
   rw [hl, hk, show (f.leastPlace + q - f.leastPlace).toNat = q from by omega, ← e2]
   omega
theorem read_rung (f : Format) (neg : Bool) {m : Nat} (hm : m ≠ 0) (p : Int) (h : rung f m p < f.infRung) : Same (f.read (f.word neg (rung f m p))) (.number neg (keptOf f m p) (lastOf f m p)) := by
 have hb := binade_pos f
 obtain ⟨a1, a2⟩ := kept_range f hm p
 have c1 := last_ge f m p
 unfold rung at h ⊢
 rw [if_neg hm] at h ⊢
 generalize lastOf f m p = L at *
 generalize keptOf f m p = k at *
 have h' : (L - f.leastPlace).toNat * f.binade + k < f.infRung := by omega
 rw [Nat.min_eq_left (by omega)]
 by_cases k1 : k < f.binade
 ·have e : L = f.leastPlace := by
   rcases Int.lt_or_le f.leastPlace L with h | h
   ·have := a2 h; omega
   ·omega
  subst e
  rw [Int.sub_self]
  show Same (f.read (f.word neg (0 * f.binade + k))) _
  rw [Nat.zero_mul, Nat.zero_add, read_word_sub f neg k k1]
  exact Same.refl _
 ·by_cases k2 : k < 2 * f.binade
  ·rw [read_word_normal f neg _ k (by omega) k2 h', show f.leastPlace + ((L - f.leastPlace).toNat : Int) = L from by omega]
   exact Same.refl _
  ·have e : k = f.binade + f.binade := by omega
   subst e
   have e2 : (L - f.leastPlace).toNat * f.binade + (f.binade + f.binade) = ((L - f.leastPlace).toNat + 1) * f.binade + f.binade := by rw [Nat.add_mul]; omega
   rw [e2] at h' ⊢
   rw [read_word_normal f neg _ f.binade (by omega) (by omega) h']
   refine ⟨rfl, L, by omega, by omega, ?_⟩
   rw [show (f.leastPlace + ((L - f.leastPlace).toNat + 1 : Nat) - L).toNat = 1 from by omega, show (L - L).toNat = 0 from by omega]
   omega
def rk (neg : Bool) (r : Nat) : Int := if neg then -(r : Int) else r
theorem cmp_int {x y u v : Int} (h1 : x < y ↔ u < v) (h2 : x = y ↔ u = v) : compare x y = compare u v := by
 rcases Int.lt_trichotomy u v with h | h | h
 ·rw [Int.compare_eq_lt.2 h, Int.compare_eq_lt.2 (h1.2 h)]
 ·rw [Int.compare_eq_eq.2 h, Int.compare_eq_eq.2 (h2.2 h)]
 ·rw [Int.compare_eq_gt.2 h]
  refine Int.compare_eq_gt.2 ?_
  have n1 : ¬ x < y := fun c => by have := h1.1 c; omega
  have n2 : ¬ x = y := fun c => by have := h2.1 c; omega
  omega
theorem order_word (f : Format) (hf : f.binade ≤ f.infRung) (s t : Bool) {q r : Nat} (h : q ≤ f.infRung) (h' : r ≤ f.infRung) : f.order (f.word s q) (f.word t r) = some (compare (rk s q) (rk t r)) := by
 have hb := binade_pos f
 unfold Format.order
 have zq : q < f.infRung → 0 ≤ V f q ∧ (V f q = 0 ↔ q = 0) := fun _ => ⟨Nat.zero_le _, by have := (V_cmp f q 0).2; rw [V_zero] at this; exact this⟩
 rcases Nat.lt_or_eq_of_le h with a | a <;> rcases Nat.lt_or_eq_of_le h' with b | b
 ·obtain ⟨m, p, e1, e2, e3, e4, _⟩ := read_number f s q a
  obtain ⟨n, o, d1, d2, d3, d4, _⟩ := read_number f t r b
  rw [e1, d1, order_at s t m n p o f.leastPlace e2 d2]
  congr 1
  rw [signed_eq s, signed_eq t, e3, d3]
  have c1 := V_cmp f q r
  have c2 := V_cmp f r q
  have z1 := (V_cmp f q 0).2
  have z2 := (V_cmp f r 0).2
  rw [V_zero] at z1 z2
  unfold signed rk
  simp only [Nat.shiftLeft_eq, Nat.pow_zero, Nat.mul_one]
  refine cmp_int ?_ ?_ <;> cases s <;> cases t <;> simp only [if_true, if_false, Bool.false_eq_true] <;> omega
 ·subst b
  obtain ⟨m, p, e1, _⟩ := read_number f s q a
  rw [e1, read_word_inf f t hf]
  show some (if t then Ordering.gt else Ordering.lt) = _
  congr 1
  unfold rk
  cases t
  ·simp only [if_false, Bool.false_eq_true]
   refine (Int.compare_eq_lt.2 ?_).symm
   cases s <;> simp <;> omega
  ·simp only [if_true]
   refine (Int.compare_eq_gt.2 ?_).symm
   cases s <;> simp <;> omega
 ·subst a
  obtain ⟨m, p, e1, _⟩ := read_number f t r b
  rw [e1, read_word_inf f s hf]
  show some (if s then Ordering.lt else Ordering.gt) = _
  congr 1
  unfold rk
  cases s
  ·simp only [if_false, Bool.false_eq_true]
   refine (Int.compare_eq_gt.2 ?_).symm
   cases t <;> simp <;> omega
  ·simp only [if_true]
   refine (Int.compare_eq_lt.2 ?_).symm
   cases t <;> simp <;> omega
 ·subst a; subst b
  rw [read_word_inf f s hf, read_word_inf f t hf]
  show some (compare t.toNat s.toNat) = _
  congr 1
  unfold rk
  cases s <;> cases t
  ·simp
  ·exact (Int.compare_eq_gt.2 (by simp; omega)).symm
  ·exact (Int.compare_eq_lt.2 (by simp; omega)).symm
  ·simp
end Fl

namespace Fl
open Ieee Go
set_option linter.unusedSimpArgs false
set_option linter.unusedVariables false
theorem two_pow_sq (k : Nat) : (2 : Nat) ^ (2 * k) = 4 ^ k := by rw [Nat.pow_mul]
theorem root_rung (f : Format) (m : Nat) (i : Int) (hm : m ≠ 0) : ∃ S q, (Datum.number false m i).root (f.fractionBits + 2) = some (.number false S q) ∧ S ≠ 0 ∧
  ∀ K R : Nat, IsRt (m * 2 ^ (i % 2).toNat * 4 ^ K) R → 2 ^ (f.fractionBits + 2) ≤ rs (m * 2 ^ (i % 2).toNat * 4 ^ K) R → rung f S q = rung f (rs (m * 2 ^ (i % 2).toNat * 4 ^ K) R) ((i - i % 2) / 2 - 1 - K) := by
 simp only [Datum.root, hm, Bool.false_eq_true, if_false]
 generalize hmore : 2 * (f.fractionBits + 2) - m.log2 = mo
 have hpar : (i - (mo : Int)) % 2 = 0 ∨ (i - (mo : Int)) % 2 = 1 := by omega
 obtain ⟨M, hM⟩ : ∃ M, mo + ((i - (mo : Int)) % 2).toNat = M := ⟨_, rfl⟩
 rw [hM]
 have hMi : (i - (M : Int)) % 2 = 0 := by omega
 have hMp : (M : Int) % 2 = i % 2 := by omega
 obtain ⟨κ, hκ⟩ : ∃ κ, M = (i % 2).toNat + 2 * κ := ⟨M / 2, by omega⟩
 have hn : m <<< M = m * 2 ^ (i % 2).toNat * 4 ^ κ := by
  rw [Nat.shiftLeft_eq, hκ, Nat.pow_add, two_pow_sq, ← Nat.mul_assoc]
 have hroot := root_is (m <<< M)
 generalize hR0 : Datum.rootFrom (m <<< M) ((m <<< M).log2 / 2 + 1) 0 = R0 at *
 have hbig : 2 ^ (f.fractionBits + 2) ≤ R0 := by
  have h1 := Nat.log2_self_le hm
  have h2 : 2 ^ (f.fractionBits + 2) * 2 ^ (f.fractionBits + 2) ≤ m <<< M := by
   rw [Nat.shiftLeft_eq, ← Nat.pow_add]
   refine Nat.le_trans ?_ (Nat.mul_le_mul_right (2 ^ M) h1)
   rw [← Nat.pow_add]
   exact Nat.pow_le_pow_right (by decide) (by omega)
  have := sq_lt (Nat.lt_of_le_of_lt h2 hroot.2)
  omega
 have hp : 0 < 2 ^ (f.fractionBits + 2) := Nat.two_pow_pos _
 refine ⟨_, _, rfl, by omega, fun K R hK hb => ?_⟩
 rw [hn] at hroot
 rw [hn]
 have hb0 : 2 ^ (f.fractionBits + 2) ≤ rs (m * 2 ^ (i % 2).toNat * 4 ^ κ) R0 := by unfold rs; omega
 have := rung_rs f (m * 2 ^ (i % 2).toNat) κ K R0 R ((i - i % 2) / 2 - 1) hroot hK hb0 hb
 rw [← this]
 show rung f (rs (m * 2 ^ (i % 2).toNat * 4 ^ κ) R0) _ = _
 congr 1
 omega
theorem root_same (f : Format) {m n : Nat} {i j b : Int} (hm : m ≠ 0) (h1 : b ≤ i) (h2 : b ≤ j) (h : m * 2 ^ (i - b).toNat = n * 2 ^ (j - b).toNat) (K R : Nat) (hR : IsRt (m * 2 ^ (i % 2).toNat * 4 ^ K) R) (hb : 2 ^ (f.fractionBits + 2) ≤ rs (m * 2 ^ (i % 2).toNat * 4 ^ K) R)
  (hK : (i - j).toNat + 2 ≤ 2 * K) :
  ∃ S q, (Datum.number false n j).root (f.fractionBits + 2) = some (.number false S q) ∧ S ≠ 0 ∧ rung f S q = rung f (rs (m * 2 ^ (i % 2).toNat * 4 ^ K) R) ((i - i % 2) / 2 - 1 - K) := by
 have hn : n ≠ 0 := by
  rintro rfl
  rw [Nat.zero_mul] at h
  have := Nat.two_pow_pos (i - b).toNat
  rcases Nat.mul_eq_zero.1 h with h | h <;> omega
 obtain ⟨S, q, e1, e0, e2⟩ := root_rung f n j hn
 refine ⟨S, q, e1, e0, ?_⟩
 obtain ⟨K', hK'⟩ : ∃ K' : Nat, (K' : Int) = K + ((j - j % 2) / 2 - (i - i % 2) / 2) := ⟨(K + ((j - j % 2) / 2 - (i - i % 2) / 2)).toNat, by omega⟩
 have hA : n * 2 ^ (j % 2).toNat * 4 ^ K' = m * 2 ^ (i % 2).toNat * 4 ^ K := by
  rw [← two_pow_sq, ← two_pow_sq, Nat.mul_assoc, Nat.mul_assoc, ← Nat.pow_add, ← Nat.pow_add]
  have c1 : ((j % 2).toNat + 2 * K' : Int) - j = ((i % 2).toNat + 2 * K : Int) - i := by omega
  by_cases hle : (i - b).toNat ≤ (i % 2).toNat + 2 * K
  ·obtain ⟨u, hu⟩ : ∃ u, (i % 2).toNat + 2 * K = (i - b).toNat + u := ⟨(i % 2).toNat + 2 * K - (i - b).toNat, by omega⟩
   rw [hu, show (j % 2).toNat + 2 * K' = (j - b).toNat + u from by omega, Nat.pow_add, Nat.pow_add, ← Nat.mul_assoc, ← Nat.mul_assoc, h]
  ·obtain ⟨u, hu⟩ : ∃ u, (i - b).toNat = (i % 2).toNat + 2 * K + u := ⟨(i - b).toNat - ((i % 2).toNat + 2 * K), by omega⟩
   rw [hu, show (j - b).toNat = (j % 2).toNat + 2 * K' + u from by omega, Nat.pow_add 2 ((i % 2).toNat + 2 * K), Nat.pow_add 2 ((j % 2).toNat + 2 * K'), ← Nat.mul_assoc, ← Nat.mul_assoc] at h
   exact (Nat.eq_of_mul_eq_mul_right (Nat.two_pow_pos u) h).symm
 have := e2 K' R (by rw [hA]; exact hR) (by rw [hA]; exact hb)
 rw [this, hA]
 congr 1
 omega
theorem log2_le_of {n k : Nat} (h : n < 2 ^ (k + 1)) : n.log2 ≤ k := by
 by_cases h0 : n = 0
 ·subst h0; simp
 ·have := (Nat.log2_lt h0).2 h; omega
theorem narrow_rung (a K R : Nat) (q : Int) (ha : a ≠ 0) (ha2 : a < 2 ^ 25) (hK : K = 100) (h : IsRt (a * 4 ^ K) R) (h1 : -200 ≤ q) (h2 : q ≤ -40) :
  rung double (rs (a * 4 ^ K) R) q < double.infRung ∧ rung single (keptOf double (rs (a * 4 ^ K) R) q) (lastOf double (rs (a * 4 ^ K) R) q) = rung single (rs (a * 4 ^ K) R) q ∧ rung single (rs (a * 4 ^ K) R) q < single.infRung ∧ 2 ^ 100 ≤ rs (a * 4 ^ K) R := by
 have hlow : 2 ^ 100 ≤ R := by
  have h3 : 2 ^ 100 * 2 ^ 100 ≤ a * 4 ^ K := by
   subst hK
   have : 1 * 4 ^ 100 ≤ a * 4 ^ 100 := Nat.mul_le_mul_right _ (by omega)
   rw [Nat.one_mul] at this
   exact this
  have := sq_lt (Nat.lt_of_le_of_lt h3 h.2)
  omega
 have hhigh : R < 2 ^ 113 := by
  have h3 : a * 4 ^ K < 2 ^ 113 * 2 ^ 113 := by
   subst hK
   have : a * 4 ^ 100 < 2 ^ 25 * 4 ^ 100 := Nat.mul_lt_mul_of_pos_right ha2 (by decide)
   exact Nat.lt_of_lt_of_le this (by decide)
  exact sq_lt (Nat.lt_of_le_of_lt h.1 h3)
 have hrs : rs (a * 4 ^ K) R = 2 * R + (R * R != a * 4 ^ K).toNat := rfl
 have hbit := bit_le (R * R != a * 4 ^ K)
 have hS1 : 2 ^ 101 ≤ rs (a * 4 ^ K) R := by omega
 have hS2 : rs (a * 4 ^ K) R < 2 ^ 114 := by omega
 have hS0 : rs (a * 4 ^ K) R ≠ 0 := by omega
 have hmid := fun D => root_middle a K R D h
 have l1 : 101 ≤ (rs (a * 4 ^ K) R).log2 := (Nat.le_log2 hS0).2 hS1
 have l2 : (rs (a * 4 ^ K) R).log2 ≤ 113 := log2_le_of hS2
 have l3 : rs (a * 4 ^ K) R < 2 ^ ((rs (a * 4 ^ K) R).log2 + 1) := Nat.lt_log2_self
 have l4 := Nat.log2_self_le hS0
 clear hrs hbit hlow hhigh hS2 h
 have hS3 : 2 ^ 100 ≤ rs (a * 4 ^ K) R := by omega
 clear hS1
 generalize rs (a * 4 ^ K) R = S at *
 obtain ⟨l, hl⟩ : ∃ l, S.log2 = l := ⟨_, rfl⟩
 rw [hl] at l1 l2 l3 l4
 obtain ⟨D, hD⟩ : ∃ D, l = 52 + D := ⟨l - 52, by omega⟩
 have hm := hmid D (by omega) (by omega) (by rw [show D + 53 = l + 1 from by omega]; exact l3)
 have htw := Lib.hid (rnd_twice S D 29 (by decide) hm)
 have hLd : lastOf double S q = q + D := by
  unfold lastOf; rw [hl, double_least]
  show max (q + (l : Int) - 52) (-1074) = q + D
  omega
 have hLs : lastOf single S q = q + D + 29 := by
  unfold lastOf; rw [hl, single_least]
  show max (q + (l : Int) - 23) (-149) = q + D + 29
  omega
 have hkd : keptOf double S q = rnd S D := by
  unfold keptOf; rw [hLd, show (q - (q + D)).toNat = 0 from by omega, show (q + D - q).toNat = D from by omega]; rfl
 have hks : keptOf single S q = rnd S (D + 29) := by
  unfold keptOf; rw [hLs, show (q - (q + D + 29)).toNat = 0 from by omega, show (q + D + 29 - q).toNat = D + 29 from by omega]; rfl
 have r1 : rnd S D ≤ 9007199254740992 := by
  refine rnd_le ?_
  rw [show (9007199254740992 : Nat) = 2 ^ 53 from rfl, ← Nat.pow_add, show 53 + D = l + 1 from by omega]; exact Nat.le_of_lt l3
 have r2 : 4503599627370496 ≤ rnd S D := by
  refine le_rnd ?_
  rw [show (4503599627370496 : Nat) = 2 ^ 52 from rfl, ← Nat.pow_add, ← hD]; exact l4
 have r3 : rnd S (D + 29) ≤ 16777216 := by
  refine rnd_le ?_
  rw [show (16777216 : Nat) = 2 ^ 24 from rfl, ← Nat.pow_add, show 24 + (D + 29) = l + 1 from by omega]; exact Nat.le_of_lt l3
 clear l3 l4 hm hmid ha ha2
 refine ⟨?_, ?_, ?_, hS3⟩
 ·clear hS3; unfold rung
  rw [if_neg hS0, hLd, hkd, double_least, double_binade, double_inf]
  have : (q + D - -1074).toNat ≤ 1200 := by omega
  refine Nat.lt_of_le_of_lt (Nat.min_le_left _ _) ?_
  omega
 ·clear hS3
  rw [hLd, hkd]
  have hne : rnd S D ≠ 0 := by omega
  have htw2 := htw.out
  clear htw
  generalize rnd S D = T at *
  have hs : rung single S q = min ((q + D + 29 - -149).toNat * 8388608 + rnd T 29) 2139095040 := by
   unfold rung
   rw [if_neg hS0, hLs, hks, single_least, single_binade, single_inf, ← htw2]
  rw [hs]
  by_cases c : T < 9007199254740992
  ·have hlT : T.log2 = 52 := by rw [Nat.log2_eq_iff (by omega)]; exact ⟨r2, c⟩
   have hL : lastOf single T (q + D) = q + D + 29 := by
    unfold lastOf; rw [hlT, single_least]
    show max (q + D + (52 : Int) - 23) (-149) = q + D + 29
    omega
   have hk : keptOf single T (q + D) = rnd T 29 := by
    unfold keptOf; rw [hL, show (q + D - (q + D + 29)).toNat = 0 from by omega, show (q + D + 29 - (q + D)).toNat = 29 from by omega]; rfl
   unfold rung
   rw [if_neg (by omega), hL, hk, single_least, single_binade, single_inf]
  ·obtain rfl : T = 9007199254740992 := by omega
   have hlT : (9007199254740992 : Nat).log2 = 53 := by rw [Nat.log2_eq_iff (by decide)]; decide
   have hL : lastOf single 9007199254740992 (q + D) = q + D + 30 := by
    unfold lastOf; rw [hlT, single_least]
    show max (q + D + (53 : Int) - 23) (-149) = q + D + 30
    omega
   have hk : keptOf single 9007199254740992 (q + D) = 8388608 := by
    unfold keptOf; rw [hL, show (q + D - (q + D + 30)).toNat = 0 from by omega, show (q + D + 30 - (q + D)).toNat = 30 from by omega]; decide
   have hk2 : rnd 9007199254740992 29 = 16777216 := by decide
   unfold rung
   rw [if_neg (by decide), hL, hk, hk2, single_least, single_binade, single_inf]
   rw [show (q + D + 30 - -149).toNat * 8388608 + 8388608 = (q + D + 29 - -149).toNat * 8388608 + 16777216 from by omega]
 ·clear hS3; unfold rung
  rw [if_neg hS0, hLs, hks, single_least, single_binade, single_inf]
  have : (q + D + 29 - -149).toNat ≤ 200 := by omega
  refine Nat.lt_of_le_of_lt (Nat.min_le_left _ _) ?_
  omega
end Fl

namespace Go.Proofs.YtmoimcblmmcffaaGreat.NC
open Go.RowKit Go.Proofs.YtmoimcblmmcffaaGreat.B Go.Proofs.YtmoimcblmmcffaaGreat.N
set_option linter.unusedSimpArgs false
set_option linter.unusedVariables false
theorem nan_eq (s : Bool) : nanV s = (nanN s : Int) := by cases s <;> rfl
theorem top_sgn (s : Bool) : topV s = ((2 * signN s : Nat) : Int) := by cases s <;> rfl
theorem bits_lt (s : Bool) {p : PP} (hp : p.ok s) : bitsR s p < 2 * signN s ∧ (p.neg = false → bitsR s p < signN s) := by
 have hq : (fieldN s : Int) - 3 + leastN s = mostN s := by cases s <;> decide
 have hf : 3 ≤ fieldN s := by cases s <;> decide
 have hl : lowN s * fieldN s = signN s := by cases s <;> rfl
 have hn : nanN s < signN s := by cases s <;> decide
 have hp0 : 0 < lowN s := by cases s <;> decide
 have hs0 : 0 < signN s := by cases s <;> decide
 have key : ∃ r, (bitsR s p = sgnN s p.neg + r ∨ bitsR s p = r) ∧ r < signN s := by
  rcases bits_leaf hp with ⟨_, h⟩ | ⟨_, h⟩ | ⟨_, h⟩ | ⟨_, h1, h⟩ | ⟨_, h1, h2, q, h3, h4, h⟩
  ·exact ⟨0, .inl (by rw [h]; rfl), hs0⟩
  ·refine ⟨_, .inl h, ?_⟩
   rw [← hl]; exact Nat.mul_lt_mul_of_pos_left (by omega) hp0
  ·exact ⟨_, .inr h, hn⟩
  ·refine ⟨_, .inl h, ?_⟩
   have : lowN s * 1 ≤ lowN s * fieldN s := Nat.mul_le_mul_left _ (by omega)
   omega
  ·refine ⟨_, .inl h, ?_⟩
   have : lowN s * (q + 3) ≤ lowN s * fieldN s := Nat.mul_le_mul_left _ (by omega)
   rw [Nat.mul_add] at this ⊢
   omega
 obtain ⟨r, h1, h2⟩ := key
 unfold sgnN at h1
 refine ⟨?_, fun hn => ?_⟩
 ·rcases h1 with h1 | h1 <;> rw [h1]
  ·split <;> omega
  ·omega
 ·rw [hn] at h1
  simp only [Bool.false_eq_true, if_false] at h1
  rcases h1 with h1 | h1 <;> rw [h1] <;> omega
theorem size_lt (s : Bool) (a : Nat) : sizeR s a < signN s := (bits_lt s (PP.ok_neg (parts_ok s a) false)).2 rfl
theorem neg_lt (s : Bool) (a : Nat) : (negR s a : Int) < topV s := by
 have := (bits_lt s (PP.ok_neg (parts_ok s a) (!(partsR s a).neg && (partsR s a).kind != 3))).1
 rw [top_sgn]
 exact Int.ofNat_lt.2 this
theorem fld0 (w : World) (k : Int) (n : Bool) (g x : Int) : (Instr.field 41 (.agg #[.int .i64 k, .bool n, .int .i64 g, .int .i64 x]) 0).run Tryz.prog w = .ok (.int .i64 k) w := by kernel_rfl
theorem fld1 (w : World) (k : Int) (n : Bool) (g x : Int) : (Instr.field 41 (.agg #[.int .i64 k, .bool n, .int .i64 g, .int .i64 x]) 1).run Tryz.prog w = .ok (.bool n) w := by kernel_rfl
def subR (s : Bool) (a b : Nat) : Nat := if (partsR s b).kind = 3 then nanN s else addR s a (negR s b)
set_option maxRecDepth 100000 in
set_option maxHeartbeats 4000000 in
theorem minus2_c (s : Bool) (a b : Nat) (w : World) (ha : (a : Int) < topV s) (hb : (b : Int) < topV s) : Calls Tryz.prog 64 #[.int .i64 (tv s), .int .u64 (a : Int), .int .u64 (b : Int)] w (Ret (.int .u64 (subR s a b : Int)) w) := by
 have c2 := fun w => parts_c s b w hb
 have cn := nanR_c s
 rw [nan_eq] at cn
 have cg := fun w => negatedR_c s b w hb
 have ca := fun w => add_c s a (negR s b) w ha (neg_lt s b)
 clear ha hb
 unfold subR
 obtain ⟨q, hq⟩ : ∃ q, partsR s b = q := ⟨_, rfl⟩
 rw [hq]
 rw [hq] at c2
 clear hq
 obtain ⟨k2, n2, g2, x2⟩ := q
 simp only [PP.v] at c2
 simp only
 generalize addR s a (negR s b) = R at *
 generalize negR s b = nb at *
 have hfd := fun w => fld0 w k2 n2 g2 x2
 by_cases hk : k2 = 3
 ·subst hk
  rw [if_pos rfl]
  go_enter Tryz.func64, Tryz.ntmps64
  go_wp2_with (first | (go_at_call 21; refine (c2 _).mono ?_; rintro e w1 ⟨rfl, hb1⟩) | (go_at_call 67; refine (cn _).mono ?_; rintro e w2 ⟨rfl, hb2⟩))
  go_ret
  exact ⟨rfl, below_call hb1 hb2⟩
 ·rw [if_neg hk]
  have f2 : (k2 == 3) = false := by simpa using hk
  go_enter Tryz.func64, Tryz.ntmps64
  go_wp2_with (first | (go_at_call 21; refine (c2 _).mono ?_; rintro e w1 ⟨rfl, hb1⟩) | (go_at_call 83; refine (cg _).mono ?_; rintro e w2 ⟨rfl, hb2⟩) | (go_at_call 63; refine (ca _).mono ?_; rintro e w3 ⟨rfl, hb3⟩))
  go_ret
  exact ⟨rfl, below_call (below_call hb1 hb2) hb3⟩
def rankR (s : Bool) (a : Nat) : Int := if (partsR s a).neg = true then -(sizeR s a : Int) else (sizeR s a : Int)
set_option maxRecDepth 100000 in
set_option maxHeartbeats 4000000 in
theorem rank_c (s : Bool) (a : Nat) (w : World) (ha : (a : Int) < topV s) : Calls Tryz.prog 102 #[.int .i64 (tv s), .int .u64 (a : Int)] w (Ret (.int .i64 (rankR s a)) w) := by
 have c1 := fun w => parts_c s a w ha
 have cs := fun w => sizedR_c s a w ha
 have hlt := size_lt s a
 have hsg : signN s ≤ 9223372036854775808 := by cases s <;> decide
 unfold rankR
 clear ha
 obtain ⟨q, hq⟩ : ∃ q, partsR s a = q := ⟨_, rfl⟩
 rw [hq]
 rw [hq] at c1
 clear hq
 obtain ⟨k2, n2, g2, x2⟩ := q
 simp only [PP.v] at c1
 simp only
 generalize sizeR s a = z at *
 have hw : IntKind.i64.wrap (z : Int) = (z : Int) := iwr (by omega) (by omega)
 have hw2 : wrap64 (z : Int) = (z : Int) := wr (by omega) (by omega)
 have hw3 : wrap64 (-(z : Int)) = -(z : Int) := wr (by omega) (by omega)
 clear hlt hsg
 have hfd := fun w => fld1 w k2 n2 g2 x2
 cases n2
 all_goals
  simp only [Bool.false_eq_true, if_false, if_true]
  go_enter Tryz.func102, Tryz.ntmps102
  go_wp2_with (first | (go_at_call 84; refine (cs _).mono ?_; rintro e w1 ⟨rfl, hb1⟩) | (go_at_call 21; refine (c1 _).mono ?_; rintro e w2 ⟨rfl, hb2⟩))
  go_ret
  exact ⟨by first | rfl | (show Ending.returned (.int .i64 (wrap64 (-(z : Int)))) = _; rw [hw3]), below_call hb1 hb2⟩
def cmpR (s : Bool) (a b : Nat) : Int := if (partsR s a).kind = 3 ∨ (partsR s b).kind = 3 then 2 else if rankR s a < rankR s b then -1 else if rankR s a = rankR s b then 0 else 1
set_option maxRecDepth 100000 in
set_option maxHeartbeats 4000000 in
theorem cmpR_c (s : Bool) (a b : Nat) (w : World) (ha : (a : Int) < topV s) (hb : (b : Int) < topV s) : Calls Tryz.prog 62 #[.int .i64 (tv s), .int .u64 (a : Int), .int .u64 (b : Int)] w (Ret (.int .i64 (cmpR s a b)) w) := by
 have c1 := fun w => parts_c s a w ha
 have c2 := fun w => parts_c s b w hb
 have cr1 := fun w => rank_c s a w ha
 have cr2 := fun w => rank_c s b w hb
 clear ha hb
 unfold cmpR
 obtain ⟨p, hp⟩ : ∃ p, partsR s a = p := ⟨_, rfl⟩
 obtain ⟨q, hq⟩ : ∃ q, partsR s b = q := ⟨_, rfl⟩
 rw [hp, hq]
 rw [hp] at c1
 rw [hq] at c2
 clear hp hq
 obtain ⟨k1, n1, g1, x1⟩ := p
 obtain ⟨k2, n2, g2, x2⟩ := q
 simp only [PP.v] at c1 c2
 simp only
 generalize rankR s a = r1 at *
 generalize rankR s b = r2 at *
 have bt := fun w => bit_c w true
 have bf := fun w => bit_c w false
 simp only [if_true, Bool.false_eq_true, if_false] at bt bf
 have main : ∀ R : Int, (k1 = 3 ∧ R = 2 ∨ (k1 ≠ 3 ∧ k2 = 3 ∧ R = 2) ∨ (k1 ≠ 3 ∧ k2 ≠ 3 ∧ (r1 < r2 ∧ R = -1 ∨ r1 = r2 ∧ R = 0 ∨ r2 < r1 ∧ R = 1))) → Calls Tryz.prog 62 #[.int .i64 (tv s), .int .u64 (a : Int), .int .u64 (b : Int)] w (Ret (.int .i64 R) w) := by
  intro R hR
  rcases hR with ⟨rfl, rfl⟩ | ⟨h1, rfl, rfl⟩ | ⟨h1, h2, hR⟩
  ·go_enter Tryz.func62, Tryz.ntmps62
   go_upto_region 2 with (first | (go_at_call 21; (with_reducible refine (c1 _).mono ?_); rintro e w1 ⟨rfl, hb1⟩) | (go_at_call 21; (with_reducible refine (c2 _).mono ?_); rintro e w2 ⟨rfl, hb2⟩))
   refine hide2 w (fun W kk0 kk1 s0 s1 HE => ?_) (below_call hb1 hb2)
   go_wp2
   go_ret
   exact ⟨rfl, Ext.end HE⟩
  ·have f1 : (k1 == 3) = false := by simpa using h1
   go_enter Tryz.func62, Tryz.ntmps62
   go_upto_region 2 with (first | (go_at_call 21; (with_reducible refine (c1 _).mono ?_); rintro e w1 ⟨rfl, hb1⟩) | (go_at_call 21; (with_reducible refine (c2 _).mono ?_); rintro e w2 ⟨rfl, hb2⟩))
   refine hide2 w (fun W kk0 kk1 s0 s1 HE => ?_) (below_call hb1 hb2)
   go_wp2
   go_ret
   exact ⟨rfl, Ext.end HE⟩
  ·have f1 : (k1 == 3) = false := by simpa using h1
   have f2 : (k2 == 3) = false := by simpa using h2
   have hd : (decide (r2 < r1) = false ∧ decide (r1 < r2) = true ∧ R = -1) ∨ (decide (r2 < r1) = false ∧ decide (r1 < r2) = false ∧ R = 0) ∨ (decide (r2 < r1) = true ∧ decide (r1 < r2) = false ∧ R = 1) := by
    rcases hR with ⟨h, rfl⟩ | ⟨h, rfl⟩ | ⟨h, rfl⟩
    ·left; refine ⟨decide_eq_false (by omega), decide_eq_true h, rfl⟩
    ·right; left; refine ⟨decide_eq_false (by omega), decide_eq_false (by omega), rfl⟩
    ·right; right; refine ⟨decide_eq_true h, decide_eq_false (by omega), rfl⟩
   clear hR
   rcases hd with ⟨d1, d2, rfl⟩ | ⟨d1, d2, rfl⟩ | ⟨d1, d2, rfl⟩
   all_goals
    go_enter Tryz.func62, Tryz.ntmps62
    go_upto_region 2 with (first | (go_at_call 21; (with_reducible refine (c1 _).mono ?_); rintro e w1 ⟨rfl, hb1⟩) | (go_at_call 21; (with_reducible refine (c2 _).mono ?_); rintro e w2 ⟨rfl, hb2⟩))
    refine hide2 w (fun W kk0 kk1 s0 s1 HE => ?_) (below_call hb1 hb2)
    clear hb1 hb2
    go_upto_region 5 with (first | (go_at_call 102; (with_reducible refine (cr1 _).mono ?_); rintro e w3 ⟨rfl, hb3⟩; have HE3 := HE.call hb3) | (go_at_call 102; (with_reducible refine (cr2 _).mono ?_); rintro e w4 ⟨rfl, hb4⟩; have HE4 := HE3.call hb4))
    go_wp2_with (first | (go_at_call 103; (with_reducible refine (bt _).mono ?_); rintro e w5 ⟨rfl, hb5⟩; have HE4 := HE4.call hb5) | (go_at_call 103; (with_reducible refine (bf _).mono ?_); rintro e w6 ⟨rfl, hb6⟩; have HE4 := HE4.call hb6))
    go_ret
    exact ⟨rfl, Ext.end HE4⟩
 refine main _ ?_
 by_cases h1 : k1 = 3
 ·left; exact ⟨h1, if_pos (.inl h1)⟩
 ·by_cases h2 : k2 = 3
  ·right; left; exact ⟨h1, h2, if_pos (.inr h2)⟩
  ·right; right
   refine ⟨h1, h2, ?_⟩
   rw [if_neg (by rintro (h | h) <;> contradiction)]
   rcases Int.lt_trichotomy r1 r2 with h | h | h
   ·left; exact ⟨h, if_pos h⟩
   ·right; left; exact ⟨h, by rw [if_neg (by omega), if_pos h]⟩
   ·right; right; exact ⟨h, by rw [if_neg (by omega), if_neg (by omega)]⟩
end Go.Proofs.YtmoimcblmmcffaaGreat.NC

namespace Go.Proofs.YtmoimcblmmcffaaGreat.NC
open Go.RowKit Go.Proofs.YtmoimcblmmcffaaGreat.B Go.Proofs.YtmoimcblmmcffaaGreat.N
set_option linter.unusedSimpArgs false
set_option linter.unusedVariables false
def extP (great : Bool) (p q : PP) (c : Int) (a b nan : Nat) : Nat :=
 if p.kind = 3 then (if q.kind = 3 then nan else b) else if q.kind = 3 then a
 else if decide ((if c = 0 then (q.neg.toNat : Int) - p.neg.toNat else c) < 0) = great then b else a
def extR (great s : Bool) (a b : Nat) : Nat := extP great (partsR s a) (partsR s b) (cmpR s a b) a b (nanN s)
theorem cmpR_cases (s : Bool) (a b : Nat) : cmpR s a b = 2 ∨ cmpR s a b = -1 ∨ cmpR s a b = 0 ∨ cmpR s a b = 1 := by
 unfold cmpR
 split
 ·exact .inl rfl
 ·split
  ·exact .inr (.inl rfl)
  ·split
   ·exact .inr (.inr (.inl rfl))
   ·exact .inr (.inr (.inr rfl))
set_option maxRecDepth 100000 in
set_option maxHeartbeats 8000000 in
theorem ext_c (great s : Bool) (a b : Nat) (w : World) (ha : (a : Int) < topV s) (hb : (b : Int) < topV s) : Calls Tryz.prog 70 #[.int .i64 (tv s), .int .u64 (a : Int), .int .u64 (b : Int), .bool great] w (Ret (.int .u64 (extR great s a b : Int)) w) := by
 have c1 := fun w => parts_c s a w ha
 have c2 := fun w => parts_c s b w hb
 have cn := nanR_c s
 rw [nan_eq] at cn
 have cc := fun w => cmpR_c s a b w ha hb
 have hc := cmpR_cases s a b
 clear ha hb
 unfold extR
 obtain ⟨p, hp⟩ : ∃ p, partsR s a = p := ⟨_, rfl⟩
 obtain ⟨q, hq⟩ : ∃ q, partsR s b = q := ⟨_, rfl⟩
 rw [hp, hq]
 rw [hp] at c1
 rw [hq] at c2
 clear hp hq
 obtain ⟨k1, n1, g1, x1⟩ := p
 obtain ⟨k2, n2, g2, x2⟩ := q
 simp only [PP.v] at c1 c2
 generalize cmpR s a b = c at *
 generalize nanN s = nan at *
 have bt := fun w => bit_c w true
 have bf := fun w => bit_c w false
 simp only [if_true, Bool.false_eq_true, if_false] at bt bf
 have hm : ∀ R, extP great ⟨k1, n1, g1, x1⟩ ⟨k2, n2, g2, x2⟩ c a b nan = R → Calls Tryz.prog 70 #[.int .i64 (tv s), .int .u64 (a : Int), .int .u64 (b : Int), .bool great] w (Ret (.int .u64 (R : Int)) w) := by
  intro R hR
  unfold extP at hR
  simp only at hR
  by_cases h1 : k1 = 3
  ·subst h1
   by_cases h2 : k2 = 3
   ·subst h2
    simp at hR
    subst hR
    go_enter Tryz.func70, Tryz.ntmps70
    go_upto_region 2 with (first | (go_at_call 21; (with_reducible refine (c1 _).mono ?_); rintro e w1 ⟨rfl, hb1⟩) | (go_at_call 21; (with_reducible refine (c2 _).mono ?_); rintro e w2 ⟨rfl, hb2⟩))
    refine hide2 w (fun W kk0 kk1 s0 s1 HE => ?_) (below_call hb1 hb2)
    clear hb1 hb2
    go_wp2_with (go_at_call 67; refine (cn _).mono ?_; rintro e w3 ⟨rfl, hb3⟩)
    go_ret
    exact ⟨rfl, Ext.end (HE.call hb3)⟩
   ·simp [h2] at hR
    subst hR
    have f2 : (k2 == 3) = false := by simpa using h2
    go_enter Tryz.func70, Tryz.ntmps70
    go_upto_region 2 with (first | (go_at_call 21; (with_reducible refine (c1 _).mono ?_); rintro e w1 ⟨rfl, hb1⟩) | (go_at_call 21; (with_reducible refine (c2 _).mono ?_); rintro e w2 ⟨rfl, hb2⟩))
    refine hide2 w (fun W kk0 kk1 s0 s1 HE => ?_) (below_call hb1 hb2)
    clear hb1 hb2
    go_wp2
    go_ret
    exact ⟨rfl, Ext.end HE⟩
  ·have f1 : (k1 == 3) = false := by simpa using h1
   rw [if_neg h1] at hR
   clear h1
   by_cases h2 : k2 = 3
   ·subst h2
    simp at hR
    subst hR
    go_enter Tryz.func70, Tryz.ntmps70
    go_upto_region 2 with (first | (go_at_call 21; (with_reducible refine (c1 _).mono ?_); rintro e w1 ⟨rfl, hb1⟩) | (go_at_call 21; (with_reducible refine (c2 _).mono ?_); rintro e w2 ⟨rfl, hb2⟩))
    refine hide2 w (fun W kk0 kk1 s0 s1 HE => ?_) (below_call hb1 hb2)
    clear hb1 hb2
    go_wp2
    go_ret
    exact ⟨rfl, Ext.end HE⟩
   ·have f2 : (k2 == 3) = false := by simpa using h2
    rw [if_neg h2] at hR
    clear h2
    rcases hc with rfl | rfl | rfl | rfl
    ·cases great <;> simp at hR <;> subst hR
     all_goals
      go_enter Tryz.func70, Tryz.ntmps70
      go_upto_region 2 with (first | (go_at_call 21; (with_reducible refine (c1 _).mono ?_); rintro e w1 ⟨rfl, hb1⟩) | (go_at_call 21; (with_reducible refine (c2 _).mono ?_); rintro e w2 ⟨rfl, hb2⟩))
      refine hide2 w (fun W kk0 kk1 s0 s1 HE => ?_) (below_call hb1 hb2)
      clear hb1 hb2
      go_wp2_with (go_at_call 62; refine (cc _).mono ?_; rintro e w3 ⟨rfl, hb3⟩; have HE3 := HE.call hb3)
      go_ret
      exact ⟨rfl, Ext.end HE3⟩
    ·cases great <;> simp at hR <;> subst hR
     all_goals
      go_enter Tryz.func70, Tryz.ntmps70
      go_upto_region 2 with (first | (go_at_call 21; (with_reducible refine (c1 _).mono ?_); rintro e w1 ⟨rfl, hb1⟩) | (go_at_call 21; (with_reducible refine (c2 _).mono ?_); rintro e w2 ⟨rfl, hb2⟩))
      refine hide2 w (fun W kk0 kk1 s0 s1 HE => ?_) (below_call hb1 hb2)
      clear hb1 hb2
      go_wp2_with (go_at_call 62; refine (cc _).mono ?_; rintro e w3 ⟨rfl, hb3⟩; have HE3 := HE.call hb3)
      go_ret
      exact ⟨rfl, Ext.end HE3⟩
    ·cases great <;> cases n1 <;> cases n2 <;> simp at hR <;> subst hR
     all_goals
      go_enter Tryz.func70, Tryz.ntmps70
      go_upto_region 2 with (first | (go_at_call 21; (with_reducible refine (c1 _).mono ?_); rintro e w1 ⟨rfl, hb1⟩) | (go_at_call 21; (with_reducible refine (c2 _).mono ?_); rintro e w2 ⟨rfl, hb2⟩))
      refine hide2 w (fun W kk0 kk1 s0 s1 HE => ?_) (below_call hb1 hb2)
      clear hb1 hb2
      go_upto_region 10 with (go_at_call 62; refine (cc _).mono ?_; rintro e w3 ⟨rfl, hb3⟩; have HE3 := HE.call hb3)
      generalize w2.heap.size = gg at *
      have kw0 : ∀ i, w3.cell? ⟨gg, i, none⟩ = _ := fun i => (HE3.1 gg i s0).trans (kk0 i)
      have kw1 : ∀ i, w3.cell? ⟨gg + 1, i, none⟩ = _ := fun i => (HE3.1 (gg + 1) i s1).trans (kk1 i)
      have HE4 : Ext w w3 w3 := Ext.refl HE3.2.2.2
      have hs0 : gg < w3.heap.size := Nat.lt_of_lt_of_le s0 HE3.2.2.1
      have hs1 : gg + 1 < w3.heap.size := Nat.lt_of_lt_of_le s1 HE3.2.2.1
      clear kk0 kk1 s0 s1 HE3 HE hb3 cc c1 c2
      go_region_held3 (fun w' => Ext w w3 w') (first | assumption | (with_reducible exact Ext.call (by assumption) hb5) | (with_reducible exact Ext.call (by assumption) hb6) | ((with_reducible refine Ext.drew ?_); assumption)) ((first | (go_at_call 103; (with_reducible refine (bt _).mono ?_); rintro e w5 ⟨rfl, hb5⟩) | (go_at_call 103; (with_reducible refine (bf _).mono ?_); rintro e w6 ⟨rfl, hb6⟩)))
      all_goals
       go_wp2
       go_ret
       exact ⟨rfl, Ext.end (by assumption)⟩
    ·cases great <;> simp at hR <;> subst hR
     all_goals
      go_enter Tryz.func70, Tryz.ntmps70
      go_upto_region 2 with (first | (go_at_call 21; (with_reducible refine (c1 _).mono ?_); rintro e w1 ⟨rfl, hb1⟩) | (go_at_call 21; (with_reducible refine (c2 _).mono ?_); rintro e w2 ⟨rfl, hb2⟩))
      refine hide2 w (fun W kk0 kk1 s0 s1 HE => ?_) (below_call hb1 hb2)
      clear hb1 hb2
      go_wp2_with (go_at_call 62; refine (cc _).mono ?_; rintro e w3 ⟨rfl, hb3⟩; have HE3 := HE.call hb3)
      go_ret
      exact ⟨rfl, Ext.end HE3⟩
 exact hm _ rfl
end Go.Proofs.YtmoimcblmmcffaaGreat.NC

namespace Go.Proofs.YtmoimcblmmcffaaGreat.NC
open Go.RowKit Go.Proofs.YtmoimcblmmcffaaGreat.B Go.Proofs.YtmoimcblmmcffaaGreat.N
set_option linter.unusedSimpArgs false
set_option linter.unusedVariables false
theorem hide_two {P : Program} {c : Code} {Q : Exit → Act → World → Prop} {a : Act} {w w1 w2 : World} {cs cs' : Array Value} {t t' : TypeId}
  (hb1 : Below w.heap.size w w1) (hb2 : Below (w1.alloc (.cells cs t (0, 0))).heap.size (w1.alloc (.cells cs t (0, 0))) w2)
  (h : ∀ W, (∀ i, W.cell? ⟨w1.heap.size, i, none⟩ = cs[i]?) → Own W w1.heap.size cs.size → (∀ i, W.cell? ⟨w2.heap.size, i, none⟩ = cs'[i]?) → w1.heap.size < w2.heap.size → w2.heap.size < W.heap.size → Below w.heap.size w W → w.heap.size ≤ w1.heap.size → c.wp P Q a W) :
  c.wp P Q a (w2.alloc (.cells cs' t' (0, 0))) := by
 have e1 : (w1.alloc (.cells cs t (0, 0))).heap.size = w1.heap.size + 1 := by simp
 have e2 : w1.heap.size + 1 ≤ w2.heap.size := by have := hb2.size; rw [e1] at this; exact this
 have ho := ((own_new w1 cs t).call hb2).alloc (.cells cs' t' (0, 0))
 refine h _ (fun i => ?_) ho (fun i => ?_) (by omega) (by simp) ?_ hb1.size
 ·have h1 := (bcell hb2).1 w1.heap.size i (by rw [e1]; omega)
  have h2 := cell_of_row (w1.alloc (.cells cs t (0, 0))) _ i cs t (0, 0) (heap_alloc_new w1 _)
  rw [h2] at h1
  rw [← h1]
  exact (bcell (below_alloc0 (Below.refl w2.heap.size w2) _)).1 w1.heap.size i (by omega)
 ·rw [cell_of_row _ _ i cs' t' (0, 0) (heap_alloc_new w2 _)]
 ·exact below_alloc0 (below_call (below_alloc0 hb1 _) hb2) _
def signR (s : Bool) (a b : Nat) : Nat := if (partsR s a).kind = 3 then nanN s else bitsR s { partsR s a with neg := decide (b / signN s = 1) }
def opR (op : Int) (s : Bool) (a b : Nat) : Nat :=
 if op = 0 then addR s a b else if op = 1 then subR s a b else if op = 2 then mulR s a b else if op = 3 then divR s a b else if op = 4 then signR s a b else extR (decide (op = 6)) s a b
set_option maxRecDepth 100000 in
set_option maxHeartbeats 8000000 in
theorem signR_c (s : Bool) (a b : Nat) (w : World) (ha : (a : Int) < topV s) (hb : (b : Int) < topV s) : Calls Tryz.prog 20 #[.int .i64 4, .int .i64 (tv s), .int .u64 (a : Int), .int .u64 (b : Int)] w (Ret (.int .u64 (signR s a b : Int)) w) := by
 have c1 := fun w => parts_c s a w ha
 have cn := nanR_c s
 have cf := formatOf_c s
 have hb0 : (b : Int) < ((2 * signN s : Nat) : Int) := by rw [← top_sgn]; exact hb
 rw [nan_eq] at cn
 have cb := fun w => bits_c s _ w (PP.ok_neg (parts_ok s a) (decide (b / signN s = 1)))
 clear ha hb
 unfold signR
 obtain ⟨R, hR⟩ : ∃ R, bitsR s { partsR s a with neg := decide (b / signN s = 1) } = R := ⟨_, rfl⟩
 rw [hR] at cb ⊢
 clear hR
 obtain ⟨p, hp⟩ : ∃ p, partsR s a = p := ⟨_, rfl⟩
 rw [hp] at cb ⊢
 rw [hp] at c1
 clear hp
 obtain ⟨k1, n1, g1, x1⟩ := p
 simp only [PP.v] at c1 cb
 simp only
 by_cases h1 : k1 = 3
 ·subst h1
  rw [if_pos rfl]
  go_enter Tryz.func20, Tryz.ntmps20
  go_upto_region 12 with ((go_at_call 21; (with_reducible refine (c1 _).mono ?_); rintro e w1 ⟨rfl, hb1⟩))
  refine hide1 w (fun W kk0 s0 HE => ?_) (below_end)
  clear hb1 cb cf
  go_wp2_with (go_at_call 67; refine (cn _).mono ?_; rintro e w3 ⟨rfl, hb3⟩)
  go_ret
  exact ⟨rfl, Ext.end (HE.call hb3)⟩
 ·rw [if_neg h1]
  have f1 : (k1 == 3) = false := by simpa using h1
  obtain ⟨z, hz⟩ : ∃ z, decide (b / signN s = 1) = z := ⟨_, rfl⟩
  rw [hz] at cb
  have hq : (s = false ∧ ((b : Int) / 9223372036854775808 == 1) = z) ∨ (s = true ∧ ((b : Int) / 2147483648 == 1) = z) := by
   rw [← hz]
   cases s
   ·refine .inl ⟨rfl, ?_⟩
    show ((b : Int) / 9223372036854775808 == 1) = decide (b / 9223372036854775808 = 1)
    rw [Bool.eq_iff_iff]; simp; omega
   ·refine .inr ⟨rfl, ?_⟩
    show ((b : Int) / 2147483648 == 1) = decide (b / 2147483648 = 1)
    rw [Bool.eq_iff_iff]; simp; omega
  clear hz hb0 cn
  rcases hq with ⟨rfl, hq⟩ | ⟨rfl, hq⟩
  all_goals
   unfold fmtV at cf
   go_enter Tryz.func20, Tryz.ntmps20
   go_upto_region 15 with (first | (go_at_call 21; (with_reducible refine (c1 _).mono ?_); rintro e w1 ⟨rfl, hb1⟩) | (go_at_call 68; refine (cf _).mono ?_; rintro e w2 ⟨rfl, hb2⟩))
   refine hide_two hb1 hb2 (fun W kk ho kf s0 s1 hW hw => ?_)
   clear hb1 hb2 c1 cf
   generalize w1.heap.size = g at *
   generalize w2.heap.size = gf at *
   go_upto_region 16 with (fail)
   have HB := fun v => Below.setCell hW (show w.heap.size ≤ (⟨g, 1, none⟩ : Addr).block from hw) v
   go_wp2_with (go_at_call 69; refine (cb _).mono ?_; rintro e w3 ⟨rfl, hb3⟩)
   go_ret
   exact ⟨rfl, below_call (HB _) hb3⟩
set_option maxRecDepth 100000 in
set_option maxHeartbeats 8000000 in
theorem applyR_c (op : Int) (s : Bool) (a b : Nat) (w : World) (ha : (a : Int) < topV s) (hb : (b : Int) < topV s) (h0 : 0 ≤ op) (h6 : op ≤ 6) : Calls Tryz.prog 20 #[.int .i64 op, .int .i64 (tv s), .int .u64 (a : Int), .int .u64 (b : Int)] w (Ret (.int .u64 (opR op s a b : Int)) w) := by
 have ho : op = 4 ∨ op = 0 ∨ op = 1 ∨ op = 2 ∨ op = 3 ∨ op = 5 ∨ op = 6 := by omega
 have k0 := fun w => add_c s a b w ha hb
 have k1 := fun w => minus2_c s a b w ha hb
 have k2 := fun w => mul_c s a b w ha hb
 have k3 := fun w => div_c s a b w ha hb
 have k5 := fun w => ext_c false s a b w ha hb
 have k6 := fun w => ext_c true s a b w ha hb
 rcases ho with rfl | ho
 ·exact signR_c s a b w ha hb
 ·clear h0 h6 ha hb
  unfold opR
  rcases ho with rfl | rfl | rfl | rfl | rfl | rfl
  all_goals
   simp only [if_true, if_false, Int.reduceEq, decide_true, decide_false, if_neg, if_pos]
   generalize addR s a b = r0 at *
   generalize subR s a b = r1 at *
   generalize mulR s a b = r2 at *
   generalize divR s a b = r3 at *
   generalize extR false s a b = r5 at *
   generalize extR true s a b = r6 at *
   go_enter Tryz.func20, Tryz.ntmps20
   go_wp2_with (first | (go_at_call 63; refine (k0 _).mono ?_; rintro e w1 ⟨rfl, hb1⟩) | (go_at_call 64; refine (k1 _).mono ?_; rintro e w1 ⟨rfl, hb1⟩) | (go_at_call 65; refine (k2 _).mono ?_; rintro e w1 ⟨rfl, hb1⟩) | (go_at_call 66; refine (k3 _).mono ?_; rintro e w1 ⟨rfl, hb1⟩) | (go_at_call 70; (with_reducible refine (k5 _).mono ?_); rintro e w1 ⟨rfl, hb1⟩) | (go_at_call 70; (with_reducible refine (k6 _).mono ?_); rintro e w1 ⟨rfl, hb1⟩))
   go_ret
   exact ⟨rfl, hb1⟩
def fromR (s : Bool) (n : Int) : Nat := roundR s (decide (n < 0)) n.natAbs 0 false
set_option maxRecDepth 100000 in
theorem fromR_c (s : Bool) (n : Int) (w : World) (h0 : -2147483648 ≤ n) (h1 : n ≤ 2147483647) : Calls Tryz.prog 23 #[.int .i64 (tv s), .int .i64 n] w (Ret (.int .u64 (fromR s n : Int)) w) := by
 have cs := fun w => size_c w n (by omega) (by omega)
 have cn := fun w => nat_c w (n := n.natAbs) (by omega)
 have hl : (digs n.natAbs).length ≤ 1000 := by
  have h2 : n.natAbs < 2 ^ 32 := by omega
  have := len_bits h2
  omega
 have cr := fun A c w hB hc => round_c s (decide (n < 0)) n.natAbs 0 false A c w hB hc hl (by decide) (by decide)
 unfold fromR
 generalize roundR s (decide (n < 0)) n.natAbs 0 false = R at *
 obtain ⟨z, hz⟩ : ∃ z, decide (n < 0) = z := ⟨_, rfl⟩
 rw [hz] at cr
 clear hl h0 h1
 generalize n.natAbs = m at *
 go_enter Tryz.func23, Tryz.ntmps23
 go_wp2_with (first | (go_at_call 76; refine (cs _).mono ?_; rintro e w1 ⟨rfl, hb1⟩) | (go_at_call 75; refine (cn _).mono ?_; rintro e w2 ⟨A2, c2, rfl, hc2, hB2, hb2⟩) | (go_at_call 74; refine (cr _ _ _ hB2 hc2).mono ?_; rintro e w3 ⟨rfl, hb3⟩))
 go_ret
 exact ⟨rfl, below_call (below_call hb1 hb2) hb3⟩
def isNumR (s : Bool) (a : Nat) : Bool := (partsR s a).kind == 0 || (partsR s a).kind == 1
theorem isNum_c (s : Bool) (a : Nat) (w : World) (ha : (a : Int) < topV s) : Calls Tryz.prog 17 #[.int .i64 (tv s), .int .u64 (a : Int)] w (Ret (.bool (isNumR s a)) w) := by
 have c1 := fun w => parts_c s a w ha
 clear ha
 unfold isNumR
 obtain ⟨q, hq⟩ : ∃ q, partsR s a = q := ⟨_, rfl⟩
 rw [hq]
 rw [hq] at c1
 clear hq
 obtain ⟨k2, n2, g2, x2⟩ := q
 simp only [PP.v] at c1
 have hfd := fun w => fld0 w k2 n2 g2 x2
 generalize tv s = t at *
 by_cases h : k2 = 0
 ·subst h
  go_enter Tryz.func17, Tryz.ntmps17
  go_wp2_with ((go_at_call 21; refine (c1 _).mono ?_; rintro e w2 ⟨rfl, hb2⟩))
  go_ret
  exact ⟨rfl, hb2⟩
 ·have f : (k2 == 0) = false := by simpa using h
  have f3 : ((k2 == 0) || (k2 == 1)) = (k2 == 1) := by rw [f]; rfl
  show Calls _ _ _ _ (Ret (.bool ((k2 == 0) || (k2 == 1))) w)
  rw [f3]
  clear f3
  go_enter Tryz.func17, Tryz.ntmps17
  go_wp2_with ((go_at_call 21; refine (c1 _).mono ?_; rintro e w2 ⟨rfl, hb2⟩))
  go_ret
  exact ⟨rfl, hb2⟩
end Go.Proofs.YtmoimcblmmcffaaGreat.NC

namespace Go.Proofs.YtmoimcblmmcffaaGreat.NC
open Go.RowKit Go.Proofs.YtmoimcblmmcffaaGreat.B Go.Proofs.YtmoimcblmmcffaaGreat.N
set_option linter.unusedSimpArgs false
set_option linter.unusedVariables false
abbrev fm (s : Bool) : Ieee.Format := (fkOf s).format
theorem fm_binade (s : Bool) : (fm s).binade = lowN s := by cases s <;> decide
theorem fm_least (s : Bool) : (fm s).leastPlace = leastN s := by cases s <;> decide
theorem fm_sign (s : Bool) : (fm s).signWeight = signN s := by cases s <;> decide
theorem fm_inf (s : Bool) : (fm s).infRung = lowN s * (fieldN s - 1) := by cases s <;> decide
theorem fm_prec (s : Bool) : precN s = (fm s).fractionBits + 1 := by cases s <;> rfl
theorem low_prec (s : Bool) : 2 ^ precN s = 2 * lowN s := by cases s <;> rfl
theorem low_pos (s : Bool) : 0 < lowN s := by cases s <;> decide
theorem field_three (s : Bool) : 3 ≤ fieldN s := by cases s <;> decide
theorem low_field (s : Bool) : lowN s * fieldN s = signN s := by cases s <;> rfl
theorem most_field (s : Bool) : (fieldN s : Int) - 3 + leastN s = mostN s := by cases s <;> decide
theorem fm_word (s neg : Bool) (r : Nat) : (fm s).word neg r = sgnN s neg + r := by
 unfold Ieee.Format.word sgnN
 rw [fm_sign]
 cases neg <;> simp
theorem inf_ge (s : Bool) : (fm s).binade ≤ (fm s).infRung := by cases s <;> decide
inductive Told (s : Bool) (a : Nat) : PP → Prop
 | zero (neg : Bool) (h : a = (fm s).word neg 0) (hr : (fm s).read a = .number neg 0 (leastN s)) : Told s a ⟨0, neg, 0, 0⟩
 | fin (neg : Bool) (m : Nat) (e : Int) (r : Nat) (h0 : 0 < r) (h1 : r < (fm s).infRung) (h : a = (fm s).word neg r) (hm : 1 ≤ m) (hm2 : m < 2 * lowN s) (he : leastN s ≤ e) (he2 : e ≤ mostN s) (hb : ∀ n, bitsR s ⟨1, n, m, e⟩ = (fm s).word n r) (hr : (fm s).read a = .number neg m e) : Told s a ⟨1, neg, m, e⟩
 | inf (neg : Bool) (h : a = (fm s).word neg (fm s).infRung) (hr : (fm s).read a = .infinity neg) : Told s a ⟨2, neg, 0, 0⟩
 | nan (neg : Bool) (r t : Nat) (n : Bool) (h0 : (fm s).infRung < r) (h1 : r < signN s) (h : a = (fm s).word neg r) (hr : (fm s).read a = .nan n t) : Told s a ⟨3, false, 0, 0⟩
theorem told (s : Bool) (a : Nat) (ha : a < 2 * signN s) : Told s a (partsR s a) := by
 have hl := low_pos s
 have hf3 := field_three s
 have hlf := low_field s
 have hmf := most_field s
 have hr : a % lowN s < lowN s := Nat.mod_lt _ hl
 have hf : a / lowN s % fieldN s < fieldN s := Nat.mod_lt _ (by omega)
 have hrung : a % signN s = a % lowN s + lowN s * (a / lowN s % fieldN s) := by rw [← hlf, Nat.mod_mul]
 have hdiv : a / lowN s / fieldN s = a / signN s := by rw [Nat.div_div_eq_div_mul, hlf]
 have hs0 : 0 < signN s := by cases s <;> decide
 have hd2 : a / signN s < 2 := (Nat.div_lt_iff_lt_mul hs0).2 ha
 have hneg : (a / signN s % 2 == 1) = decide (a / lowN s / fieldN s = 1) := by
  rw [hdiv, Nat.mod_eq_of_lt hd2]
  rw [Bool.eq_iff_iff]; simp
 have hword : a = (fm s).word (decide (a / lowN s / fieldN s = 1)) (a % signN s) := by
  rw [fm_word, hdiv]
  unfold sgnN
  have e := Nat.div_add_mod a (signN s)
  by_cases h1 : a / signN s = 1
  ·rw [decide_eq_true h1, if_pos rfl]; rw [h1, Nat.mul_one] at e; omega
  ·rw [decide_eq_false h1, if_neg (by decide)]
   have h0 : a / signN s = 0 := (by omega : ∀ q : Nat, q < 2 → ¬ q = 1 → q = 0) _ hd2 h1
   rw [h0, Nat.mul_zero] at e; omega
 have hread : (fm s).read a = if a % signN s < lowN s then .number (decide (a / lowN s / fieldN s = 1)) (a % signN s) (leastN s)
   else if a % signN s < lowN s * (fieldN s - 1) then .number (decide (a / lowN s / fieldN s = 1)) (lowN s + a % signN s % lowN s) (leastN s + (a % signN s / lowN s - 1 : Nat))
   else if a % signN s = lowN s * (fieldN s - 1) then .infinity (decide (a / lowN s / fieldN s = 1)) else .nan (decide (a / lowN s / fieldN s = 1)) (a % signN s - lowN s * (fieldN s - 1)) := by
  unfold Ieee.Format.read
  simp only [fm_binade, fm_least, fm_sign, fm_inf, hneg]
 have hlt : a % signN s < signN s := Nat.mod_lt _ hs0
 unfold partsR
 generalize decide (a / lowN s / fieldN s = 1) = neg at *
 generalize a / lowN s % fieldN s = f at *
 have hdv : a % signN s / lowN s = f := by rw [hrung, Nat.add_mul_div_left _ _ hl, Nat.div_eq_of_lt hr, Nat.zero_add]
 have hmd : a % signN s % lowN s = a % lowN s := by rw [hrung, Nat.add_mul_mod_self_left, Nat.mod_mod]
 have hfin := fm_inf s
 rw [hdv, hmd] at hread
 generalize a % signN s = u at *
 generalize a % lowN s = r at *
 clear hneg hdiv hd2 hdv hmd
 have hcase := parts_leaf (s := s) (f := f) (r := r) (neg := neg) rfl
 rcases hcase with ⟨h1, h2, h⟩ | ⟨h1, h2, h⟩ | ⟨h1, h2, h3, h⟩ | ⟨h1, h2, h3, h⟩ | ⟨h1, h2, h⟩ <;> rw [h]
 ·subst h2
  have hu : u = lowN s * (fieldN s - 1) := by rw [hrung, show fieldN s - 1 = f from by omega]; omega
  have hge : lowN s * 1 ≤ lowN s * (fieldN s - 1) := Nat.mul_le_mul_left _ (by omega)
  rw [if_neg (by omega), if_neg (by omega), if_pos hu] at hread
  refine .inf neg ?_ hread
  rw [hfin, ← hu]; exact hword
 ·have hu : u = r + lowN s * (fieldN s - 1) := by rw [hrung, show fieldN s - 1 = f from by omega]
  have hge : lowN s * 1 ≤ lowN s * (fieldN s - 1) := Nat.mul_le_mul_left _ (by omega)
  rw [if_neg (by omega), if_neg (by omega), if_neg (by omega)] at hread
  exact .nan neg u _ neg (by rw [hfin]; omega) hlt hword hread
 ·subst h2 h3
  have hu : u = 0 := by rw [hrung]; omega
  rw [hu] at hread hword
  rw [if_pos hl] at hread
  exact .zero neg hword hread
 ·subst h2
  have hu : u = r := by rw [hrung]; omega
  have hge : lowN s * 1 ≤ lowN s * (fieldN s - 1) := Nat.mul_le_mul_left _ (by omega)
  rw [hu] at hread hword
  rw [if_pos hr] at hread
  exact .fin neg r (leastN s) r (by omega) (by rw [hfin]; omega) hword (by omega) (by omega) (Int.le_refl _) (by omega) (fun n => by
   rw [fm_word]
   unfold bitsR sgnN
   simp [hr]) hread
 ·have hge : lowN s * 1 ≤ lowN s * f := Nat.mul_le_mul_left _ (by omega)
  have hlt2 : lowN s * (f + 1) ≤ lowN s * (fieldN s - 1) := Nat.mul_le_mul_left _ (by omega)
  rw [Nat.mul_add] at hlt2
  rw [if_neg (by omega), if_pos (by omega)] at hread
  have e1 : leastN s + ((f - 1 : Nat) : Int) = (f : Int) - 1 + leastN s := by omega
  rw [e1, Nat.add_comm (lowN s) r] at hread
  exact .fin neg (r + lowN s) ((f : Int) - 1 + leastN s) u (by omega) (by rw [hfin]; omega) hword (by omega) (by omega) (by omega) (by omega) (fun n => by
   rw [fm_word]
   unfold bitsR sgnN
   have n1 : ¬ r + lowN s < lowN s := by omega
   simp only [n1, if_false]
   rw [show ((f : Int) - 1 + leastN s - leastN s + 1).toNat = f from by omega]
   simp
   omega) hread
end Go.Proofs.YtmoimcblmmcffaaGreat.NC

namespace Go.Proofs.YtmoimcblmmcffaaGreat.NC
open Go.RowKit Go.Proofs.YtmoimcblmmcffaaGreat.B Go.Proofs.YtmoimcblmmcffaaGreat.N
set_option linter.unusedSimpArgs false
set_option linter.unusedVariables false
theorem bits_zero (s neg : Bool) : bitsR s ⟨0, neg, 0, 0⟩ = (fm s).word neg 0 := by
 rw [fm_word]; unfold bitsR sgnN; simp
theorem bits_inf (s neg : Bool) : bitsR s ⟨2, neg, 0, 0⟩ = (fm s).word neg (fm s).infRung := by
 rw [fm_word, fm_inf]; unfold bitsR sgnN; simp
theorem bits_nan (s neg : Bool) : bitsR s ⟨3, neg, 0, 0⟩ = nanN s := by unfold bitsR; simp
theorem bits_log (m : Nat) (h : m ≠ 0) : N.bits m = m.log2 + 1 := by unfold N.bits; rw [if_neg h]
theorem round_zero (s neg : Bool) (e : Int) (more : Bool) : roundR s neg 0 e more = (fm s).word neg 0 := by
 unfold roundR; rw [if_pos rfl, bits_zero]
theorem round_word (s neg : Bool) (m : Nat) (e : Int) (more : Bool) (hm : m ≠ 0) : roundR s neg m e more = (fm s).word neg (Fl.rung (fm s) (m * 8 + more.toNat) (e - 3)) := by
 have hm1 : m * 8 + more.toNat ≠ 0 := by omega
 unfold roundR
 rw [if_neg hm]
 simp only [moreOf]
 generalize m * 8 + more.toNat = M at *
 generalize e - 3 = E at *
 have hplace : placeOf s M E = Fl.lastOf (fm s) M E := by
  unfold placeOf Fl.lastOf
  rw [bits_log M hm1, fm_prec, fm_least]
  congr 1; omega
 have hkept : keptOf M E (Fl.lastOf (fm s) M E) = Fl.keptOf (fm s) M E := by
  unfold keptOf Fl.keptOf
  generalize Fl.lastOf (fm s) M E = L
  by_cases h : L ≤ E
  ·rw [if_pos h, show (L - E).toNat = 0 from by omega, Fl.rnd_zero, Nat.shiftLeft_eq]
  ·rw [if_neg h, show (E - L).toNat = 0 from by omega, Nat.shiftLeft_eq, Nat.pow_zero, Nat.mul_one]
 obtain ⟨r1, r2⟩ := Fl.kept_range (fm s) hm1 E
 have r3 := Fl.last_ge (fm s) M E
 rw [hplace, hkept]
 unfold Fl.rung
 rw [if_neg hm1]
 rw [fm_binade, fm_least] at *
 generalize Fl.lastOf (fm s) M E = L at *
 generalize Fl.keptOf (fm s) M E = k at *
 have hl := low_pos s
 have hlp := low_prec s
 have hmf := most_field s
 have hf3 := field_three s
 rw [fm_inf, fm_word]
 have hov : overOf s k L = if k = 2 * lowN s then (lowN s, L + 1) else (k, L) := by
  unfold overOf
  by_cases hk0 : k = 0
  ·subst hk0
   rw [if_neg (by unfold N.bits; simp), if_neg (by omega)]
  ·rw [bits_log k hk0]
   have hb : precN s < k.log2 + 1 ↔ 2 * lowN s ≤ k := by
    rw [← hlp, ← Nat.le_log2 hk0]; omega
   by_cases h2 : k = 2 * lowN s
   ·rw [if_pos (hb.2 (by omega)), if_pos h2, h2]; simp
   ·rw [if_neg (fun h => h2 (by have := hb.1 h; omega)), if_neg h2]
 rw [hov]
 have hpos : ∀ (m : Nat) (e : Int), m ≠ 0 → m < 2 * lowN s → leastN s ≤ e → (leastN s < e → lowN s ≤ m) → bitsR s (packOf s neg m e) = sgnN s neg + min ((e - leastN s).toNat * lowN s + m) (lowN s * (fieldN s - 1)) := by
  intro m e h0 h1 h2 h3
  unfold packOf
  rw [if_neg h0]
  by_cases hbig : e > mostN s
  ·rw [if_pos hbig]
   have hlow : lowN s ≤ m := h3 (by omega)
   have hge : lowN s * (fieldN s - 1) ≤ (e - leastN s).toNat * lowN s + m := by
    have : (fieldN s - 2) * lowN s ≤ (e - leastN s).toNat * lowN s := Nat.mul_le_mul_right _ (by omega)
    rw [show fieldN s - 1 = fieldN s - 2 + 1 from by omega, Nat.mul_comm, Nat.add_mul, Nat.one_mul]
    omega
   rw [Nat.min_eq_right hge, bits_inf, fm_word, fm_inf]
  ·rw [if_neg hbig]
   unfold bitsR sgnN
   simp only [Int.reduceEq, if_false]
   congr 1
   by_cases hlow : m < lowN s
   ·have he : e = leastN s := by
     rcases Int.lt_or_le (leastN s) e with h | h
     ·have := h3 h; omega
     ·omega
    rw [if_pos hlow, he, Int.sub_self]
    have : lowN s * 1 ≤ lowN s * (fieldN s - 1) := Nat.mul_le_mul_left _ (by omega)
    simp; omega
   ·rw [show (e - leastN s + 1).toNat = (e - leastN s).toNat + 1 from by omega]
    have : ((e - leastN s).toNat + 2) * lowN s ≤ (fieldN s - 1) * lowN s := Nat.mul_le_mul_right _ (by omega)
    rw [Nat.mul_comm (lowN s) (fieldN s - 1), Nat.mul_comm (lowN s)]
    rw [Nat.add_mul] at this ⊢
    rw [if_neg hlow]
    omega
 by_cases hk0 : k = 0
 ·subst hk0
  have hL : L = leastN s := by
   rcases Int.lt_or_le (leastN s) L with h | h
   ·have := r2 h; omega
   ·omega
  rw [if_neg (by omega), hL, Int.sub_self]
  unfold packOf
  rw [if_pos rfl]
  unfold bitsR sgnN
  simp
 ·by_cases h2 : k = 2 * lowN s
  ·rw [if_pos h2]
   rw [hpos (lowN s) (L + 1) (by omega) (by omega) (by omega) (fun _ => Nat.le_refl _), h2, show (L + 1 - leastN s).toNat = (L - leastN s).toNat + 1 from by omega, Nat.add_mul]
   congr 2; omega
  ·rw [if_neg h2]
   exact hpos k L hk0 (by omega) r3 r2
theorem round_exact (s neg : Bool) (m : Nat) (e : Int) : roundR s neg m e false = (fm s).word neg (Fl.rung (fm s) m e) := by
 by_cases hm : m = 0
 ·subst hm; rw [round_zero, Fl.rung_zero]
 ·rw [round_word s neg m e false hm]
  have := Fl.rung_scale (fm s) m 3 (e - 3)
  rw [show e - 3 + ((3 : Nat) : Int) = e from by omega] at this
  simp only [Bool.toNat_false, Nat.add_zero]
  rw [← this]
theorem round_near (s neg : Bool) (m : Nat) (e : Int) : roundR s neg m e false = (fm s).nearest neg m e := by rw [round_exact, Fl.nearest_rung]
theorem word_lt (s neg : Bool) {r : Nat} (h : r < signN s) : (fm s).word neg r < 2 * signN s := by
 rw [fm_word]; unfold sgnN; cases neg <;> simp <;> omega
theorem word_mod (s neg : Bool) {r : Nat} (h : r < signN s) : (((fm s).word neg r : Nat) : Int) % signV s = (r : Int) := by
 have hs : signV s = (signN s : Int) := by cases s <;> rfl
 rw [hs, fm_word]
 unfold sgnN
 have : (sgnN s neg + r) % signN s = r := by
  unfold sgnN
  cases neg
  ·simp [Nat.mod_eq_of_lt h]
  ·simp [Nat.mod_eq_of_lt h]
 unfold sgnN at this
 exact_mod_cast this
theorem inf_lt (s : Bool) : (fm s).infRung < signN s := by cases s <;> decide
theorem infV_eq (s : Bool) : infV s = ((fm s).infRung : Int) := by cases s <;> decide
theorem nothing_word (s neg : Bool) {r : Nat} (h : r < signN s) : nothingV s ((fm s).word neg r : Nat) = decide ((fm s).infRung < r) := by
 rw [nothing_iff s _ (by omega) (by rw [top_sgn]; exact_mod_cast word_lt s neg h), word_mod s neg h, infV_eq]
 exact decide_eq_decide.2 (by omega)
theorem clean_word (s neg : Bool) {r : Nat} (h : r ≤ (fm s).infRung) : cleanV s ((fm s).word neg r : Nat) = ((fm s).word neg r : Nat) := by
 unfold cleanV
 rw [nothing_word s neg (Nat.lt_of_le_of_lt h (inf_lt s)), decide_eq_false (by omega)]
 simp
theorem clean_near (s neg : Bool) (m : Nat) (e : Int) : cleanV s ((fm s).nearest neg m e : Nat) = ((fm s).nearest neg m e : Nat) := by
 rw [Fl.nearest_rung]; exact clean_word s neg (Fl.rung_le _ _ _)
end Go.Proofs.YtmoimcblmmcffaaGreat.NC

namespace Go.Proofs.YtmoimcblmmcffaaGreat.NC
open Go.RowKit Go.Proofs.YtmoimcblmmcffaaGreat.B Go.Proofs.YtmoimcblmmcffaaGreat.N
set_option linter.unusedSimpArgs false
set_option linter.unusedVariables false
theorem sg_zero (s : Bool) (k : Nat) : Ieee.signed s 0 k = 0 := by unfold Ieee.signed; simp
theorem sg_val (s : Bool) (m : Nat) : Ieee.signed s m 0 = if s then -(m : Int) else (m : Int) := by unfold Ieee.signed; simp
theorem sumX_total (a : Bool) (x : Nat) (b : Bool) (y : Nat) : sumX a x b y = (decide (Ieee.signed a x 0 + Ieee.signed b y 0 < 0), (Ieee.signed a x 0 + Ieee.signed b y 0).natAbs) := by
 rw [sg_val, sg_val]
 unfold sumX
 cases a <;> cases b <;> simp only [if_true, if_false, Bool.false_eq_true, Bool.true_eq_false, Bool.false_and, Bool.true_and, reduceCtorEq]
 ·rw [decide_eq_false (by omega)]; congr 1 <;> omega
 ·by_cases h : x < y
  ·rw [if_pos h, decide_eq_true (by omega)]; congr 1 <;> omega
  ·rw [if_neg h, decide_eq_false (by omega)]; congr 1 <;> omega
 ·by_cases h : x < y
  ·rw [if_pos h, decide_eq_false (by omega)]; congr 1 <;> omega
  ·rw [if_neg h]
   by_cases h2 : x = y
   ·rw [decide_eq_false (by omega), decide_eq_false (by omega)]; congr 1 <;> omega
   ·rw [decide_eq_true (by omega), decide_eq_true (by omega)]; congr 1 <;> omega
 ·by_cases h : x + y = 0
  ·rw [decide_eq_false (by omega), decide_eq_false (by omega)]; congr 1 <;> omega
  ·rw [decide_eq_true (by omega), decide_eq_true (by omega)]; congr 1 <;> omega
theorem res_num {s : Bool} {op : BinOp} {a b : Nat} {n : Bool} {m : Nat} {e : Int} (h : floatBits op (fkOf s) a b = some ((fm s).nearest n m e)) : resV s op a b = ((fm s).nearest n m e : Nat) := by
 unfold resV; rw [h]; exact clean_near s n m e
theorem res_inf {s : Bool} {op : BinOp} {a b : Nat} {n : Bool} (h : floatBits op (fkOf s) a b = some ((fm s).word n (fm s).infRung)) : resV s op a b = (bitsR s ⟨2, n, 0, 0⟩ : Nat) := by
 unfold resV; rw [h, bits_inf]; exact clean_word s n (Nat.le_refl _)
theorem res_nan {s : Bool} {op : BinOp} {a b : Nat} (h : floatBits op (fkOf s) a b = none) : resV s op a b = (nanN s : Nat) := by
 unfold resV; rw [h]; exact nan_eq s
theorem near_shift (s n : Bool) (g : Nat) (x e : Int) (h : e ≤ x) : (fm s).nearest n (g * 2 ^ (x - e).toNat) e = (fm s).nearest n g x := by
 rw [Fl.nearest_rung, Fl.nearest_rung, Fl.rung_scale]
 congr 2; omega
theorem near_zero (s n : Bool) (e : Int) : (fm s).nearest n 0 e = bitsR s ⟨0, n, 0, 0⟩ := by
 rw [Fl.nearest_rung, Fl.rung_zero, bits_zero]
theorem natAbs_sg (s : Bool) (m k : Nat) : (Ieee.signed s m k).natAbs = m * 2 ^ k ∧ (0 < m → decide (Ieee.signed s m k < 0) = s) ∧ (0 < m → Ieee.signed s m k ≠ 0) := by
 rw [Fl.signed_eq, sg_val]
 have hp : 0 < 2 ^ k := Nat.two_pow_pos _
 have hq : 0 < m → 0 < m * 2 ^ k := fun h => Nat.mul_pos h hp
 generalize m * 2 ^ k = z at *
 refine ⟨?_, fun h => ?_, fun h => ?_⟩
 ·cases s <;> simp
 ·have := hq h
  cases s <;> simp <;> omega
 ·have := hq h
  cases s <;> simp <;> omega
theorem add_told {s : Bool} {a b : Nat} {p q : PP} (ha : Told s a p) (hb : Told s b q) : resV s .add a b = (addP s p q : Nat) := by
 have hf : floatBits .add (fkOf s) a b = ((((fm s).read a).sum ((fm s).read b)).map (fm s).write) := rfl
 unfold addP
 cases ha with
 | nan n1 r1 t1 u1 h10 h11 h1 hr1 =>
  simp only [true_or, if_true]
  refine res_nan ?_
  rw [hf, hr1]; rfl
 | inf n1 h1 hr1 =>
  cases hb with
  | nan n2 r2 t2 u2 h20 h21 h2 hr2 =>
   simp only [or_true, if_true]
   refine res_nan ?_
   rw [hf, hr1, hr2]; rfl
  | inf n2 h2 hr2 =>
   simp only [Int.reduceEq, or_self, if_false, if_true, true_and]
   by_cases hn : n1 = n2
   ·subst hn
    simp only [ne_eq, not_true_eq_false, if_false]
    refine res_inf ?_
    rw [hf, hr1, hr2]
    show Option.map _ (if n1 = n1 then some (Ieee.Datum.infinity n1) else none) = _
    rw [if_pos rfl]; rfl
   ·simp only [ne_eq, hn, not_false_eq_true, if_true]
    refine res_nan ?_
    rw [hf, hr1, hr2]
    show Option.map _ (if n1 = n2 then some (Ieee.Datum.infinity n1) else none) = _
    rw [if_neg hn]; rfl
  | zero n2 h2 hr2 =>
   simp only [Int.reduceEq, or_self, if_false, if_true, false_and]
   refine res_inf ?_
   rw [hf, hr1, hr2]; rfl
  | fin n2 m2 e2 r2 h20 h21 h2 hm2 hm22 he2 he22 hb2 hr2 =>
   simp only [Int.reduceEq, or_self, if_false, if_true, false_and]
   refine res_inf ?_
   rw [hf, hr1, hr2]; rfl
 | zero n1 h1 hr1 =>
  cases hb with
  | nan n2 r2 t2 u2 h20 h21 h2 hr2 =>
   simp only [or_true, if_true]
   refine res_nan ?_
   rw [hf, hr1, hr2]; rfl
  | inf n2 h2 hr2 =>
   simp only [Int.reduceEq, or_self, if_false, if_true]
   refine res_inf ?_
   rw [hf, hr1, hr2]; rfl
  | zero n2 h2 hr2 =>
   simp only [Int.reduceEq, or_self, if_false, if_true, and_self]
   rw [← near_zero s (n1 && n2) (leastN s)]
   refine res_num ?_
   rw [hf, hr1, hr2]
   show some ((fm s).nearest _ _ _) = _
   simp only [sg_zero, Int.add_zero, if_true, Int.natAbs_zero, Int.min_self]
  | fin n2 m2 e2 r2 h20 h21 h2 hm2 hm22 he2 he22 hb2 hr2 =>
   simp only [Int.reduceEq, or_self, if_false, and_false, Nat.zero_mul]
   rw [sumX_total, round_near]
   simp only [sg_zero, Int.zero_add]
   obtain ⟨k1, k2, k3⟩ := natAbs_sg n2 (m2 * 2 ^ (e2 - min 0 e2).toNat) 0
   have hpos : 0 < m2 * 2 ^ (e2 - min 0 e2).toNat := Nat.mul_pos hm2 (Nat.two_pow_pos _)
   rw [k1, k2 hpos, Nat.pow_zero, Nat.mul_one, near_shift s n2 m2 e2 _ (by omega)]
   obtain ⟨j1, j2, j3⟩ := natAbs_sg n2 m2 (e2 - min (leastN s) e2).toNat
   rw [← near_shift s n2 m2 e2 (min (leastN s) e2) (by omega), ← j1]
   refine res_num ?_
   rw [hf, hr1, hr2]
   show some ((fm s).nearest _ _ _) = _
   simp only [sg_zero, Int.zero_add]
   rw [if_neg (j3 hm2), j2 hm2]
 | fin n1 m1 e1 r1 h10 h11 h1 hm1 hm12 he1 he12 hb1 hr1 =>
  cases hb with
  | nan n2 r2 t2 u2 h20 h21 h2 hr2 =>
   simp only [or_true, if_true]
   refine res_nan ?_
   rw [hf, hr1, hr2]; rfl
  | inf n2 h2 hr2 =>
   simp only [Int.reduceEq, or_self, if_false, if_true]
   refine res_inf ?_
   rw [hf, hr1, hr2]; rfl
  | zero n2 h2 hr2 =>
   simp only [Int.reduceEq, or_self, if_false, false_and, Nat.zero_mul]
   rw [sumX_total, round_near]
   simp only [sg_zero, Int.add_zero]
   obtain ⟨k1, k2, k3⟩ := natAbs_sg n1 (m1 * 2 ^ (e1 - min e1 0).toNat) 0
   have hpos : 0 < m1 * 2 ^ (e1 - min e1 0).toNat := Nat.mul_pos hm1 (Nat.two_pow_pos _)
   rw [k1, k2 hpos, Nat.pow_zero, Nat.mul_one, near_shift s n1 m1 e1 _ (by omega)]
   obtain ⟨j1, j2, j3⟩ := natAbs_sg n1 m1 (e1 - min e1 (leastN s)).toNat
   rw [← near_shift s n1 m1 e1 (min e1 (leastN s)) (by omega), ← j1]
   refine res_num ?_
   rw [hf, hr1, hr2]
   show some ((fm s).nearest _ _ _) = _
   simp only [sg_zero, Int.add_zero]
   rw [if_neg (j3 hm1), j2 hm1]
  | fin n2 m2 e2 r2 h20 h21 h2 hm2 hm22 he2 he22 hb2 hr2 =>
   simp only [Int.reduceEq, or_self, if_false, and_self]
   rw [sumX_total, round_near]
   refine res_num ?_
   rw [hf, hr1, hr2]
   show some ((fm s).nearest _ _ _) = _
   simp only [← Fl.signed_eq]
   generalize hT : Ieee.signed n1 m1 (e1 - min e1 e2).toNat + Ieee.signed n2 m2 (e2 - min e1 e2).toNat = T
   by_cases h0 : T = 0
   ·rw [if_pos h0, h0]
    simp only [Int.natAbs_zero]
    have hne : (n1 && n2) = false := by
     cases n1 <;> cases n2 <;> simp
     rw [Fl.signed_eq true m1, Fl.signed_eq true m2, sg_val, sg_val, h0] at hT
     have : 0 < m1 * 2 ^ (e1 - min e1 e2).toNat := Nat.mul_pos hm1 (Nat.two_pow_pos _)
     generalize m1 * 2 ^ (e1 - min e1 e2).toNat = z1 at *
     simp only [if_true] at hT
     omega
    rw [hne]
    rfl
   ·rw [if_neg h0]
end Go.Proofs.YtmoimcblmmcffaaGreat.NC

namespace Go.Proofs.YtmoimcblmmcffaaGreat.NC
open Go.RowKit Go.Proofs.YtmoimcblmmcffaaGreat.B Go.Proofs.YtmoimcblmmcffaaGreat.N
set_option linter.unusedSimpArgs false
set_option linter.unusedVariables false
theorem add_eq {s : Bool} {a b : Nat} (ha : a < 2 * signN s) (hb : b < 2 * signN s) : resV s .add a b = (addR s a b : Nat) := add_told (told s a ha) (told s b hb)
theorem neg_told {s : Bool} {b : Nat} {p : PP} (hb : Told s b p) (hk : p.kind ≠ 3) : (fm s).read (bitsR s { p with neg := !p.neg && p.kind != 3 }) = ((fm s).read b).opposite := by
 cases hb with
 | nan n2 r2 t2 u2 h20 h21 h2 hr2 => exact absurd rfl hk
 | zero n h hr =>
  rw [hr]
  simp only [Int.reduceEq]
  show (fm s).read (bitsR s ⟨0, !n && true, 0, 0⟩) = .number (!n) 0 (leastN s)
  rw [Bool.and_true, bits_zero, Fl.read_word_sub (fm s) (!n) 0 (by rw [fm_binade]; exact low_pos s), fm_least]
 | inf n h hr =>
  rw [hr]
  show (fm s).read (bitsR s ⟨2, !n && true, 0, 0⟩) = .infinity (!n)
  rw [Bool.and_true, bits_inf, Fl.read_word_inf (fm s) (!n) (inf_ge s)]
 | fin n m e r h0 h1 h hm hm2 he he2 hbn hr =>
  rw [hr]
  show (fm s).read (bitsR s ⟨1, !n && true, m, e⟩) = .number (!n) m e
  rw [Bool.and_true, hbn]
  rw [h] at hr
  have hlt : r < (fm s).signWeight := by rw [fm_sign]; exact Nat.lt_trans h1 (inf_lt s)
  obtain ⟨a1, a2⟩ := Fl.word_parts (fm s) n r hlt
  obtain ⟨b1, b2⟩ := Fl.word_parts (fm s) (!n) r hlt
  unfold Ieee.Format.read at hr ⊢
  simp only [a1, a2, b1, b2] at hr ⊢
  split at hr
  ·rename_i h3; rw [if_pos h3]; injection hr with h4 h5 h6; rw [h5, h6]
  ·rename_i h3
   rw [if_neg h3]
   rw [if_pos h1]
   first | (rw [if_pos h1] at hr; injection hr with h5 h6 h7; rw [h6, h7]) | (injection hr with h5 h6 h7; rw [h6, h7])
theorem sub_eq {s : Bool} {a b : Nat} (ha : a < 2 * signN s) (hb : b < 2 * signN s) : resV s .sub a b = (subR s a b : Nat) := by
 have hf : floatBits .sub (fkOf s) a b = ((((fm s).read a).sum ((fm s).read b).opposite).map (fm s).write) := rfl
 have ht := told s b hb
 unfold subR
 by_cases hk : (partsR s b).kind = 3
 ·rw [if_pos hk]
  refine res_nan ?_
  rw [hf]
  generalize partsR s b = p at *
  cases ht with
  | nan n2 r2 t2 u2 h20 h21 h2 hr2 =>
   rw [hr2]
   cases (fm s).read a <;> rfl
  | zero n h hr => exact absurd (show (0 : Int) = 3 from hk) (by decide)
  | inf n h hr => exact absurd (show (2 : Int) = 3 from hk) (by decide)
  | fin n m e r h0 h1 h hm hm2 he he2 hbn hr => exact absurd (show (1 : Int) = 3 from hk) (by decide)
 ·rw [if_neg hk]
  have hn := neg_told ht hk
  have hlt : negR s b < 2 * signN s := by have := neg_lt s b; rw [top_sgn] at this; exact Int.ofNat_lt.1 this
  rw [← add_eq ha hlt]
  unfold resV
  have : floatBits .sub (fkOf s) a b = floatBits .add (fkOf s) a (negR s b) := by
   rw [hf]
   show _ = (((fm s).read a).sum ((fm s).read (negR s b))).map (fm s).write
   unfold negR
   rw [hn]
  rw [this]
theorem bne_xor (a b : Bool) : (a ^^ b) = (a != b) := by cases a <;> cases b <;> rfl
theorem mul_told {s : Bool} {a b : Nat} {p q : PP} (ha : Told s a p) (hb : Told s b q) : resV s .mul a b = (mulP s p q : Nat) := by
 have hf : floatBits .mul (fkOf s) a b = ((((fm s).read a).product ((fm s).read b)).map (fm s).write) := rfl
 unfold mulP
 cases ha with
 | nan n1 r1 t1 u1 h10 h11 h1 hr1 =>
  simp only [true_or, if_true]
  refine res_nan ?_
  rw [hf, hr1]; rfl
 | inf n1 h1 hr1 =>
  cases hb with
  | nan n2 r2 t2 u2 h20 h21 h2 hr2 =>
   simp only [or_true, true_or, if_true]
   refine res_nan ?_
   rw [hf, hr1, hr2]; rfl
  | inf n2 h2 hr2 =>
   simp only [Int.reduceEq, or_self, and_false, false_and, if_false, if_true]
   rw [← bne_xor]
   refine res_inf ?_
   rw [hf, hr1, hr2]; rfl
  | zero n2 h2 hr2 =>
   simp only [Int.reduceEq, or_true, true_or, and_self, if_true]
   refine res_nan ?_
   rw [hf, hr1, hr2]; rfl
  | fin n2 m2 e2 r2 h20 h21 h2 hm2 hm22 he2 he22 hb2 hr2 =>
   simp only [Int.reduceEq, or_self, and_false, false_and, if_false, true_or, if_true]
   rw [← bne_xor]
   refine res_inf ?_
   rw [hf, hr1, hr2]
   show Option.map _ (if m2 = 0 then none else some (Ieee.Datum.infinity (n1 ^^ n2))) = _
   rw [if_neg (by omega)]; rfl
 | zero n1 h1 hr1 =>
  cases hb with
  | nan n2 r2 t2 u2 h20 h21 h2 hr2 =>
   simp only [or_true, true_or, if_true]
   refine res_nan ?_
   rw [hf, hr1, hr2]; rfl
  | inf n2 h2 hr2 =>
   simp only [Int.reduceEq, or_true, and_self, if_true]
   refine res_nan ?_
   rw [hf, hr1, hr2]; rfl
  | zero n2 h2 hr2 =>
   simp only [Int.reduceEq, or_self, and_false, false_and, if_false, Nat.zero_mul]
   rw [round_near, ← bne_xor, near_zero, ← near_zero s _ (leastN s + leastN s)]
   refine res_num ?_
   rw [hf, hr1, hr2]; rfl
  | fin n2 m2 e2 r2 h20 h21 h2 hm2 hm22 he2 he22 hb2 hr2 =>
   simp only [Int.reduceEq, or_self, and_false, false_and, if_false, Nat.zero_mul]
   rw [round_near, ← bne_xor, near_zero, ← near_zero s _ (leastN s + e2)]
   refine res_num ?_
   rw [hf, hr1, hr2]
   show some ((fm s).nearest (n1 ^^ n2) (0 * m2) (leastN s + e2)) = _
   rw [Nat.zero_mul]
 | fin n1 m1 e1 r1 h10 h11 h1 hm1 hm12 he1 he12 hb1 hr1 =>
  cases hb with
  | nan n2 r2 t2 u2 h20 h21 h2 hr2 =>
   simp only [or_true, true_or, if_true]
   refine res_nan ?_
   rw [hf, hr1, hr2]; rfl
  | inf n2 h2 hr2 =>
   simp only [Int.reduceEq, or_self, and_false, false_and, if_false, or_true, if_true]
   rw [← bne_xor]
   have hx : (n1 ^^ n2) = (n2 ^^ n1) := by cases n1 <;> cases n2 <;> rfl
   rw [hx]
   refine res_inf ?_
   rw [hf, hr1, hr2]
   show Option.map _ (if m1 = 0 then none else some (Ieee.Datum.infinity (n2 ^^ n1))) = _
   rw [if_neg (by omega)]; rfl
  | zero n2 h2 hr2 =>
   simp only [Int.reduceEq, or_self, and_false, false_and, if_false, Nat.mul_zero]
   rw [round_near, ← bne_xor, near_zero, ← near_zero s _ (e1 + leastN s)]
   refine res_num ?_
   rw [hf, hr1, hr2]; rfl
  | fin n2 m2 e2 r2 h20 h21 h2 hm2 hm22 he2 he22 hb2 hr2 =>
   simp only [Int.reduceEq, or_self, and_false, false_and, if_false]
   rw [round_near, ← bne_xor]
   refine res_num ?_
   rw [hf, hr1, hr2]; rfl
theorem mul_eq {s : Bool} {a b : Nat} (ha : a < 2 * signN s) (hb : b < 2 * signN s) : resV s .mul a b = (mulR s a b : Nat) := mul_told (told s a ha) (told s b hb)
theorem frac_le (s : Bool) : (fm s).fractionBits + 2 ≤ 54 ∧ lowN s = 2 ^ (fm s).fractionBits := by cases s <;> exact ⟨by decide, rfl⟩
theorem qs_ge {m n k F : Nat} (hn : 0 < n) (h : n * 2 ^ (F + 1) ≤ m * 2 ^ k) : 2 ^ (F + 2) ≤ Fl.qs (m * 2 ^ k) n := by
 unfold Fl.qs
 have h1 : 2 ^ (F + 1) ≤ m * 2 ^ k / n := (Nat.le_div_iff_mul_le hn).2 (by rw [Nat.mul_comm]; exact h)
 rw [show F + 2 = F + 1 + 1 from rfl, Nat.pow_succ]
 omega
theorem div_num (s : Bool) (n : Bool) (m1 m2 : Nat) (e1 e2 : Int) (hm1 : 1 ≤ m1) (hm2 : 1 ≤ m2) (hm22 : m2 < 2 * lowN s) :
  let more := (fm s).fractionBits + 2 + m2.log2 - m1.log2
  (fm s).nearest n (2 * ((m1 <<< more) / m2) + ((m1 <<< more) % m2 != 0).toNat) (e1 - e2 - more - 1) = roundR s n (m1 * 2 ^ 120 / m2) (e1 - e2 - 120) (decide (0 < m1 * 2 ^ 120 % m2)) := by
 intro more
 obtain ⟨f1, f2⟩ := frac_le s
 have hlog : m2 < 2 ^ (m2.log2 + 1) := Nat.lt_log2_self
 have hlog1 := Nat.log2_self_le (show m1 ≠ 0 by omega)
 have hm2b : m2 < 2 ^ 54 := by
  rw [f2] at hm22
  have : 2 * 2 ^ (fm s).fractionBits = 2 ^ ((fm s).fractionBits + 1) := by rw [Nat.pow_succ, Nat.mul_comm]
  rw [this] at hm22
  exact Nat.lt_of_lt_of_le hm22 (Nat.pow_le_pow_right (by decide) (by omega))
 have hbig1 : 2 ^ ((fm s).fractionBits + 2) ≤ Fl.qs (m1 * 2 ^ more) m2 := by
  refine qs_ge (by omega) ?_
  have h1 : m2 * 2 ^ ((fm s).fractionBits + 1) ≤ 2 ^ (m2.log2 + 1) * 2 ^ ((fm s).fractionBits + 1) := Nat.mul_le_mul_right _ (Nat.le_of_lt hlog)
  have h2 : 2 ^ m1.log2 * 2 ^ more ≤ m1 * 2 ^ more := Nat.mul_le_mul_right _ hlog1
  refine Nat.le_trans h1 (Nat.le_trans ?_ h2)
  rw [← Nat.pow_add, ← Nat.pow_add]
  exact Nat.pow_le_pow_right (by decide) (by omega)
 have hq : 2 ^ ((fm s).fractionBits + 1) ≤ m1 * 2 ^ 120 / m2 := by
  refine (Nat.le_div_iff_mul_le (by omega)).2 ?_
  have h1 : 2 ^ ((fm s).fractionBits + 1) * m2 ≤ 2 ^ 53 * 2 ^ 54 := Nat.mul_le_mul (Nat.pow_le_pow_right (by decide) (by omega)) (Nat.le_of_lt hm2b)
  have h2 : 1 * 2 ^ 120 ≤ m1 * 2 ^ 120 := Nat.mul_le_mul_right _ hm1
  exact Nat.le_trans h1 (Nat.le_trans (by decide) h2)
 have hbig2 : 2 ^ ((fm s).fractionBits + 2) ≤ Fl.qs (m1 * 2 ^ 120) m2 := by
  refine qs_ge (by omega) ?_
  have := (Nat.le_div_iff_mul_le (by omega : 0 < m2)).1 hq
  rw [Nat.mul_comm]; exact this
 have hp : 0 < 2 ^ ((fm s).fractionBits + 1) := Nat.two_pow_pos _
 rw [round_word _ _ _ _ _ (by omega), Fl.rung_more (fm s) _ _ _ hq, Fl.nearest_rung, Nat.shiftLeft_eq]
 congr 1
 have hr := Fl.rung_qs (fm s) m1 m2 more 120 (e1 - e2 - 1) (by omega) hbig1 hbig2
 unfold Fl.qs at hr
 have hd : (decide (0 < m1 * 2 ^ 120 % m2)).toNat = (m1 * 2 ^ 120 % m2 != 0).toNat := by
  congr 1
  rw [Bool.eq_iff_iff]; simp; omega
 rw [hd, show e1 - e2 - (more : Int) - 1 = e1 - e2 - 1 - (more : Int) from by omega, hr]
 congr 1
 omega
theorem div_told {s : Bool} {a b : Nat} {p q : PP} (ha : Told s a p) (hb : Told s b q) : resV s .quo a b = (divP s p q : Nat) := by
 have hf : floatBits .quo (fkOf s) a b = ((((fm s).read a).quotient ((fm s).fractionBits + 2) ((fm s).read b)).map (fm s).write) := rfl
 unfold divP
 cases ha with
 | nan n1 r1 t1 u1 h10 h11 h1 hr1 =>
  simp only [true_or, if_true]
  refine res_nan ?_
  rw [hf, hr1]; rfl
 | inf n1 h1 hr1 =>
  cases hb with
  | nan n2 r2 t2 u2 h20 h21 h2 hr2 =>
   simp only [or_true, true_or, if_true]
   refine res_nan ?_
   rw [hf, hr1, hr2]; rfl
  | inf n2 h2 hr2 =>
   simp only [Int.reduceEq, ne_eq, not_false_eq_true, and_self, or_true, if_true]
   refine res_nan ?_
   rw [hf, hr1, hr2]; rfl
  | zero n2 h2 hr2 =>
   simp only [Int.reduceEq, ne_eq, not_false_eq_true, and_true, or_self, if_false, true_or, if_true]
   rw [← bne_xor]
   refine res_inf ?_
   rw [hf, hr1, hr2]; rfl
  | fin n2 m2 e2 r2 h20 h21 h2 hm2 hm22 he2 he22 hb2 hr2 =>
   simp only [Int.reduceEq, ne_eq, not_false_eq_true, and_true, or_self, if_false, true_or, if_true]
   rw [← bne_xor]
   refine res_inf ?_
   rw [hf, hr1, hr2]; rfl
 | zero n1 h1 hr1 =>
  cases hb with
  | nan n2 r2 t2 u2 h20 h21 h2 hr2 =>
   simp only [or_true, true_or, if_true]
   refine res_nan ?_
   rw [hf, hr1, hr2]; rfl
  | inf n2 h2 hr2 =>
   simp only [Int.reduceEq, ne_eq, not_false_eq_true, and_true, or_self, if_false, or_true, if_true]
   rw [← bne_xor, ← near_zero s _ 0]
   refine res_num ?_
   rw [hf, hr1, hr2]; rfl
  | zero n2 h2 hr2 =>
   simp only [Int.reduceEq, ne_eq, not_false_eq_true, and_self, or_true, if_true]
   refine res_nan ?_
   rw [hf, hr1, hr2]; rfl
  | fin n2 m2 e2 r2 h20 h21 h2 hm2 hm22 he2 he22 hb2 hr2 =>
   simp only [Int.reduceEq, ne_eq, not_false_eq_true, and_true, or_self, if_false, true_or, if_true]
   rw [← bne_xor, ← near_zero s _ (leastN s - e2 - ((fm s).fractionBits + 2 + m2.log2 - (0 : Nat).log2 : Nat) - 1)]
   refine res_num ?_
   rw [hf, hr1, hr2]
   show Option.map (fm s).write (if m2 = 0 then _ else some (Ieee.Datum.number (n1 ^^ n2) (2 * ((0 <<< ((fm s).fractionBits + 2 + m2.log2 - (0 : Nat).log2)) / m2) + ((0 <<< ((fm s).fractionBits + 2 + m2.log2 - (0 : Nat).log2)) % m2 != 0).toNat) _)) = _
   rw [if_neg (by omega)]
   simp only [Nat.zero_shiftLeft, Nat.zero_div, Nat.zero_mod, Nat.mul_zero]
   rfl
 | fin n1 m1 e1 r1 h10 h11 h1 hm1 hm12 he1 he12 hb1 hr1 =>
  cases hb with
  | nan n2 r2 t2 u2 h20 h21 h2 hr2 =>
   simp only [or_true, true_or, if_true]
   refine res_nan ?_
   rw [hf, hr1, hr2]; rfl
  | inf n2 h2 hr2 =>
   simp only [Int.reduceEq, ne_eq, not_true_eq_false, and_false, or_self, if_false, or_true, if_true]
   rw [← bne_xor, ← near_zero s _ 0]
   refine res_num ?_
   rw [hf, hr1, hr2]; rfl
  | zero n2 h2 hr2 =>
   simp only [Int.reduceEq, ne_eq, not_true_eq_false, and_false, or_self, if_false, or_true, if_true]
   rw [← bne_xor]
   refine res_inf ?_
   rw [hf, hr1, hr2]
   simp only [Ieee.Datum.quotient, if_true]
   rw [if_neg (by omega)]; rfl
  | fin n2 m2 e2 r2 h20 h21 h2 hm2 hm22 he2 he22 hb2 hr2 =>
   simp only [Int.reduceEq, ne_eq, not_true_eq_false, and_false, or_self, if_false]
   rw [← bne_xor, ← div_num s (n1 ^^ n2) m1 m2 e1 e2 hm1 hm2 hm22]
   refine res_num ?_
   rw [hf, hr1, hr2]
   show Option.map (fm s).write (if m2 = 0 then _ else some _) = _
   rw [if_neg (by omega)]; rfl
theorem div_eq {s : Bool} {a b : Nat} (ha : a < 2 * signN s) (hb : b < 2 * signN s) : resV s .quo a b = (divR s a b : Nat) := div_told (told s a ha) (told s b hb)
end Go.Proofs.YtmoimcblmmcffaaGreat.NC

namespace Go.Proofs.YtmoimcblmmcffaaGreat.NC
open Go.RowKit Go.Proofs.YtmoimcblmmcffaaGreat.B Go.Proofs.YtmoimcblmmcffaaGreat.N
set_option linter.unusedSimpArgs false
set_option linter.unusedVariables false
theorem sgn_eq (s : Bool) : signV s = (signN s : Int) := by cases s <;> rfl
theorem told_nothing {s : Bool} {a : Nat} {p : PP} (h : Told s a p) : nothingV s (a : Int) = decide (p.kind = 3) := by
 have hl := inf_lt s
 cases h with
 | zero n h hr => rw [h, nothing_word s n (by omega), decide_eq_false (by omega)]; rfl
 | inf n h hr => rw [h, nothing_word s n (by omega), decide_eq_false (by omega)]; rfl
 | fin n m e r h0 h1 h hm hm2 he he2 hb hr => rw [h, nothing_word s n (by omega), decide_eq_false (by omega)]; rfl
 | nan n r t u h0 h1 h hr => rw [h, nothing_word s n h1, decide_eq_true h0]; rfl
theorem told_size {s : Bool} {a : Nat} {p : PP} (h : Told s a p) : p.kind = 3 ∨ ∃ r, r ≤ (fm s).infRung ∧ a = (fm s).word p.neg r ∧ (r = 0 ↔ p.kind = 0) ∧ ∀ n, bitsR s { p with neg := n } = (fm s).word n r := by
 cases h with
 | zero n h hr => exact .inr ⟨0, Nat.zero_le _, h, by simp, fun n => bits_zero s n⟩
 | inf n h hr => exact .inr ⟨_, Nat.le_refl _, h, by have := inf_ge s; have := Fl.binade_pos (fm s); simp; omega, fun n => bits_inf s n⟩
 | fin n m e r h0 h1 h hm hm2 he he2 hb hr => exact .inr ⟨r, Nat.le_of_lt h1, h, by simp; omega, hb⟩
 | nan n r t u h0 h1 h hr => exact .inl rfl
theorem andNot_word (s n : Bool) {r : Nat} (h : r < signN s) : bits .andNot .u64 ((fm s).word n r : Nat) (signV s) = (r : Int) := by
 rw [andNot_sign s _ (by omega) (by rw [top_sgn]; exact_mod_cast word_lt s n h), word_mod s n h]
theorem nan_clean2 {s : Bool} {a : Int} (h : nothingV s a = true) : cleanV s a = (nanN s : Nat) := by
 unfold cleanV; rw [if_pos h]; exact nan_eq s
theorem told_nan {s : Bool} {a : Nat} {p : PP} (h : Told s a p) (hk : p.kind = 3) : p = ⟨3, false, 0, 0⟩ ∧ ∃ n r, (fm s).infRung < r ∧ r < signN s ∧ a = (fm s).word n r := by
 cases h with
 | nan n r t u h0 h1 h hr => exact ⟨rfl, n, r, h0, h1, h⟩
 | zero n h hr => exact absurd (show (0 : Int) = 3 from hk) (by decide)
 | inf n h hr => exact absurd (show (2 : Int) = 3 from hk) (by decide)
 | fin n m e r h0 h1 h hm hm2 he he2 hbn hr => exact absurd (show (1 : Int) = 3 from hk) (by decide)
theorem sign_eq {s : Bool} {a b : Nat} (ha : a < 2 * signN s) (hb : b < 2 * signN s) : signOfV s a b = (signR s a b : Nat) := by
 have ht := told s a ha
 unfold signOfV signR
 rw [told_nothing ht]
 by_cases hk : (partsR s a).kind = 3
 ·rw [if_pos hk, decide_eq_true hk, if_pos rfl]; exact nan_eq s
 ·rw [if_neg hk, decide_eq_false hk, if_neg (by decide)]
  rcases told_size ht with h | ⟨r, h1, h2, h3, h4⟩
  ·exact absurd h hk
  ·have hlt : r < signN s := Nat.lt_of_le_of_lt h1 (inf_lt s)
   have hs0 : 0 < signN s := by omega
   rw [h4 _, show (a : Int) = ((fm s).word (partsR s a).neg r : Nat) from by rw [← h2], andNot_word s _ hlt]
   rw [and_sign s _ (by omega) (by rw [top_sgn]; exact_mod_cast hb), sgn_eq]
   rw [or_sign s _ _ (by omega) (by rw [sgn_eq]; omega) (by rw [sgn_eq]; split <;> simp)]
   rw [fm_word]
   unfold sgnN
   by_cases hlow : b < signN s
   ·rw [if_pos (by omega), Nat.div_eq_of_lt hlow]; simp
   ·rw [if_neg (by omega), Nat.div_eq_of_lt_le (k := 1) (by omega) (by omega)]
    simp; omega
theorem order_none {s : Bool} {a b : Nat} {p q : PP} (ha : Told s a p) (hb : Told s b q) (h : p.kind = 3 ∨ q.kind = 3) : (fm s).order a b = none := by
 unfold Ieee.Format.order
 cases ha with
 | nan n r t u h0 h1 h2 hr => rw [hr]; rfl
 | zero n h2 hr =>
  cases hb with
  | nan n r t u h0 h1 h3 hr2 => rw [hr, hr2]; rfl
  | zero n2 h3 hr2 => simp at h
  | inf n2 h3 hr2 => simp at h
  | fin n2 m e r h0 h1 h3 hm hm2 he he2 hbn hr2 => simp at h
 | inf n h2 hr =>
  cases hb with
  | nan n r t u h0 h1 h3 hr2 => rw [hr, hr2]; rfl
  | zero n2 h3 hr2 => simp at h
  | inf n2 h3 hr2 => simp at h
  | fin n2 m e r h0 h1 h3 hm hm2 he he2 hbn hr2 => simp at h
 | fin n m e r h0 h1 h2 hm hm2 he he2 hbn hr =>
  cases hb with
  | nan n r t u h0 h1 h3 hr2 => rw [hr, hr2]; rfl
  | zero n2 h3 hr2 => simp at h
  | inf n2 h3 hr2 => simp at h
  | fin n2 m e r h0 h1 h3 hm hm2 he he2 hbn hr2 => simp at h
theorem rank_word {s : Bool} {a r : Nat} (h4 : ∀ n, bitsR s { partsR s a with neg := n } = (fm s).word n r) : rankR s a = Fl.rk (partsR s a).neg r := by
 unfold rankR Fl.rk sizeR
 rw [h4 false, fm_word]
 unfold sgnN
 cases (partsR s a).neg <;> simp
theorem cmp_eq {s : Bool} {a b : Nat} (ha : a < 2 * signN s) (hb : b < 2 * signN s) : cmpV (ordV s a b) = cmpR s a b := by
 have hta := told s a ha
 have htb := told s b hb
 unfold cmpR ordV
 show cmpV ((fm s).order a b) = _
 by_cases hk : (partsR s a).kind = 3 ∨ (partsR s b).kind = 3
 ·rw [if_pos hk, order_none hta htb hk]; rfl
 ·rw [if_neg hk]
  rcases told_size hta with h | ⟨r, h1, h2, h3, h4⟩
  ·exact absurd (.inl h) hk
  ·rcases told_size htb with h | ⟨t, j1, j2, j3, j4⟩
   ·exact absurd (.inr h) hk
   ·rw [rank_word h4, rank_word j4]
    have ho := Fl.order_word (fm s) (inf_ge s) (partsR s a).neg (partsR s b).neg h1 j1
    rw [← h2, ← j2] at ho
    rw [ho]
    rcases Int.lt_trichotomy (Fl.rk (partsR s a).neg r) (Fl.rk (partsR s b).neg t) with h | h | h
    ·rw [Int.compare_eq_lt.2 h, if_pos h]; rfl
    ·rw [Int.compare_eq_eq.2 h, if_neg (by omega), if_pos h]; rfl
    ·rw [Int.compare_eq_gt.2 h, if_neg (by omega), if_neg (by omega)]; rfl
end Go.Proofs.YtmoimcblmmcffaaGreat.NC

namespace Go.Proofs.YtmoimcblmmcffaaGreat.NC
open Go.RowKit Go.Proofs.YtmoimcblmmcffaaGreat.B Go.Proofs.YtmoimcblmmcffaaGreat.N
set_option linter.unusedSimpArgs false
set_option linter.unusedVariables false
theorem zero_word (s n : Bool) {r : Nat} (h : r < signN s) : zeroV s ((fm s).word n r : Nat) = decide (r = 0) := by
 unfold zeroV
 rw [andNot_word s n h]
 rw [Bool.eq_iff_iff]; simp
theorem ext_eq {s least : Bool} {a b : Nat} (ha : a < 2 * signN s) (hb : b < 2 * signN s) : extremeV least s a b = (extR (!least) s a b : Nat) := by
 have hta := told s a ha
 have htb := told s b hb
 unfold extremeV extR extP
 rw [told_nothing hta, told_nothing htb]
 by_cases hk : (partsR s a).kind = 3
 ·rw [if_pos hk, decide_eq_true hk, if_pos rfl]
  by_cases hk2 : (partsR s b).kind = 3
  ·rw [if_pos hk2]
   exact nan_clean2 (by rw [told_nothing htb, decide_eq_true hk2])
  ·rw [if_neg hk2]
   unfold cleanV
   rw [told_nothing htb, decide_eq_false hk2, if_neg (by decide)]
 ·rw [if_neg hk, decide_eq_false hk, if_neg (by decide)]
  by_cases hk2 : (partsR s b).kind = 3
  ·rw [if_pos hk2, decide_eq_true hk2, if_pos rfl]
  ·rw [if_neg hk2, decide_eq_false hk2, if_neg (by decide)]
   have hless : lessV s a b = decide ((if cmpR s a b = 0 then ((partsR s b).neg.toNat : Int) - (partsR s a).neg.toNat else cmpR s a b) < 0) := by
    rcases told_size hta with h | ⟨r, h1, h2, h3, h4⟩
    ·exact absurd h hk
    ·rcases told_size htb with h | ⟨t, j1, j2, j3, j4⟩
     ·exact absurd h hk2
     ·have hlt : r < signN s := Nat.lt_of_le_of_lt h1 (inf_lt s)
      have hlt2 : t < signN s := Nat.lt_of_le_of_lt j1 (inf_lt s)
      have ho := Fl.order_word (fm s) (inf_ge s) (partsR s a).neg (partsR s b).neg h1 j1
      have hc : cmpR s a b = if Fl.rk (partsR s a).neg r < Fl.rk (partsR s b).neg t then -1 else if Fl.rk (partsR s a).neg r = Fl.rk (partsR s b).neg t then 0 else 1 := by
       unfold cmpR
       rw [if_neg (by rintro (h | h) <;> contradiction), rank_word h4, rank_word j4]
      have z1 : zeroV s (a : Int) = decide (r = 0) := by rw [show (a : Int) = ((fm s).word (partsR s a).neg r : Nat) from by rw [← h2]]; exact zero_word s _ hlt
      have z2 : zeroV s (b : Int) = decide (t = 0) := by rw [show (b : Int) = ((fm s).word (partsR s b).neg t : Nat) from by rw [← j2]]; exact zero_word s _ hlt2
      have hord : ordV s a b = some (compare (Fl.rk (partsR s a).neg r) (Fl.rk (partsR s b).neg t)) := by
       show (fm s).order a b = _
       rw [← ho, ← h2, ← j2]
      unfold lessV
      rw [z1, z2, hord]
      generalize cmpR s a b = c at *
      rw [fm_word] at h2 j2
      unfold sgnN at h2 j2
      clear hord ho z1 z2 h3 h4 j3 j4 hta htb hk hk2
      generalize (partsR s a).neg = n at *
      generalize (partsR s b).neg = m at *
      have hs0 : 0 < signN s := by omega
      by_cases hr0 : r = 0 ∧ t = 0
      ·obtain ⟨rfl, rfl⟩ := hr0
       have hba : decide ((b : Int) < (a : Int)) = (n && !m) := by
        cases n <;> cases m <;> simp at h2 j2 <;> rw [h2, j2] <;> simp <;> omega
       have hc0 : c = 0 := by rw [hc]; cases n <;> cases m <;> decide
       rw [hba, hc0]
       cases n <;> cases m <;> decide
      ·have hz : (decide (r = 0) && (decide (t = 0) && decide ((b : Int) < (a : Int)))) = false := by
        by_cases h : r = 0
        ·have : ¬ t = 0 := fun h' => hr0 ⟨h, h'⟩
         simp [this]
        ·simp [h]
       rw [hz, Bool.or_false]
       rcases Int.lt_trichotomy (Fl.rk n r) (Fl.rk m t) with h | h | h
       ·have hc0 : c = -1 := by rw [hc, if_pos h]
        rw [Int.compare_eq_lt.2 h, hc0]; simp
       ·have hc0 : c = 0 := by rw [hc, if_neg (by omega), if_pos h]
        rw [Int.compare_eq_eq.2 h, hc0]
        have hnm : n = m := by
         unfold Fl.rk at h
         cases n <;> cases m <;> simp at h ⊢ <;> omega
        subst hnm
        cases n <;> decide
       ·have hc0 : c = 1 := by rw [hc, if_neg (by omega), if_neg (by omega)]
        rw [Int.compare_eq_gt.2 h, hc0]; simp
   rw [hless]
   generalize decide ((if cmpR s a b = 0 then ((partsR s b).neg.toNat : Int) - (partsR s a).neg.toNat else cmpR s a b) < 0) = z
   cases z <;> cases least <;> simp
theorem root_same {s : Bool} {a : Nat} {p : PP} (ht : Told s a p) (h : p.kind ≠ 1) (h2 : ¬ (p.kind = 3 ∨ (p.neg = true ∧ p.kind ≠ 0))) : (fm s).sqrt a = some a := by
 unfold Ieee.Format.sqrt
 cases ht with
 | nan n r t u h0 h1 h2' hr => simp at h2
 | zero n h3 hr =>
  rw [hr]
  simp only [Ieee.Datum.root, if_true, Option.map_some]
  show some ((fm s).nearest n 0 (leastN s)) = some a
  rw [near_zero, bits_zero, ← h3]
 | inf n h3 hr =>
  simp at h2
  subst h2
  rw [hr]
  show some ((fm s).word false (fm s).infRung) = some a
  rw [← h3]
 | fin n m e r h0 h1 h2 hm hm2 he he2 hbn hr => simp at h
end Go.Proofs.YtmoimcblmmcffaaGreat.NC

namespace Go.Proofs.YtmoimcblmmcffaaGreat.NC
open Go.RowKit Go.Proofs.YtmoimcblmmcffaaGreat.B Go.Proofs.YtmoimcblmmcffaaGreat.N
set_option linter.unusedSimpArgs false
set_option linter.unusedVariables false
theorem f2f_number {y : Nat} {s : Bool} {m : Nat} {e : Int} (h : Ieee.double.read y = .number s m e) (hi : (Ieee.single.read (Ieee.single.nearest s m e)).isInfinity = false) : floatToFloatBits .f64 y .f32 = some (Ieee.single.nearest s m e) := by
 unfold floatToFloatBits
 rw [if_neg (by decide)]
 have h' : FloatKind.f64.decode y = .number s m e := h
 rw [h']
 show (if (Ieee.single.read (Ieee.single.nearest s m e)).isInfinity = true then none else some (Ieee.single.nearest s m e)) = _
 rw [hi, if_neg (by decide)]
theorem f2f_inf {y : Nat} {s : Bool} (h : Ieee.double.read y = .infinity s) : floatToFloatBits .f64 y .f32 = some (Ieee.single.word s Ieee.single.infRung) := by
 unfold floatToFloatBits
 rw [if_neg (by decide)]
 have h' : FloatKind.f64.decode y = .infinity s := h
 rw [h']
 rfl
theorem number_not_inf (neg : Bool) {r : Nat} (h : r < Ieee.single.infRung) : (Ieee.single.read (Ieee.single.word neg r)).isInfinity = false := by
 obtain ⟨m, p, e, _⟩ := Fl.read_number Ieee.single neg r h
 rw [e]; rfl
theorem double_small {x : Nat} {neg : Bool} {m : Nat} {p : Int} (h : Ieee.double.read x = .number neg m p) : m < 2 ^ 53 := by
 have hb : Ieee.double.binade = 2 ^ 52 := rfl
 rcases Fl.read_cases Ieee.double x with ⟨n, k, e, hk⟩ | ⟨n, k, q, e, h1, h2, h3⟩ | ⟨n, e⟩ | ⟨n, k, e⟩
 ·rw [e] at h; cases h; rw [hb] at hk; exact Nat.lt_trans hk (by decide)
 ·rw [e] at h; cases h; rw [hb] at h2; exact Nat.lt_of_lt_of_le h2 (by decide)
 ·rw [e] at h; cases h
 ·rw [e] at h; cases h
theorem sqrt_narrow : B.SqrtNarrow := by
 intro n x hn hsame
 unfold Ieee.Format.sqrt
 cases hd : Ieee.single.read n with
 | nan s t =>
  rw [hd] at hsame
  cases hx : Ieee.double.read x with
  | nan s' t' => rfl
  | infinity s' => rw [hx] at hsame; exact hsame.elim
  | number s' m' i' => rw [hx] at hsame; exact hsame.elim
 | infinity s =>
  rw [hd] at hsame
  cases hx : Ieee.double.read x with
  | nan s' t' => rw [hx] at hsame; exact hsame.elim
  | number s' m' i' => rw [hx] at hsame; exact hsame.elim
  | infinity s' =>
   rw [hx] at hsame
   obtain rfl : s' = s := hsame
   cases s'
   ·show ∃ z, floatToFloatBits .f64 (Ieee.double.word false Ieee.double.infRung) .f32 = some z ∧ some (Ieee.single.word false Ieee.single.infRung) = some z
    exact ⟨_, f2f_inf (Fl.read_word_inf Ieee.double false (by decide)), rfl⟩
   ·rfl
 | number s m i =>
  rw [hd] at hsame
  obtain ⟨hm, hi1, hi2⟩ := Fl.single_number hd
  cases hx : Ieee.double.read x with
  | nan s' t' => rw [hx] at hsame; exact hsame.elim
  | infinity s' => rw [hx] at hsame; exact hsame.elim
  | number s' m' i' =>
   rw [hx] at hsame
   obtain ⟨rfl, b, hb1, hb2, hv⟩ := hsame
   have hm' := double_small hx
   have p1 : 0 < 2 ^ (i' - b).toNat := Nat.two_pow_pos _
   have p2 : 0 < 2 ^ (i - b).toNat := Nat.two_pow_pos _
   by_cases h0 : m = 0
   ·subst h0
    rw [Nat.zero_mul] at hv
    obtain rfl : m' = 0 := by rcases Nat.mul_eq_zero.1 hv with h | h <;> omega
    simp only [Ieee.Datum.root, if_true, Option.map_some]
    have e1 : Ieee.double.write (.number s' 0 i') = Ieee.double.word s' 0 := by
     show Ieee.double.nearest s' 0 i' = _
     rw [Fl.nearest_rung, Fl.rung_zero]
    have e2 : Ieee.single.write (.number s' 0 i) = Ieee.single.word s' 0 := by
     show Ieee.single.nearest s' 0 i = _
     rw [Fl.nearest_rung, Fl.rung_zero]
    rw [e1, e2]
    refine ⟨Ieee.single.word s' 0, ?_, rfl⟩
    have hr := Fl.read_word_sub Ieee.double s' 0 (by decide)
    have h1 : Ieee.single.nearest s' 0 Ieee.double.leastPlace = Ieee.single.word s' 0 := by rw [Fl.nearest_rung, Fl.rung_zero]
    rw [f2f_number hr (by rw [h1]; exact number_not_inf s' (by decide)), h1]
   ·have h0' : m' ≠ 0 := by
     rintro rfl
     rw [Nat.zero_mul] at hv
     rcases Nat.mul_eq_zero.1 hv.symm with h | h <;> omega
    cases s'
    ·-- a number above 0
     have hii : (i - i').toNat + 2 ≤ 2 * 100 := by
      by_cases hle : i ≤ i'
      ·omega
      ·have e1 : (i - b).toNat = (i' - b).toNat + (i - i').toNat := by omega
       rw [e1, Nat.pow_add, Nat.mul_left_comm, Nat.mul_comm m'] at hv
       have hq := Nat.eq_of_mul_eq_mul_left p1 hv
       have h3 : 2 ^ (i - i').toNat < 2 ^ 53 := by
        refine Nat.lt_of_le_of_lt ?_ hm'
        rw [hq]
        exact Nat.le_mul_of_pos_left _ (by omega)
       have := (Nat.pow_lt_pow_iff_right (by decide : 1 < 2)).1 h3
       omega
     have ha : m * 2 ^ (i % 2).toNat ≠ 0 := by
      intro h
      have := Nat.two_pow_pos (i % 2).toNat
      rcases Nat.mul_eq_zero.1 h with h | h <;> omega
     have ha2 : m * 2 ^ (i % 2).toNat < 2 ^ 25 := by
      have h1 : m * 2 ^ (i % 2).toNat ≤ m * 2 ^ 1 := Nat.mul_le_mul_left _ (Nat.pow_le_pow_right (by decide) (by omega))
      omega
     have hR := Fl.root_is (m * 2 ^ (i % 2).toNat * 4 ^ 100)
     generalize Ieee.Datum.rootFrom (m * 2 ^ (i % 2).toNat * 4 ^ 100) _ 0 = R at hR
     obtain ⟨k1, k2, k3, k4⟩ := Fl.narrow_rung (m * 2 ^ (i % 2).toNat) 100 R ((i - i % 2) / 2 - 1 - (100 : Nat)) ha ha2 rfl hR (by omega) (by omega)
     obtain ⟨S1, q1, j1, j2, j3⟩ := Fl.root_rung Ieee.single m i h0
     have j4 := j3 100 R hR (Nat.le_trans (by decide) k4)
     obtain ⟨S2, q2, l1, l2, l3⟩ := Fl.root_same Ieee.double h0 hb2 hb1 hv.symm 100 R hR (Nat.le_trans (by decide) k4) hii
     have e1 : ((Ieee.Datum.number false m' i').root (Ieee.double.fractionBits + 2)).map Ieee.double.write = some (Ieee.double.word false (Fl.rung Ieee.double (Fl.rs (m * 2 ^ (i % 2).toNat * 4 ^ 100) R) ((i - i % 2) / 2 - 1 - (100 : Nat)))) := by
      rw [l1, ← l3, ← Fl.nearest_rung]; rfl
     have e2 : ((Ieee.Datum.number false m i).root (Ieee.single.fractionBits + 2)).map Ieee.single.write = some (Ieee.single.word false (Fl.rung Ieee.single (Fl.rs (m * 2 ^ (i % 2).toNat * 4 ^ 100) R) ((i - i % 2) / 2 - 1 - (100 : Nat)))) := by
      rw [j1, ← j4, ← Fl.nearest_rung]; rfl
     rw [e1, e2]
     refine ⟨_, ?_, rfl⟩
     have hne : Fl.rs (m * 2 ^ (i % 2).toNat * 4 ^ 100) R ≠ 0 := by
      have : 0 < 2 ^ 100 := Nat.two_pow_pos _
      omega
     have hread := Fl.read_rung Ieee.double false hne ((i - i % 2) / 2 - 1 - (100 : Nat)) k1
     generalize Fl.rs (m * 2 ^ (i % 2).toNat * 4 ^ 100) R = S at *
     generalize (i - i % 2) / 2 - 1 - ((100 : Nat) : Int) = Q at *
     obtain ⟨mm, pp, r1, r2, r3, r4, r5⟩ := Fl.read_number Ieee.double false _ k1
     rw [r1] at hread
     obtain ⟨-, c, c1, c2, c3⟩ := hread
     have hz : Ieee.single.nearest false mm pp = Ieee.single.word false (Fl.rung Ieee.single S Q) := by
      rw [Fl.nearest_rung, Fl.rung_same Ieee.single c1 c2 c3, k2]
     show floatToFloatBits .f64 _ .f32 = some _
     rw [f2f_number r1 (by rw [hz]; exact number_not_inf false k3), hz]
    ·simp only [Ieee.Datum.root, h0, h0', if_false, if_true, Option.map_none]
end Go.Proofs.YtmoimcblmmcffaaGreat.NC

namespace Go.Proofs.YtmoimcblmmcffaaGreat.NC
open Go.RowKit Go.Proofs.YtmoimcblmmcffaaGreat.B Go.Proofs.YtmoimcblmmcffaaGreat.N
set_option linter.unusedSimpArgs false
set_option linter.unusedVariables false
theorem rg_nat {s : Bool} {a : Nat} (h : a < 2 * signN s) : Rg s (a : Int) := ⟨by omega, by rw [top_sgn]; exact_mod_cast h⟩
theorem nat_rg {s : Bool} {a : Nat} (h : Rg s (a : Int)) : a < 2 * signN s := by have := h.2; rw [top_sgn] at this; exact_mod_cast this
theorem mulR_lt {s : Bool} {a b : Nat} (ha : a < 2 * signN s) (hb : b < 2 * signN s) : mulR s a b < 2 * signN s := by
 have := res_rg s .mul a b
 rw [mul_eq ha hb] at this
 exact nat_rg this
theorem fromR_lt (s : Bool) (n : Int) : fromR s n < 2 * signN s := by
 unfold fromR
 rw [round_near]
 have h := (fm s).nearest_lt (decide (n < 0)) n.natAbs 0
 have e : 2 ^ (fm s).width = 2 * signN s := by cases s <;> rfl
 rwa [e] at h
theorem nat_and_pow (n i : Nat) : n &&& 2 ^ i = if n / 2 ^ i % 2 = 1 then 2 ^ i else 0 := by
 have hb : n.testBit i = decide (n / 2 ^ i % 2 = 1) := Nat.testBit_eq_decide_div_mod_eq
 refine Nat.eq_of_testBit_eq (fun j => ?_)
 rw [Nat.testBit_and, Nat.testBit_two_pow]
 by_cases hj : i = j
 ·subst hj
  rw [hb]
  by_cases h : n / 2 ^ i % 2 = 1
  ·simp [h]
  ·simp [h]
 ·by_cases h : n / 2 ^ i % 2 = 1
  ·simp [h, hj, Nat.testBit_two_pow]
  ·simp [h, hj]
theorem and_bit (n i : Nat) (hn : n < 18446744073709551616) (hi : i < 64) : (bits .and .u64 (n : Int) ((2 ^ i : Nat) : Int) != 0) = decide (n / 2 ^ i % 2 = 1) := by
 have h2 : (2 : Nat) ^ i < 18446744073709551616 := Nat.lt_of_lt_of_le (Nat.pow_lt_pow_right (by decide) hi) (by decide)
 have hk := nat_and_pow n i
 have hp : 0 < 2 ^ i := Nat.two_pow_pos _
 generalize 2 ^ i = B at *
 rw [u64_and _ _ (by omega) (by omega) (by omega) (by omega)]
 show (((n &&& B : Nat) : Int) != 0) = _
 rw [hk]
 by_cases h : n / B % 2 = 1
 ·rw [decide_eq_true h, if_pos h]; simp; omega
 ·rw [decide_eq_false h, if_neg h]; simp
end Go.Proofs.YtmoimcblmmcffaaGreat.NC

namespace Go.Proofs.YtmoimcblmmcffaaGreat.NC
open Go.RowKit Go.Proofs.YtmoimcblmmcffaaGreat.B Go.Proofs.YtmoimcblmmcffaaGreat.N
set_option linter.unusedSimpArgs false
set_option linter.unusedVariables false
theorem wrap_i64 {m : Int} (h0 : -9223372036854775808 ≤ m) (h1 : m < 9223372036854775808) : IntKind.i64.wrap m = m := by
 unfold IntKind.wrap
 simp [IntKind.signed, IntKind.bits]
 omega
theorem op_eq {op : Int} {s : Bool} {a b : Nat} (ha : a < 2 * signN s) (hb : b < 2 * signN s) (h0 : 0 ≤ op) (h6 : op ≤ 6) : applyV op s a b = (opR op s a b : Nat) := by
 have ho : op = 0 ∨ op = 1 ∨ op = 2 ∨ op = 3 ∨ op = 4 ∨ op = 5 ∨ op = 6 := by omega
 have k4 := sign_eq ha hb
 have k0 := add_eq ha hb
 have k1 := sub_eq ha hb
 have k2 := mul_eq ha hb
 have k3 := div_eq ha hb
 have k5 := ext_eq (least := true) ha hb
 have k6 := ext_eq (least := false) ha hb
 rcases ho with rfl | rfl | rfl | rfl | rfl | rfl | rfl
 all_goals
  simp only [applyV, opR, opB, Int.reduceEq, if_true, if_false, Int.toNat_natCast, decide_true, decide_false]
 ·exact k0
 ·exact k1
 ·exact k2
 ·exact k3
 ·exact k4
 ·exact k5
 ·exact k6
end Go.Proofs.YtmoimcblmmcffaaGreat.NC

namespace Go.Proofs.YtmoimcblmmcffaaGreat.NC
open Go.RowKit Go.Proofs.YtmoimcblmmcffaaGreat.B Go.Proofs.YtmoimcblmmcffaaGreat.N
set_option linter.unusedSimpArgs false
set_option linter.unusedVariables false
theorem hideO {P : Program} {c : Code} {Q : Exit → Act → World → Prop} {a : Act} {w : World} {cs : Array Value} {t : TypeId}
  (h : ∀ W, Own W w.heap.size cs.size → Ext w W W → c.wp P Q a W) : c.wp P Q a (w.alloc (.cells cs t (0, 0))) :=
 h _ (own_new w cs t) (Ext.refl (below_alloc0 (Below.refl _ _) _))
structure PSt (w V : World) (g0 g1 g2 : Nat) (ly xs : Array Value) : Prop where
 ly : ∀ i, V.cell? ⟨g1, i, none⟩ = ly[i]?
 xs : ∀ i, V.cell? ⟨g2, i, none⟩ = xs[i]?
 o0 : Own V g0 4
 o2 : Own V g2 4
 n02 : g0 ≠ g2
 n12 : g1 ≠ g2
 s1 : g1 < V.heap.size
 w0 : w.heap.size ≤ g0
 w2 : w.heap.size ≤ g2
 bel : Below w.heap.size w V
section
variable {w V V' : World} {g0 g1 g2 : Nat} {ly xs : Array Value}
theorem PSt.call (h : PSt w V g0 g1 g2 ly xs) (hb : Below V.heap.size V V') : PSt w V' g0 g1 g2 ly xs :=
 ⟨fun i => ((bcell hb).1 _ i h.s1).trans (h.ly i), fun i => ((bcell hb).1 _ i h.o2.2.2).trans (h.xs i), h.o0.call hb, h.o2.call hb, h.n02, h.n12, Nat.lt_of_lt_of_le h.s1 hb.size, h.w0, h.w2, below_call h.bel hb⟩
theorem PSt.drew (h : PSt w V g0 g1 g2 ly xs) : PSt w V.drew g0 g1 g2 ly xs := h.call (Below.refl _ _).drew
theorem own_ext {w0 V V' : World} {g k : Nat} (h : Own V g k) (hE : Ext w0 V V') : Own V' g k :=
 ⟨fun i hi => cellOf_eq ((hE.1 _ _ h.2.2).trans (h.1 i hi)), fun i => (hE.2.1 _ _ h.2.2).trans (h.2.1 i), Nat.lt_of_lt_of_le h.2.2 hE.2.2.1⟩
theorem PSt.ext (h : PSt w V g0 g1 g2 ly xs) (hE : Ext w V V') : PSt w V' g0 g1 g2 ly xs :=
 ⟨fun i => (hE.1 _ i h.s1).trans (h.ly i), fun i => (hE.1 _ i h.o2.2.2).trans (h.xs i), own_ext h.o0 hE, own_ext h.o2 hE, h.n02, h.n12, Nat.lt_of_lt_of_le h.s1 hE.2.2.1, h.w0, h.w2, hE.2.2.2⟩
theorem PSt.set (h : PSt w V g0 g1 g2 ly xs) (j : Nat) (v : Value) (hj : j < xs.size) : PSt w (V.setCell ⟨g2, j, none⟩ v) g0 g1 g2 ly (xs.set j v hj) := by
 have hne : ∀ g i, g ≠ g2 → (V.setCell ⟨g2, j, none⟩ v).cell? ⟨g, i, none⟩ = V.cell? ⟨g, i, none⟩ := fun g i hg =>
  World.cell?_setCell_other _ _ _ _ (by intro e; injection e with e1 e2 e3; exact hg e1.symm)
 refine ⟨fun i => (hne _ i h.n12).trans (h.ly i), fun i => ?_, h.o0.set _ _, h.o2.set _ _, h.n02, h.n12, by simpa [World.setCell] using h.s1, h.w0, h.w2, h.bel.setCell (p := ⟨g2, j, none⟩) h.w2 v⟩
 rw [Array.getElem?_set]
 by_cases hi : j = i
 ·subst hi
  rw [if_pos rfl]
  have := h.xs j
  rw [Array.getElem?_eq_getElem hj] at this
  exact World.cell?_setCell_same _ _ _ this
 ·rw [if_neg hi]
  exact (cell_put_ne hi).trans (h.xs i)
theorem hideS {P : Program} {c : Code} {Q : Exit → Act → World → Prop} {a : Act} (xs' : Array Value) (h : PSt w V g0 g1 g2 ly xs) (he : xs = xs') (hc : ∀ V, PSt w V g0 g1 g2 ly xs' → c.wp P Q a V) : c.wp P Q a V := hc V (he ▸ h)
theorem hideL {P : Program} {c : Code} {Q : Exit → Act → World → Prop} {a : Act} {w1 : World} {cs : Array Value} {t : TypeId} (h0 : Own w1 g0 4) (hw : w.heap.size ≤ g0) (hb : Below w.heap.size w w1)
  (h : ∀ W g1, w1.heap.size = g1 → (∀ i, W.cell? ⟨g1, i, none⟩ = cs[i]?) → Own W g0 4 → g1 < W.heap.size → w.heap.size ≤ g1 → Below w.heap.size w W → Ext w W W → c.wp P Q a W) : c.wp P Q a (w1.alloc (.cells cs t (0, 0))) :=
 h _ _ rfl (fun i => cell_of_row _ _ i cs t (0, 0) (heap_alloc_new w1 _)) (h0.alloc _) (by simp) hb.size (below_alloc0 hb _) (Ext.refl (below_alloc0 hb _))
theorem hideX {P : Program} {c : Code} {Q : Exit → Act → World → Prop} {a : Act} {W w1 : World} {x0 x1 x2 x3 : Value} {t : TypeId} (hE : Ext w W w1) (k1 : ∀ i, W.cell? ⟨g1, i, none⟩ = ly[i]?) (s1 : g1 < W.heap.size) (h0 : Own w1 g0 4) (hw : w.heap.size ≤ g0)
  (h : ∀ V g2, w1.heap.size = g2 → PSt w V g0 g1 g2 ly #[x0, x1, x2, x3] → c.wp P Q a V) : c.wp P Q a (w1.alloc (.cells #[x0, x1, x2, x3] t (0, 0))) := by
 have hE2 := hE.alloc (.cells #[x0, x1, x2, x3] t (0, 0))
 have hlt : g1 < w1.heap.size := Nat.lt_of_lt_of_le s1 hE.2.2.1
 exact h _ _ rfl ⟨fun i => (hE2.1 _ i s1).trans (k1 i), fun i => cell_of_row _ _ i _ t (0, 0) (heap_alloc_new w1 _), h0.alloc _, own_new w1 _ t, Nat.ne_of_lt h0.2.2, Nat.ne_of_lt hlt, Nat.lt_of_lt_of_le s1 hE2.2.2.1, hw, hE.2.2.2.size, hE2.2.2.2⟩
end
theorem below_row {w w1 : World} {g : Nat} (h : Below w.heap.size w w1) (a b c d : Value) (hg : w.heap.size ≤ g := by first | exact Nat.le_refl _ | assumption) :
  Below w.heap.size w ((((w1.setCell ⟨g, 0, none⟩ a).setCell ⟨g, 1, none⟩ b).setCell ⟨g, 2, none⟩ c).setCell ⟨g, 3, none⟩ d) :=
 (((h.setCell (p := ⟨g, 0, none⟩) hg a).setCell (p := ⟨g, 1, none⟩) hg b).setCell (p := ⟨g, 2, none⟩) hg c).setCell (p := ⟨g, 3, none⟩) hg d
end Go.Proofs.YtmoimcblmmcffaaGreat.NC
