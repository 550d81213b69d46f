/- Contracts and plain laws that the law RealsWhole leans on (texts joined by program; what it does not come to is left out). -/
import Derived.Test.YtmoimcblmmcffaaGreatDoorQRealsWholeB
import Derived.Test.YtmoimcblmmcffaaGreatDoorProg
import Derived.Below
import Derived.Deep.Draws
import Derived.Deep.AppendLies
import Derived.Maps.AppendAt
import Derived.OwnWalk
import Derived.Laws.BytesArg
import Derived.Laws.MakeOwn
import Derived.Laws.OwnMore
import Derived.Deep.OwnRows
import Derived.Tactics
import Derived.Lib.ConvBytes
import Derived.Laws.Slices
import Derived.WalkKit
import Derived.KernelRfl
import Derived.RowKit3
import Derived.Deep.LoopGhost
import Derived.Deep.QuietTactic
import Derived.BigQuiet
import Derived.WideLaws
import Derived.Deep.DeepCutAuto
import Derived.Deep.CutBlock
import Derived.Deep.RegionHeld3
import Derived.Laws.Rows
import Derived.Lib.AppendStr
import Derived.ArgAppend
import Derived.Laws.IdiomCopy
import Derived.OrdersHeld
import Derived.Laws.BitsLemmas
import Derived.RowKit
import Derived.Laws.StructEq
import Derived.Test.YtmoimcblmmcffaaGreatDoorQRealsWholeA

namespace Go.Proofs.YtmoimcblmmcffaaGreatDoor.B
open Go.RowKit
set_option linter.unusedSimpArgs false
set_option linter.unusedVariables false
abbrev Rg (s : Bool) (a : Int) : Prop := 0 ≤ a ∧ a < topV s
def tv (s : Bool) : Int := if s then 1 else 2
theorem tv_eq (s : Bool) : (tv s == 1) = s := by cases s <;> rfl
theorem Rg.u64 {s : Bool} {a : Int} (h : Rg s a) : U64 a := by
 cases s
 ·have : a < 18446744073709551616 := h.2
  exact ⟨h.1, by omega⟩
 ·have : a < 4294967296 := h.2
  exact ⟨h.1, by omega⟩
theorem Rg.valid1 {s : Bool} {a : Int} (h : Rg s a) : validV (tv s) [a] = 0 := by
 cases s
 ·rfl
 ·have : a < 4294967296 := h.2
  simp [validV, typeErrV, bitsErrV, tv]; omega
theorem clean_rg {s : Bool} {a : Int} (h : Rg s a) : Rg s (cleanV s a) := by
 unfold cleanV
 by_cases hn : nothingV s a = true
 ·rw [if_pos hn]; cases s <;> decide
 ·rw [if_neg hn]; exact h
theorem top_width (s : Bool) : topV s = ((2 ^ (fkOf s).format.width : Nat) : Int) := by cases s <;> rfl
theorem res_rg (s : Bool) (op : BinOp) (x y : Nat) : Rg s (resV s op x y) := by
 unfold resV
 cases h : floatBits op (fkOf s) x y with
 | some r =>
  have h1 := floatBits_lt h
  exact clean_rg ⟨by omega, by rw [top_width]; exact_mod_cast h1⟩
 | none => cases s <;> decide
end Go.Proofs.YtmoimcblmmcffaaGreatDoor.B

namespace Fl
open Ieee
set_option linter.unusedSimpArgs false
set_option linter.unusedVariables false
theorem rnd_scale (m k d : Nat) : rnd (m * 2 ^ k) (k + d) = rnd m d := by
 have hK : 0 < 2 ^ k := Nat.two_pow_pos _
 unfold rnd
 have e1 : m * 2 ^ k / 2 ^ (k + d) = m / 2 ^ d := by
  rw [Nat.pow_add, Nat.mul_comm m, Nat.mul_div_mul_left _ _ hK]
 have e2 : m * 2 ^ k % 2 ^ (k + d) = 2 ^ k * (m % 2 ^ d) := by
  rw [Nat.pow_add, Nat.mul_comm m, Nat.mul_mod_mul_left]
 rw [e1, e2, Nat.pow_add]
 generalize 2 ^ k = K at *
 generalize m % 2 ^ d = r
 generalize 2 ^ d = D
 have a1 : (K * D < 2 * (K * r)) ↔ D < 2 * r := by
  rw [show 2 * (K * r) = K * (2 * r) from by rw [Nat.mul_left_comm], Nat.mul_lt_mul_left hK]
 have a2 : (K * D = 2 * (K * r)) ↔ D = 2 * r := by
  rw [show 2 * (K * r) = K * (2 * r) from by rw [Nat.mul_left_comm]]
  exact Nat.mul_right_inj (Nat.pos_iff_ne_zero.1 hK)
 congr 2
 congr 1
 ·exact decide_eq_decide.2 a1
 ·congr 1
  rw [Bool.eq_iff_iff, beq_iff_eq, beq_iff_eq]; exact a2
theorem rnd_exact (m d : Nat) : rnd (m * 2 ^ d) d = m := by
 have := rnd_scale m d 0
 rwa [Nat.add_zero, rnd_zero] at this
theorem log2_mul_pow {m : Nat} (h : m ≠ 0) (k : Nat) : (m * 2 ^ k).log2 = m.log2 + k := by
 have hK : 0 < 2 ^ k := Nat.two_pow_pos _
 have hn : m * 2 ^ k ≠ 0 := by
  intro e; rcases Nat.mul_eq_zero.1 e with e | e <;> omega
 rw [Nat.log2_eq_iff hn]
 have h1 := Nat.log2_self_le h
 have h2 : m < 2 ^ (m.log2 + 1) := Nat.lt_log2_self
 refine ⟨?_, ?_⟩
 ·rw [Nat.pow_add]; exact Nat.mul_le_mul_right _ h1
 ·rw [show m.log2 + k + 1 = (m.log2 + 1) + k from by omega, Nat.pow_add]; exact Nat.mul_lt_mul_of_pos_right h2 hK
def rung (f : Format) (m : Nat) (p : Int) : Nat := if m = 0 then 0 else min ((lastOf f m p - f.leastPlace).toNat * f.binade + keptOf f m p) f.infRung
theorem nearest_rung (f : Format) (neg : Bool) (m : Nat) (p : Int) : f.nearest neg m p = f.word neg (rung f m p) := by
 rw [nearest_eq]; unfold rung
 by_cases h : m = 0
 ·rw [if_pos h, if_pos h]
 ·rw [if_neg h, if_neg h]
theorem rung_zero (f : Format) (p : Int) : rung f 0 p = 0 := rfl
theorem rung_scale (f : Format) (m k : Nat) (p : Int) : rung f (m * 2 ^ k) p = rung f m (p + k) := by
 have hK : 0 < 2 ^ k := Nat.two_pow_pos _
 by_cases h : m = 0
 ·subst h; rw [Nat.zero_mul]; rfl
 have hn : m * 2 ^ k ≠ 0 := by
  intro e; rcases Nat.mul_eq_zero.1 e with e | e <;> omega
 unfold rung
 rw [if_neg h, if_neg hn]
 have hl : lastOf f (m * 2 ^ k) p = lastOf f m (p + k) := by
  unfold lastOf; rw [log2_mul_pow h]; congr 1; omega
 rw [hl]
 congr 2
 unfold keptOf
 rw [hl]
 generalize lastOf f m (p + k) = L
 rw [Nat.shiftLeft_eq, Nat.shiftLeft_eq]
 by_cases c1 : L ≤ p
 ·rw [show (L - p).toNat = 0 from by omega, show (L - (p + k)).toNat = 0 from by omega, rnd_zero, rnd_zero, Nat.mul_assoc, ← Nat.pow_add]
  congr 2; omega
 ·by_cases c2 : L ≤ p + k
  ·rw [show (L - (p + k)).toNat = 0 from by omega, rnd_zero, show (p - L).toNat = 0 from by omega, Nat.pow_zero, Nat.mul_one]
   obtain ⟨u, hu⟩ : ∃ u : Nat, k = u + (L - p).toNat := ⟨k - (L - p).toNat, by omega⟩
   rw [show (p + k - L).toNat = u from by omega]
   rw [show 2 ^ k = 2 ^ u * 2 ^ (L - p).toNat from by rw [← Nat.pow_add, ← hu], ← Nat.mul_assoc, rnd_exact]
  ·rw [show (p - L).toNat = 0 from by omega, show (p + k - L).toNat = 0 from by omega, Nat.pow_zero, Nat.mul_one, Nat.mul_one]
   rw [show (L - p).toNat = k + (L - (p + k)).toNat from by omega, rnd_scale]
theorem rung_same (f : Format) {m n : Nat} {p q b : Int} (h1 : b ≤ p) (h2 : b ≤ q) (h : m * 2 ^ (p - b).toNat = n * 2 ^ (q - b).toNat) : rung f m p = rung f n q := by
 have e1 := rung_scale f m (p - b).toNat b
 have e2 := rung_scale f n (q - b).toNat b
 rw [show b + ((p - b).toNat : Int) = p from by omega] at e1
 rw [show b + ((q - b).toNat : Int) = q from by omega] at e2
 rw [← e1, ← e2, h]
theorem bit_le (b : Bool) : b.toNat ≤ 1 := by cases b <;> decide
theorem sticky_low {n k F : Nat} (h : 2 ^ (F + 1) ≤ sticky n k) : 2 ^ (F + 1 + k) ≤ n := by
 have hP : 0 < 2 ^ (k + 1) := Nat.two_pow_pos _
 unfold sticky at h
 have := bit_le (n % 2 ^ (k + 1) != 0)
 rw [Nat.pow_succ] at h
 have h2 : 2 ^ F ≤ n / 2 ^ (k + 1) := by omega
 have h3 := (Nat.le_div_iff_mul_le hP).1 h2
 rw [← Nat.pow_add] at h3
 rwa [show F + 1 + k = F + (k + 1) from by omega]
theorem log2_sticky {n k F : Nat} (h : 2 ^ (F + 1) ≤ sticky n k) : n.log2 = (sticky n k).log2 + k ∧ F + 1 ≤ (sticky n k).log2 := by
 have h1 := sticky_low h
 have hp : 0 < 2 ^ (F + 1 + k) := Nat.two_pow_pos _
 have hp2 : 0 < 2 ^ (F + 1) := Nat.two_pow_pos _
 have hs0 : sticky n k ≠ 0 := by omega
 have hlg : F + 1 ≤ (sticky n k).log2 := (Nat.le_log2 hs0).2 h
 refine ⟨?_, hlg⟩
 rw [Nat.log2_eq_iff (by omega)]
 have a1 := Nat.log2_self_le hs0
 have a2 : sticky n k < 2 ^ ((sticky n k).log2 + 1) := Nat.lt_log2_self
 generalize (sticky n k).log2 = L at *
 unfold sticky at a1 a2
 have hb := bit_le (n % 2 ^ (k + 1) != 0)
 have hP : 0 < 2 ^ (k + 1) := Nat.two_pow_pos _
 obtain ⟨l, rfl⟩ : ∃ l, L = l + 1 := ⟨L - 1, by omega⟩
 have p1 : 2 ^ (l + 1) = 2 * 2 ^ l := by rw [Nat.pow_succ, Nat.mul_comm]
 have p2 : 2 ^ (l + 1 + 1) = 2 * 2 ^ (l + 1) := by rw [Nat.pow_succ 2 (l + 1), Nat.mul_comm]
 rw [p1] at a1
 rw [p2] at a2
 have b1 : 2 ^ l ≤ n / 2 ^ (k + 1) := by omega
 have b2 : n / 2 ^ (k + 1) < 2 ^ (l + 1) := by omega
 refine ⟨?_, ?_⟩
 ·rw [show l + 1 + k = l + (k + 1) from by omega, Nat.pow_add]
  exact (Nat.le_div_iff_mul_le hP).1 b1
 ·rw [show l + 1 + k + 1 = l + 1 + (k + 1) from by omega, Nat.pow_add 2 (l + 1)]
  exact (Nat.div_lt_iff_lt_mul hP).1 b2
theorem rung_sticky (f : Format) (n k : Nat) (p : Int) (h : 2 ^ (f.fractionBits + 2) ≤ sticky n k) : rung f n p = rung f (sticky n k) (p + k) := by
 obtain ⟨hl, hl2⟩ := log2_sticky h
 have h1 := sticky_low h
 have hp : 0 < 2 ^ (f.fractionBits + 1 + 1 + k) := Nat.two_pow_pos _
 have hp2 : 0 < 2 ^ (f.fractionBits + 2) := Nat.two_pow_pos _
 unfold rung
 rw [if_neg (by omega : ¬ n = 0), if_neg (by omega : ¬ sticky n k = 0)]
 have hL : lastOf f n p = lastOf f (sticky n k) (p + k) := by
  unfold lastOf; rw [hl]; congr 1; omega
 rw [hL]
 congr 2
 unfold keptOf
 rw [hL]
 have hge : p + k + 2 ≤ lastOf f (sticky n k) (p + k) := by
  unfold lastOf
  have : p + k + 2 ≤ p + k + (sticky n k).log2 - f.fractionBits := by omega
  exact Int.le_trans this (Int.le_max_left _ _)
 generalize lastOf f (sticky n k) (p + k) = L at *
 rw [show (p - L).toNat = 0 from by omega, show (p + k - L).toNat = 0 from by omega, Nat.shiftLeft_eq, Nat.shiftLeft_eq, Nat.pow_zero, Nat.mul_one, Nat.mul_one]
 obtain ⟨d, hd⟩ : ∃ d : Nat, (L - (p + k)).toNat = d + 2 := ⟨(L - (p + k)).toNat - 2, by omega⟩
 rw [hd, show (L - p).toNat = k + (d + 2) from by omega]
 exact rnd_sticky n k d
def qs (a b : Nat) : Nat := 2 * (a / b) + (a % b != 0).toNat
theorem toNat_ne (n : Nat) : (n != 0).toNat = if n = 0 then 0 else 1 := by
 by_cases h : n = 0 <;> simp [h]
theorem qs_sticky (a b k : Nat) (hb : 0 < b) : sticky (qs (a * 2 ^ k) b) k = qs a b := by
 have hK : 0 < 2 ^ k := Nat.two_pow_pos _
 unfold sticky qs
 have hQ : a * 2 ^ k / b / 2 ^ k = a / b := by
  rw [Nat.div_div_eq_div_mul, Nat.mul_comm b, Nat.mul_comm a, Nat.mul_div_mul_left _ _ hK]
 rw [show 2 ^ (k + 1) = 2 * 2 ^ k from by rw [Nat.pow_succ, Nat.mul_comm]]
 have hr := bit_le (a * 2 ^ k % b != 0)
 have d1 : (2 * (a * 2 ^ k / b) + (a * 2 ^ k % b != 0).toNat) / (2 * 2 ^ k) = a / b := by
  rw [← Nat.div_div_eq_div_mul, show (2 * (a * 2 ^ k / b) + (a * 2 ^ k % b != 0).toNat) / 2 = a * 2 ^ k / b from by omega, hQ]
 have m1 : (2 * (a * 2 ^ k / b) + (a * 2 ^ k % b != 0).toNat) % (2 * 2 ^ k) = 2 * (a * 2 ^ k / b % 2 ^ k) + (a * 2 ^ k % b != 0).toNat := by
  rw [Nat.mod_mul, show (2 * (a * 2 ^ k / b) + (a * 2 ^ k % b != 0).toNat) / 2 = a * 2 ^ k / b from by omega]; omega
 rw [d1, m1]
 congr 1
 rw [toNat_ne, toNat_ne, toNat_ne]
 have key : (2 * (a * 2 ^ k / b % 2 ^ k) + (if a * 2 ^ k % b = 0 then 0 else 1) = 0) ↔ a % b = 0 := by
  constructor
  ·intro h
   have h1 : a * 2 ^ k % b = 0 := by
    by_cases c : a * 2 ^ k % b = 0
    ·exact c
    ·rw [if_neg c] at h; omega
   have h2 : a * 2 ^ k / b % 2 ^ k = 0 := by rw [if_pos h1] at h; omega
   have e1 := Nat.div_add_mod (a * 2 ^ k) b
   have e2 := Nat.div_add_mod (a * 2 ^ k / b) (2 ^ k)
   rw [h1, Nat.add_zero] at e1
   rw [h2, Nat.add_zero, hQ] at e2
   rw [← e2] at e1
   have e3 : 2 ^ k * (b * (a / b)) = 2 ^ k * a := by rw [← Nat.mul_left_comm, e1, Nat.mul_comm]
   have e4 := Nat.eq_of_mul_eq_mul_left hK e3
   rw [← e4, Nat.mul_mod_right]
  ·intro h
   obtain ⟨c, rfl⟩ := Nat.dvd_of_mod_eq_zero h
   have e1 : b * c * 2 ^ k = b * (c * 2 ^ k) := Nat.mul_assoc ..
   rw [e1, Nat.mul_mod_right, Nat.mul_div_cancel_left _ hb, Nat.mul_mod_left]
   simp
 by_cases c : a % b = 0
 ·rw [if_pos c, if_pos (key.2 c)]
 ·rw [if_neg c, if_neg (fun h => c (key.1 h))]
theorem rung_qs_le (f : Format) (m b k1 k2 : Nat) (p : Int) (hb : 0 < b) (hk : k1 ≤ k2) (h1 : 2 ^ (f.fractionBits + 2) ≤ qs (m * 2 ^ k1) b) :
  rung f (qs (m * 2 ^ k1) b) (p - k1) = rung f (qs (m * 2 ^ k2) b) (p - k2) := by
 obtain ⟨k, rfl⟩ : ∃ k, k2 = k1 + k := ⟨k2 - k1, by omega⟩
 have hs := qs_sticky (m * 2 ^ k1) b k hb
 rw [Nat.mul_assoc, ← Nat.pow_add] at hs
 rw [rung_sticky f (qs (m * 2 ^ (k1 + k)) b) k _ (by rw [hs]; exact h1), hs]
 congr 1; omega
theorem rung_qs (f : Format) (m b k1 k2 : Nat) (p : Int) (hb : 0 < b) (h1 : 2 ^ (f.fractionBits + 2) ≤ qs (m * 2 ^ k1) b) (h2 : 2 ^ (f.fractionBits + 2) ≤ qs (m * 2 ^ k2) b) :
  rung f (qs (m * 2 ^ k1) b) (p - k1) = rung f (qs (m * 2 ^ k2) b) (p - k2) := by
 rcases Nat.le_total k1 k2 with h | h
 ·exact rung_qs_le f m b k1 k2 p hb h h1
 ·exact (rung_qs_le f m b k2 k1 p hb h h2).symm
theorem rung_more (f : Format) (q : Nat) (more : Bool) (e : Int) (h : 2 ^ (f.fractionBits + 1) ≤ q) : rung f (q * 8 + more.toNat) (e - 3) = rung f (2 * q + more.toNat) (e - 1) := by
 have hb := bit_le more
 have hs : sticky (q * 8 + more.toNat) 2 = 2 * q + more.toNat := by
  unfold sticky
  rw [show (2 : Nat) ^ (2 + 1) = 8 from rfl, show (q * 8 + more.toNat) / 8 = q from by omega, show (q * 8 + more.toNat) % 8 = more.toNat from by omega]
  congr 1
  cases more <;> rfl
 have h2 : 2 ^ (f.fractionBits + 2) ≤ sticky (q * 8 + more.toNat) 2 := by
  rw [hs, show f.fractionBits + 2 = f.fractionBits + 1 + 1 from rfl, Nat.pow_succ]; omega
 rw [rung_sticky f _ 2 _ h2, hs]
 congr 1; omega
def IsRt (a q : Nat) : Prop := q * q ≤ a ∧ a < (q + 1) * (q + 1)
def rs (a q : Nat) : Nat := 2 * q + (q * q != a).toNat
theorem sq_lt {a b : Nat} (h : a * a < b * b) : a < b := by
 by_cases c : a < b
 ·exact c
 ·have := Nat.mul_le_mul (Nat.le_of_not_lt c) (Nat.le_of_not_lt c); omega
theorem sq_le {a b : Nat} (h : a * a ≤ b * b) : a ≤ b := by
 by_cases c : a ≤ b
 ·exact c
 ·have c' : b < a := by omega
  have := Nat.mul_lt_mul_of_lt_of_le c' (Nat.le_of_lt c') (by omega : 0 < a)
  omega
theorem isRt_scale {a r R k : Nat} (h : IsRt a r) (H : IsRt (a * 4 ^ k) R) : R / 2 ^ k = r ∧ ((R % 2 ^ k = 0 ∧ R * R = a * 4 ^ k) ↔ r * r = a) := by
 have hK : 0 < 2 ^ k := Nat.two_pow_pos _
 have h4 : (4 : Nat) ^ k = 2 ^ k * 2 ^ k := by rw [← Nat.mul_pow]
 rw [h4] at H ⊢
 generalize 2 ^ k = K at *
 obtain ⟨h1, h2⟩ := h
 obtain ⟨H1, H2⟩ := H
 have a1 : r * K < R + 1 := by
  refine sq_lt (Nat.lt_of_le_of_lt ?_ H2)
  rw [show r * K * (r * K) = r * r * (K * K) from by rw [Nat.mul_mul_mul_comm]]
  exact Nat.mul_le_mul_right _ h1
 have a2 : R < (r + 1) * K := by
  refine sq_lt (Nat.lt_of_le_of_lt H1 ?_)
  rw [show (r + 1) * K * ((r + 1) * K) = (r + 1) * (r + 1) * (K * K) from by rw [Nat.mul_mul_mul_comm]]
  exact Nat.mul_lt_mul_of_pos_right h2 (Nat.mul_pos hK hK)
 have hd : R / K = r := Nat.div_eq_of_lt_le (by omega) a2
 refine ⟨hd, ?_, ?_⟩
 ·rintro ⟨c1, c2⟩
  have e := Nat.div_add_mod R K
  rw [hd, c1, Nat.add_zero] at e
  rw [← e, Nat.mul_mul_mul_comm, Nat.mul_comm a] at c2
  exact Nat.eq_of_mul_eq_mul_left (Nat.mul_pos hK hK) c2
 ·intro c
  have e : R = K * r := by
   have b1 : R * R ≤ (K * r) * (K * r) := by rw [Nat.mul_mul_mul_comm, c, Nat.mul_comm (K * K)]; exact H1
   have := sq_le b1
   rw [Nat.mul_comm] at a1
   omega
  subst e
  refine ⟨Nat.mul_mod_right _ _, ?_⟩
  rw [Nat.mul_mul_mul_comm, c, Nat.mul_comm]
theorem rs_sticky {a r R k : Nat} (h : IsRt a r) (H : IsRt (a * 4 ^ k) R) : sticky (rs (a * 4 ^ k) R) k = rs a r := by
 obtain ⟨hd, hz⟩ := isRt_scale h H
 unfold sticky rs
 rw [show 2 ^ (k + 1) = 2 * 2 ^ k from by rw [Nat.pow_succ, Nat.mul_comm]]
 have hr := bit_le (R * R != a * 4 ^ k)
 rw [← Nat.div_div_eq_div_mul, Nat.mod_mul, show (2 * R + (R * R != a * 4 ^ k).toNat) / 2 = R from by omega, hd]
 congr 1
 have hb : (2 * R + (R * R != a * 4 ^ k).toNat) % 2 = (R * R != a * 4 ^ k).toNat := by omega
 rw [hb]
 by_cases c : r * r = a
 ·obtain ⟨z1, z2⟩ := hz.2 c
  rw [z1, z2, c]; simp
 ·have z : ¬ (R % 2 ^ k = 0 ∧ R * R = a * 4 ^ k) := fun h => c (hz.1 h)
  have e1 : (r * r != a) = true := by simpa using c
  rw [e1]
  by_cases c2 : R * R = a * 4 ^ k
  ·have c3 : R % 2 ^ k ≠ 0 := fun h => z ⟨h, c2⟩
   have : ((R * R != a * 4 ^ k).toNat + 2 * (R % 2 ^ k) != 0) = true := by rw [bne_iff_ne]; omega
   rw [this]
  ·have : (R * R != a * 4 ^ k) = true := by simpa using c2
   rw [this]; simp
theorem rung_rs_le (f : Format) (a k1 k2 r1 r2 : Nat) (p : Int) (hk : k1 ≤ k2) (h1 : IsRt (a * 4 ^ k1) r1) (h2 : IsRt (a * 4 ^ k2) r2) (hb : 2 ^ (f.fractionBits + 2) ≤ rs (a * 4 ^ k1) r1) :
  rung f (rs (a * 4 ^ k1) r1) (p - k1) = rung f (rs (a * 4 ^ k2) r2) (p - k2) := by
 obtain ⟨k, rfl⟩ : ∃ k, k2 = k1 + k := ⟨k2 - k1, by omega⟩
 rw [Nat.pow_add 4, ← Nat.mul_assoc] at h2
 have hs := rs_sticky h1 h2
 rw [Nat.pow_add 4, ← Nat.mul_assoc, rung_sticky f (rs (a * 4 ^ k1 * 4 ^ k) r2) k _ (by rw [hs]; exact hb), hs]
 congr 1; omega
theorem rung_rs (f : Format) (a k1 k2 r1 r2 : Nat) (p : Int) (h1 : IsRt (a * 4 ^ k1) r1) (h2 : IsRt (a * 4 ^ k2) r2) (hb : 2 ^ (f.fractionBits + 2) ≤ rs (a * 4 ^ k1) r1) (hb2 : 2 ^ (f.fractionBits + 2) ≤ rs (a * 4 ^ k2) r2) :
  rung f (rs (a * 4 ^ k1) r1) (p - k1) = rung f (rs (a * 4 ^ k2) r2) (p - k2) := by
 rcases Nat.le_total k1 k2 with h | h
 ·exact rung_rs_le f a k1 k2 r1 r2 p h h1 h2 hb
 ·exact (rung_rs_le f a k2 k1 r2 r1 p h h2 h1 hb2).symm
theorem rootFrom_is (n : Nat) : ∀ (t r : Nat), r * r ≤ n → n < (r + 2 ^ t) * (r + 2 ^ t) → IsRt n (Datum.rootFrom n t r)
 | 0, r, h1, h2 => ⟨h1, h2⟩
 | t + 1, r, h1, h2 => by
  unfold Datum.rootFrom
  simp only [Nat.shiftLeft_eq, Nat.one_mul]
  by_cases c : (r + 2 ^ t) * (r + 2 ^ t) ≤ n
  ·rw [if_pos c]
   exact rootFrom_is n t _ c (by rw [Nat.add_assoc, show 2 ^ t + 2 ^ t = 2 ^ (t + 1) from by rw [Nat.pow_succ]; omega]; exact h2)
  ·rw [if_neg c]
   exact rootFrom_is n t r h1 (by omega)
theorem root_is (n : Nat) : IsRt n (Datum.rootFrom n (n.log2 / 2 + 1) 0) := by
 refine rootFrom_is n _ 0 (Nat.zero_le _) ?_
 rw [Nat.zero_add, ← Nat.pow_add]
 have : n < 2 ^ (n.log2 + 1) := Nat.lt_log2_self
 exact Nat.lt_of_lt_of_le this (Nat.pow_le_pow_right (by decide) (by omega))
end Fl

namespace Fl
open Ieee
set_option linter.unusedSimpArgs false
set_option linter.unusedVariables false
theorem rnd_mono {m n : Nat} (h : m ≤ n) (d : Nat) : rnd m d ≤ rnd n d := by
 have hF : 0 < 2 ^ d := Nat.two_pow_pos _
 unfold rnd
 have h1 : m / 2 ^ d ≤ n / 2 ^ d := Nat.div_le_div_right h
 have e1 := Nat.div_add_mod m (2 ^ d)
 have e2 := Nat.div_add_mod n (2 ^ d)
 have l1 := Nat.mod_lt m hF
 have l2 := Nat.mod_lt n hF
 generalize 2 ^ d = F at *
 generalize m / F = a at *
 generalize n / F = b at *
 generalize m % F = r at *
 generalize n % F = t at *
 rcases Nat.lt_or_eq_of_le h1 with h2 | h2
 ·have := bit_le (decide (F < 2 * r) || F == 2 * r && a % 2 == 1)
  omega
 ·subst h2
  have hrt : r ≤ t := by omega
  refine Nat.add_le_add_left ?_ _
  by_cases c1 : F < 2 * r
  ·rw [decide_eq_true c1, decide_eq_true (by omega : F < 2 * t)]; simp
  ·by_cases c2 : F = 2 * r
   ·by_cases c3 : F < 2 * t
    ·rw [decide_eq_true c3]; exact bit_le _
    ·rw [show t = r from by omega]; exact Nat.le_refl _
   ·rw [decide_eq_false c1, show (F == 2 * r) = false from by simpa using c2]
    simp
theorem rnd_le {m d B : Nat} (h : m ≤ B * 2 ^ d) : rnd m d ≤ B := by
 have := rnd_mono h d
 rwa [rnd_exact] at this
theorem le_rnd {m d B : Nat} (h : B * 2 ^ d ≤ m) : B ≤ rnd m d := by
 have := rnd_mono h d
 rwa [rnd_exact] at this
theorem kept_range (f : Format) {m : Nat} (hm : m ≠ 0) (p : Int) : keptOf f m p ≤ 2 * f.binade ∧ (f.leastPlace < lastOf f m p → f.binade ≤ keptOf f m p) := by
 have h1 := Nat.log2_self_le hm
 have h2 : m < 2 ^ (m.log2 + 1) := Nat.lt_log2_self
 unfold keptOf
 have hL : p + m.log2 - f.fractionBits ≤ lastOf f m p := Int.le_max_left _ _
 have hL2 : f.leastPlace < lastOf f m p → lastOf f m p = p + m.log2 - f.fractionBits := by unfold lastOf; omega
 generalize lastOf f m p = L at *
 generalize m.log2 = l at *
 unfold Format.binade
 rw [Nat.shiftLeft_eq]
 rw [show 2 * 2 ^ f.fractionBits = 2 ^ (f.fractionBits + 1) from by rw [Nat.pow_succ, Nat.mul_comm]]
 constructor
 ·refine rnd_le ?_
  have a1 : m * 2 ^ (p - L).toNat ≤ 2 ^ (l + 1) * 2 ^ (p - L).toNat := Nat.mul_le_mul_right _ (by omega)
  refine Nat.le_trans a1 ?_
  rw [← Nat.pow_add, ← Nat.pow_add]
  exact Nat.pow_le_pow_right (by decide) (by omega)
 ·intro hlt
  have e := hL2 hlt
  refine le_rnd ?_
  have a1 : 2 ^ l * 2 ^ (p - L).toNat ≤ m * 2 ^ (p - L).toNat := Nat.mul_le_mul_right _ h1
  refine Nat.le_trans ?_ a1
  rw [← Nat.pow_add, ← Nat.pow_add]
  exact Nat.pow_le_pow_right (by decide) (by omega)
theorem last_ge (f : Format) (m : Nat) (p : Int) : f.leastPlace ≤ lastOf f m p := Int.le_max_right _ _
theorem rung_le (f : Format) (m : Nat) (p : Int) : rung f m p ≤ f.infRung := by
 unfold rung
 by_cases h : m = 0
 ·rw [if_pos h]; exact Nat.zero_le _
 ·rw [if_neg h]; exact Nat.min_le_right _ _
def V (f : Format) (r : Nat) : Nat := if r < f.binade then r else (f.binade + r % f.binade) * 2 ^ (r / f.binade - 1)
theorem read_number (f : Format) (neg : Bool) (r : Nat) (h : r < f.infRung) : ∃ m p, f.read (f.word neg r) = .number neg m p ∧ f.leastPlace ≤ p ∧ m * 2 ^ (p - f.leastPlace).toNat = V f r ∧ (m = 0 ↔ r = 0) ∧ rung f m p = r := by
 have hb := binade_pos f
 have h1 := f.infRung_add_binade
 by_cases c : r < f.binade
 ·refine ⟨r, f.leastPlace, read_word_sub f neg r c, Int.le_refl _, ?_, Iff.rfl, ?_⟩
  ·unfold V; rw [if_pos c, Int.sub_self]; simp
  ·unfold rung
   by_cases h0 : r = 0
   ·rw [if_pos h0, h0]
   ·rw [if_neg h0]
    have hl : lastOf f r f.leastPlace = f.leastPlace := by
     unfold lastOf
     have : r.log2 < f.fractionBits := (Nat.log2_lt h0).2 c
     omega
    have hk : keptOf f r f.leastPlace = r := by
     unfold keptOf; rw [hl, Int.sub_self]; exact rnd_zero r
    rw [hl, hk, Int.sub_self]
    simp; omega
 ·have q1 : 1 ≤ r / f.binade := (Nat.le_div_iff_mul_le hb).2 (by omega)
  have e1 := Nat.div_add_mod r f.binade
  have l1 := Nat.mod_lt r hb
  obtain ⟨q, hq⟩ : ∃ q, r / f.binade = q + 1 := ⟨r / f.binade - 1, by omega⟩
  have e2 : r = q * f.binade + (f.binade + r % f.binade) := by rw [hq, Nat.mul_add, Nat.mul_comm] at e1; omega
  refine ⟨f.binade + r % f.binade, f.leastPlace + q, ?_, by omega, ?_, by omega, ?_⟩
  ·have := read_word_normal f neg q (f.binade + r % f.binade) (by omega) (by omega) (by omega)
   rwa [← e2] at this
  ·unfold V
   rw [if_neg c, hq, show (f.leastPlace + q - f.leastPlace).toNat = q from by omega, Nat.add_sub_cancel]
  ·unfold rung
   rw [if_neg (by omega)]
   have hlg : (f.binade + r % f.binade).log2 = f.fractionBits := by
    rw [Nat.log2_eq_iff (by omega)]
    have : 2 ^ (f.fractionBits + 1) = 2 * f.binade := by unfold Format.binade; rw [Nat.pow_succ, Nat.mul_comm]
    refine ⟨?_, by omega⟩
    show f.binade ≤ _
    omega
   have hl : lastOf f (f.binade + r % f.binade) (f.leastPlace + q) = f.leastPlace + q := by
    unfold lastOf; rw [hlg]; omega
   have hk : keptOf f (f.binade + r % f.binade) (f.leastPlace + q) = f.binade + r % f.binade := by
    unfold keptOf; rw [hl, Int.sub_self]; exact rnd_zero _
   rw [hl, hk, show (f.leastPlace + q - f.leastPlace).toNat = q from by omega, ← e2]
   omega
theorem read_rung (f : Format) (neg : Bool) {m : Nat} (hm : m ≠ 0) (p : Int) (h : rung f m p < f.infRung) : Same (f.read (f.word neg (rung f m p))) (.number neg (keptOf f m p) (lastOf f m p)) := by
 have hb := binade_pos f
 obtain ⟨a1, a2⟩ := kept_range f hm p
 have c1 := last_ge f m p
 unfold rung at h ⊢
 rw [if_neg hm] at h ⊢
 generalize lastOf f m p = L at *
 generalize keptOf f m p = k at *
 have h' : (L - f.leastPlace).toNat * f.binade + k < f.infRung := by omega
 rw [Nat.min_eq_left (by omega)]
 by_cases k1 : k < f.binade
 ·have e : L = f.leastPlace := by
   rcases Int.lt_or_le f.leastPlace L with h | h
   ·have := a2 h; omega
   ·omega
  subst e
  rw [Int.sub_self]
  show Same (f.read (f.word neg (0 * f.binade + k))) _
  rw [Nat.zero_mul, Nat.zero_add, read_word_sub f neg k k1]
  exact Same.refl _
 ·by_cases k2 : k < 2 * f.binade
  ·rw [read_word_normal f neg _ k (by omega) k2 h', show f.leastPlace + ((L - f.leastPlace).toNat : Int) = L from by omega]
   exact Same.refl _
  ·have e : k = f.binade + f.binade := by omega
   subst e
   have e2 : (L - f.leastPlace).toNat * f.binade + (f.binade + f.binade) = ((L - f.leastPlace).toNat + 1) * f.binade + f.binade := by rw [Nat.add_mul]; omega
   rw [e2] at h' ⊢
   rw [read_word_normal f neg _ f.binade (by omega) (by omega) h']
   refine ⟨rfl, L, by omega, by omega, ?_⟩
   rw [show (f.leastPlace + ((L - f.leastPlace).toNat + 1 : Nat) - L).toNat = 1 from by omega, show (L - L).toNat = 0 from by omega]
   omega
end Fl

namespace Fl
open Ieee
def wholeN (mode : Int) (neg : Bool) (m : Nat) (i : Int) : Nat :=
 if 0 ≤ i then m * 2 ^ i.toNat
 else if mode = 0 then m / 2 ^ (-i).toNat
 else if mode = 1 then (m + 2 ^ ((-i).toNat - 1)) / 2 ^ (-i).toNat
 else if mode = 2 then m / 2 ^ (-i).toNat + (neg && m % 2 ^ (-i).toNat != 0).toNat
 else m / 2 ^ (-i).toNat + (!neg && m % 2 ^ (-i).toNat != 0).toNat
theorem cut_at (n d : Nat) : n / (1 <<< min d (n.log2 + 2)) = n / 2 ^ d ∧ n % (1 <<< min d (n.log2 + 2)) = n % 2 ^ d := by
 rw [Nat.one_shiftLeft]
 by_cases h : d ≤ n.log2 + 2
 ·rw [Nat.min_eq_left h]; exact ⟨rfl, rfl⟩
 ·have h' : n.log2 + 2 ≤ d := by omega
  rw [Nat.min_eq_right h']
  have hlt : n < 2 ^ (n.log2 + 1) := Nat.lt_log2_self
  have e2 : 2 ^ (n.log2 + 2) = 2 * 2 ^ (n.log2 + 1) := by rw [Nat.pow_succ, Nat.mul_comm]
  have hle : 2 ^ (n.log2 + 2) ≤ 2 ^ d := Nat.pow_le_pow_right (by decide) h'
  rw [Nat.div_eq_of_lt (show n < 2 ^ (n.log2 + 2) by omega), Nat.div_eq_of_lt (show n < 2 ^ d by omega), Nat.mod_eq_of_lt (show n < 2 ^ (n.log2 + 2) by omega), Nat.mod_eq_of_lt (show n < 2 ^ d by omega)]
  exact ⟨rfl, rfl⟩
theorem cut_zero (s : Bool) (n d : Nat) : Toward.zero.cut s n d = n / 2 ^ d := by
 unfold Toward.cut
 simp only [(cut_at n d).1]; rfl
theorem cut_down (s : Bool) (n d : Nat) : Toward.down.cut s n d = n / 2 ^ d + (s && n % 2 ^ d != 0).toNat := by
 unfold Toward.cut
 simp only [(cut_at n d).1, (cut_at n d).2]
theorem cut_up (s : Bool) (n d : Nat) : Toward.up.cut s n d = n / 2 ^ d + (!s && n % 2 ^ d != 0).toNat := by
 unfold Toward.cut
 simp only [(cut_at n d).1, (cut_at n d).2]
theorem whole_pos {mode : Int} {s : Bool} {m : Nat} {i : Int} (h : 0 ≤ i) : wholeN mode s m i = m * 2 ^ i.toNat := by
 unfold wholeN; rw [if_pos h]
theorem shl_neg {m : Nat} {i : Int} (h : ¬ 0 ≤ i) : m <<< i.toNat = m := by
 rw [show i.toNat = 0 from by omega, Nat.shiftLeft_zero]
theorem drop_pos {i : Int} (h : 0 ≤ i) : (-i).toNat = 0 := by omega
theorem cut0 (s : Bool) (m : Nat) (i : Int) : Toward.zero.cut s (m <<< i.toNat) (-i).toNat = wholeN 0 s m i := by
 rw [cut_zero]
 by_cases h : 0 ≤ i
 ·rw [whole_pos h, drop_pos h, Nat.pow_zero, Nat.div_one, Nat.shiftLeft_eq]
 ·unfold wholeN; rw [if_neg h, shl_neg h]; rfl
theorem cut2 (s : Bool) (m : Nat) (i : Int) : Toward.down.cut s (m <<< i.toNat) (-i).toNat = wholeN 2 s m i := by
 rw [cut_down]
 by_cases h : 0 ≤ i
 ·rw [whole_pos h, drop_pos h, Nat.pow_zero, Nat.div_one, Nat.shiftLeft_eq, Nat.mod_one]; cases s <;> rfl
 ·unfold wholeN; rw [if_neg h, shl_neg h]; rfl
theorem cut3 (s : Bool) (m : Nat) (i : Int) : Toward.up.cut s (m <<< i.toNat) (-i).toNat = wholeN 3 s m i := by
 rw [cut_up]
 by_cases h : 0 ≤ i
 ·rw [whole_pos h, drop_pos h, Nat.pow_zero, Nat.div_one, Nat.shiftLeft_eq, Nat.mod_one]; cases s <;> rfl
 ·unfold wholeN; rw [if_neg h, shl_neg h]; rfl
theorem ne_mul_pow (a k : Nat) : (a * 2 ^ k != 0) = (a != 0) := by
 have hp := Nat.two_pow_pos k
 by_cases h : a = 0
 ·subst h; simp
 ·have : a * 2 ^ k ≠ 0 := by
   intro e; rcases Nat.mul_eq_zero.1 e with e | e <;> omega
  rw [bne_iff_ne.2 h, bne_iff_ne.2 this]
theorem whole_scale (mode : Int) (s : Bool) (m k : Nat) (i : Int) : wholeN mode s (m * 2 ^ k) i = wholeN mode s m (i + k) := by
 have hp := Nat.two_pow_pos k
 by_cases h : 0 ≤ i
 ·rw [whole_pos h, whole_pos (by omega), Nat.mul_assoc, ← Nat.pow_add]
  congr 2; omega
 ·by_cases h2 : 0 ≤ i + k
  ·rw [whole_pos h2]
   obtain ⟨u, hu⟩ : ∃ u : Nat, k = u + (-i).toNat := ⟨k - (-i).toNat, by omega⟩
   have hd := Nat.two_pow_pos (-i).toNat
   have e : m * 2 ^ k = m * 2 ^ u * 2 ^ (-i).toNat := by rw [hu, Nat.pow_add, Nat.mul_assoc]
   have ed : m * 2 ^ k / 2 ^ (-i).toNat = m * 2 ^ u := by rw [e]; exact Nat.mul_div_cancel _ hd
   have em : m * 2 ^ k % 2 ^ (-i).toNat = 0 := by rw [e]; exact Nat.mul_mod_left _ _
   have en : (m * 2 ^ k + 2 ^ ((-i).toNat - 1)) / 2 ^ (-i).toNat = m * 2 ^ u := by
    rw [e, Nat.add_comm, Nat.add_mul_div_right _ _ hd, Nat.div_eq_of_lt (Nat.pow_lt_pow_right (by decide) (by omega)), Nat.zero_add]
   unfold wholeN
   rw [if_neg h, ed, em, en, show (i + k).toNat = u from by omega]
   simp
  ·obtain ⟨d, hd⟩ : ∃ d : Nat, (-(i + k)).toNat = d := ⟨_, rfl⟩
   have hik : (-i).toNat = d + k := by omega
   have e : 2 ^ (d + k) = 2 ^ d * 2 ^ k := Nat.pow_add _ _ _
   have ed : m * 2 ^ k / (2 ^ d * 2 ^ k) = m / 2 ^ d := Nat.mul_div_mul_right _ _ hp
   have em : m * 2 ^ k % (2 ^ d * 2 ^ k) = m % 2 ^ d * 2 ^ k := Nat.mul_mod_mul_right _ _ _
   have en : (m * 2 ^ k + 2 ^ (d + k - 1)) / (2 ^ d * 2 ^ k) = (m + 2 ^ (d - 1)) / 2 ^ d := by
    rw [show d + k - 1 = d - 1 + k from by omega, Nat.pow_add, ← Nat.add_mul]
    exact Nat.mul_div_mul_right _ _ hp
   unfold wholeN
   rw [if_neg h, if_neg h2, hik, hd, e, ed, em, en, ne_mul_pow]
theorem whole_same (mode : Int) (s : Bool) {m n : Nat} {p q b : Int} (h1 : b ≤ p) (h2 : b ≤ q) (h : m * 2 ^ (p - b).toNat = n * 2 ^ (q - b).toNat) : wholeN mode s m p = wholeN mode s n q := by
 have e1 := whole_scale mode s m (p - b).toNat b
 have e2 := whole_scale mode s n (q - b).toNat b
 rw [show b + ((p - b).toNat : Int) = p from by omega] at e1
 rw [show b + ((q - b).toNat : Int) = q from by omega] at e2
 rw [← e1, ← e2, h]
theorem whole_zero (mode : Int) (s : Bool) (i : Int) : wholeN mode s 0 i = 0 := by
 unfold wholeN
 have h2 : ¬ 0 ≤ i → 2 ^ ((-i).toNat - 1) / 2 ^ (-i).toNat = 0 := fun h => Nat.div_eq_of_lt (Nat.pow_lt_pow_right (by decide) (by omega))
 by_cases h : 0 ≤ i
 ·rw [if_pos h, Nat.zero_mul]
 ·rw [if_neg h, Nat.zero_div, Nat.zero_mod, Nat.zero_add, h2 h]
  simp
theorem whole_half {mode : Int} {s : Bool} {m : Nat} {i : Int} {B : Nat} (h : ¬ 0 ≤ i) (hm : m < 2 * B) : wholeN mode s m i ≤ B := by
 obtain ⟨d, hd⟩ : ∃ d : Nat, (-i).toNat = d + 1 := ⟨(-i).toNat - 1, by omega⟩
 have hp := Nat.two_pow_pos d
 have e : 2 ^ (d + 1) = 2 * 2 ^ d := by rw [Nat.pow_succ, Nat.mul_comm]
 have h1 : m / 2 ^ (d + 1) * 2 ^ (d + 1) ≤ m := Nat.div_mul_le_self _ _
 have h2 : m / 2 ^ (d + 1) < B := by
  rw [Nat.div_lt_iff_lt_mul (Nat.two_pow_pos _)]
  refine Nat.lt_of_lt_of_le hm ?_
  rw [e, ← Nat.mul_assoc, Nat.mul_comm B 2]
  exact Nat.le_mul_of_pos_right _ hp
 have h3 : (m + 2 ^ (d + 1 - 1)) / 2 ^ (d + 1) ≤ B := by
  rw [Nat.add_sub_cancel]
  have : (m + 2 ^ d) / 2 ^ (d + 1) < B + 1 := by
   rw [Nat.div_lt_iff_lt_mul (Nat.two_pow_pos _)]
   have : B ≤ B * 2 ^ d := Nat.le_mul_of_pos_right _ hp
   have e2 : (B + 1) * 2 ^ (d + 1) = 2 * (B * 2 ^ d) + 2 * 2 ^ d := by rw [e, Nat.add_mul, Nat.one_mul, Nat.mul_left_comm]
   omega
  omega
 have hb : ∀ b : Bool, b.toNat ≤ 1 := fun b => by cases b <;> decide
 unfold wholeN
 rw [if_neg h, hd]
 split
 ·omega
 ·split
  ·exact h3
  ·split
   ·have := hb (s && m % 2 ^ (d + 1) != 0); omega
   ·have := hb (!s && m % 2 ^ (d + 1) != 0); omega
theorem val_down {m n : Nat} {i j b d : Int} (h1 : b ≤ i) (h2 : b ≤ j) (hd : d ≤ b) (h : m * 2 ^ (i - b).toNat = n * 2 ^ (j - b).toNat) : m * 2 ^ (i - d).toNat = n * 2 ^ (j - d).toNat := by
 rw [show (i - d).toNat = (i - b).toNat + (b - d).toNat from by omega, show (j - d).toNat = (j - b).toNat + (b - d).toNat from by omega, Nat.pow_add, Nat.pow_add, ← Nat.mul_assoc, ← Nat.mul_assoc, h]
theorem Same.trans {x y z : Datum} (h : Same x y) (h' : Same y z) : Same x z := by
 cases x with
 | number s m i =>
  cases y with
  | number t n j =>
   cases z with
   | number u k l =>
    obtain ⟨rfl, b, b1, b2, hb⟩ := h
    obtain ⟨rfl, c, c1, c2, hc⟩ := h'
    refine ⟨rfl, min b c, by omega, by omega, ?_⟩
    rw [val_down b1 b2 (Int.min_le_left b c) hb, val_down c1 c2 (Int.min_le_right b c) hc]
   | infinity u => exact h'.elim
   | nan u k => exact h'.elim
  | infinity t => exact h.elim
  | nan t n => exact h.elim
 | infinity s =>
  cases y with
  | infinity t =>
   cases z with
   | infinity u => exact Eq.trans h h'
   | number u k l => exact h'.elim
   | nan u k => exact h'.elim
  | number t n j => exact h.elim
  | nan t n => exact h.elim
 | nan s m =>
  cases y with
  | nan t n =>
   cases z with
   | nan u k => exact trivial
   | number u k l => exact h'.elim
   | infinity u => exact h'.elim
  | number t n j => exact h.elim
  | infinity t => exact h.elim
theorem int_exact (f : Format) (h1 : f.leastPlace ≤ -f.fractionBits) (h2 : ((-f.leastPlace).toNat + 2) * f.binade ≤ f.infRung) (s : Bool) (q : Nat) (hq : q ≤ f.binade) :
  rung f q 0 < f.infRung ∧ Same (f.read (f.word s (rung f q 0))) (.number s q 0) := by
 have hb := binade_pos f
 have hinf : 0 < f.infRung := by
  have : 1 * f.binade ≤ ((-f.leastPlace).toNat + 2) * f.binade := Nat.mul_le_mul_right _ (by omega)
  omega
 by_cases h0 : q = 0
 ·subst h0
  rw [rung_zero, read_word_sub f s 0 hb]
  exact ⟨hinf, rfl, f.leastPlace, Int.le_refl _, by omega, by rw [Nat.zero_mul, Nat.zero_mul]⟩
 ·have hlo : 2 ^ q.log2 ≤ q := Nat.log2_self_le h0
  have hl : q.log2 ≤ f.fractionBits := by
   have : 2 ^ q.log2 ≤ 2 ^ f.fractionBits := Nat.le_trans hlo hq
   exact (Nat.pow_le_pow_iff_right (by decide)).1 this
  have hL : lastOf f q 0 = (q.log2 : Int) - f.fractionBits := by
   unfold lastOf; omega
  have hk : keptOf f q 0 = q * 2 ^ (f.fractionBits - q.log2) := by
   unfold keptOf
   rw [hL, show ((q.log2 : Int) - f.fractionBits - 0).toNat = 0 from by omega, rnd_zero, show (0 - ((q.log2 : Int) - f.fractionBits)).toNat = f.fractionBits - q.log2 from by omega, Nat.shiftLeft_eq]
  have hlt : rung f q 0 < f.infRung := by
   unfold rung
   rw [if_neg h0, hL, hk]
   refine Nat.lt_of_le_of_lt (Nat.min_le_left _ _) (Nat.lt_of_lt_of_le ?_ h2)
   have hhi : q < 2 ^ (q.log2 + 1) := Nat.lt_log2_self
   have k2 : q * 2 ^ (f.fractionBits - q.log2) < 2 * f.binade := by
    have : 2 ^ (q.log2 + 1) * 2 ^ (f.fractionBits - q.log2) = 2 * f.binade := by
     unfold Format.binade
     rw [← Nat.pow_add, ← Nat.pow_succ']; congr 1; omega
    rw [← this]; exact Nat.mul_lt_mul_of_pos_right hhi (Nat.two_pow_pos _)
   have k3 : ((q.log2 : Int) - f.fractionBits - f.leastPlace).toNat * f.binade ≤ (-f.leastPlace).toNat * f.binade := Nat.mul_le_mul_right _ (by omega)
   rw [Nat.add_mul]
   omega
  refine ⟨hlt, ?_⟩
  have hr := read_rung f s h0 0 hlt
  have hs : Same (.number s (keptOf f q 0) (lastOf f q 0)) (.number s q 0) := by
   refine ⟨rfl, lastOf f q 0, Int.le_refl _, by omega, ?_⟩
   rw [hk, hL, show ((q.log2 : Int) - f.fractionBits - (q.log2 - f.fractionBits)).toNat = 0 from by omega, Nat.pow_zero, Nat.mul_one, show (0 - ((q.log2 : Int) - f.fractionBits)).toNat = f.fractionBits - q.log2 from by omega]
  exact Same.trans hr hs
end Fl

namespace Fl
open Ieee
def WholeOK (mode : Int) (x r : Nat) : Prop :=
 match double.read x with
 | .nan _ _ => ∃ s t, double.read r = .nan s t
 | .infinity s => r = double.word s double.infRung
 | .number s m i => r = double.word s (rung double (wholeN mode s m i) 0)
theorem rung_normal {q k : Nat} (hk : double.binade ≤ k) (hk2 : k < 2 * double.binade) (hq : q * double.binade + k < double.infRung) : rung double k (double.leastPlace + q) = q * double.binade + k := by
 have h := read_word_normal double false q k hk hk2 hq
 obtain ⟨m, p, h1, -, -, -, h2⟩ := read_number double false (q * double.binade + k) hq
 rw [h] at h1
 cases h1
 exact h2
def rnd64 (x : Nat) : Nat :=
 if x / 4503599627370496 % 2048 < 1023 then (if x < 9223372036854775808 then 0 else 9223372036854775808) + (if x / 4503599627370496 % 2048 = 1022 then 4607182418800017408 else 0)
 else if x / 4503599627370496 % 2048 < 1075 then (x + 2 ^ (1075 - x / 4503599627370496 % 2048 - 1)) / 2 ^ (1075 - x / 4503599627370496 % 2048) * 2 ^ (1075 - x / 4503599627370496 % 2048)
 else x
theorem word_split {x : Nat} (h : x < 18446744073709551616) : ∃ neg r, r < 9223372036854775808 ∧ x = double.word neg r ∧ (neg = true ↔ 9223372036854775808 ≤ x) ∧ x / 4503599627370496 % 2048 = r / 4503599627370496 := by
 unfold Format.word
 rw [double_sign]
 by_cases c : x < 9223372036854775808
 ·refine ⟨false, x, c, rfl, ⟨fun h => absurd h (by decide), fun h => by omega⟩, ?_⟩
  omega
 ·refine ⟨true, x - 9223372036854775808, by omega, by simp; omega, ⟨fun _ => by omega, fun _ => rfl⟩, ?_⟩
  omega
theorem one_rung : rung double 1 0 = 4607182418800017408 := by
 have h := rung_normal (q := 1022) (k := 4503599627370496) (by decide) (by decide) (by decide)
 have h2 := rung_scale double 1 52 (-52)
 rw [show (1 : Nat) * 2 ^ 52 = 4503599627370496 from rfl, show (-52 : Int) + (52 : Nat) = 0 from rfl] at h2
 rw [← h2]
 exact h
theorem rnd64_word (neg : Bool) {r : Nat} (hr : r < 9223372036854775808) : rnd64 (double.word neg r) = double.word neg (if r / 4503599627370496 < 1023 then (if r / 4503599627370496 = 1022 then 4607182418800017408 else 0) else if r / 4503599627370496 < 1075 then (r + 2 ^ (1075 - r / 4503599627370496 - 1)) / 2 ^ (1075 - r / 4503599627370496) * 2 ^ (1075 - r / 4503599627370496) else r) := by
 have hx : double.word neg r / 4503599627370496 % 2048 = r / 4503599627370496 := by
  unfold Format.word; rw [double_sign]; cases neg
  ·show r / _ % _ = _; omega
  ·show (9223372036854775808 + r) / _ % _ = _; omega
 unfold rnd64
 rw [hx]
 by_cases c1 : r / 4503599627370496 < 1023
 ·rw [if_pos c1, if_pos c1]
  unfold Format.word; rw [double_sign]
  cases neg
  ·simp only [Bool.false_eq_true, if_false]; rw [if_pos hr, Nat.zero_add]
  ·simp only [if_true]; rw [if_neg (by omega)]
 ·rw [if_neg c1, if_neg c1]
  by_cases c2 : r / 4503599627370496 < 1075
  ·rw [if_pos c2, if_pos c2]
   unfold Format.word; rw [double_sign]
   cases neg
   ·rfl
   ·simp only [if_true]
    obtain ⟨d, hd⟩ : ∃ d, 1075 - r / 4503599627370496 = d := ⟨_, rfl⟩
    rw [hd]
    have hd2 : d ≤ 52 := by omega
    have hp : 0 < 2 ^ d := Nat.two_pow_pos _
    have e : 9223372036854775808 = 2 ^ (63 - d) * 2 ^ d := by rw [← Nat.pow_add, show 63 - d + d = 63 from by omega]
    have e2 : 9223372036854775808 + r + 2 ^ (d - 1) = r + 2 ^ (d - 1) + 2 ^ (63 - d) * 2 ^ d := by rw [← e]; omega
    rw [e2, Nat.add_mul_div_right _ _ hp, Nat.add_mul, ← e, Nat.add_comm]
  ·rw [if_neg c2, if_neg c2]
theorem rung_top {d q e : Nat} (hd : 1 ≤ d) (hd2 : d ≤ 52) (he : e = 1075 - d) (h1 : 4503599627370496 ≤ q * 2 ^ d) (h2 : q * 2 ^ d ≤ 9007199254740992) : rung double q 0 = (e - 1) * 4503599627370496 + q * 2 ^ d := by
 have hs := rung_scale double q d (-d)
 rw [show (-(d : Int)) + (d : Nat) = 0 from by omega] at hs
 rw [← hs]
 generalize q * 2 ^ d = M at *
 by_cases c : M < 9007199254740992
 ·have h := rung_normal (q := e - 1) (k := M) (by rw [double_binade]; exact h1) (by rw [double_binade]; omega) (by rw [double_binade, double_inf]; omega)
  rw [double_least, double_binade] at h
  rw [← h]
  congr 1; omega
 ·obtain rfl : M = 4503599627370496 * 2 ^ 1 := by omega
  rw [rung_scale]
  have h := rung_normal (q := e) (k := 4503599627370496) (by decide) (by decide) (by rw [double_binade, double_inf]; omega)
  rw [double_least, double_binade] at h
  rw [show (-(d : Int)) + (1 : Nat) = -1074 + (e : Int) from by omega, h]
  omega
theorem round_ok {x : Nat} (h : x < 18446744073709551616) : WholeOK 1 x (rnd64 x) := by
 obtain ⟨neg, r, hr, rfl, -, -⟩ := word_split h
 clear h
 rw [rnd64_word neg hr]
 unfold WholeOK
 by_cases c0 : r < 9218868437227405312
 ·by_cases c1 : r < 4503599627370496
  ·rw [read_word_sub double neg r (by rw [double_binade]; exact c1), double_least]
   show _ = double.word neg (rung double (wholeN 1 neg r (-1074)) 0)
   have hw : wholeN 1 neg r (-1074) = 0 := by
    unfold wholeN
    rw [if_neg (by decide), if_neg (by decide), if_pos rfl]
    refine Nat.div_eq_of_lt ?_
    obtain ⟨d, hd, hd2⟩ : ∃ d, (-(-1074 : Int)).toNat = d + 1 ∧ 52 ≤ d := ⟨1073, rfl, by decide⟩
    rw [hd, Nat.add_sub_cancel]
    have e1 : 2 ^ (d + 1) = 2 * 2 ^ d := by rw [Nat.pow_succ, Nat.mul_comm]
    rw [e1]
    have : 2 ^ 52 ≤ 2 ^ d := Nat.pow_le_pow_right (by decide) hd2
    have e3 : 2 ^ 52 = 4503599627370496 := rfl
    generalize 2 ^ d = P at *
    omega
   rw [hw, rung_zero, if_pos (by omega), if_neg (by omega)]
  ·obtain ⟨e, he⟩ : ∃ e, r / 4503599627370496 = e := ⟨_, rfl⟩
   obtain ⟨m, hm⟩ : ∃ m, r = (e - 1) * 4503599627370496 + m := ⟨r - (e - 1) * 4503599627370496, by omega⟩
   have hm1 : 4503599627370496 ≤ m := by omega
   have hm2 : m < 9007199254740992 := by omega
   have he1 : 1 ≤ e := by omega
   have he2 : e ≤ 2046 := by omega
   have hread := read_word_normal double neg (e - 1) m (by rw [double_binade]; exact hm1) (by rw [double_binade]; omega) (by rw [double_binade, double_inf]; omega)
   rw [double_binade, double_least, ← hm] at hread
   rw [hread, he]
   show _ = double.word neg (rung double (wholeN 1 neg m (-1074 + ((e - 1 : Nat) : Int))) 0)
   congr 1
   have hi : (-1074 + ((e - 1 : Nat) : Int)) = (e : Int) - 1075 := by omega
   rw [hi]
   by_cases c3 : 1075 ≤ e
   ·rw [if_neg (by omega), if_neg (by omega), whole_pos (by omega), rung_scale]
    have h := rung_normal (q := e - 1) (k := m) (by rw [double_binade]; exact hm1) (by rw [double_binade]; omega) (by rw [double_binade, double_inf]; omega)
    rw [double_binade, double_least, ← hm] at h
    refine h.symm.trans ?_
    congr 1; omega
   ·obtain ⟨d, hd⟩ : ∃ d, 1075 - e = d := ⟨_, rfl⟩
    have hdn : (-((e : Int) - 1075)).toNat = d := by omega
    have hw : wholeN 1 neg m ((e : Int) - 1075) = (m + 2 ^ (d - 1)) / 2 ^ d := by
     unfold wholeN
     rw [if_neg (by omega), if_neg (by decide), if_pos rfl, hdn]
    rw [hw]
    by_cases c4 : e < 1023
    ·rw [if_pos c4]
     by_cases c5 : e = 1022
     ·rw [if_pos c5]
      obtain rfl : d = 53 := by omega
      rw [show (m + 2 ^ (53 - 1)) / 2 ^ 53 = 1 from Nat.div_eq_of_lt_le (by omega) (by omega), one_rung]
     ·rw [if_neg c5]
      have e1 : 2 ^ d = 2 * 2 ^ (d - 1) := by rw [← Nat.pow_succ']; congr 1; omega
      have : 2 ^ 53 ≤ 2 ^ (d - 1) := Nat.pow_le_pow_right (by decide) (by omega)
      have e3 : 2 ^ 53 = 9007199254740992 := rfl
      rw [e1]
      generalize 2 ^ (d - 1) = P at *
      rw [show (m + P) / (2 * P) = 0 from Nat.div_eq_of_lt (by omega), rung_zero]
    ·rw [if_neg c4, if_pos (by omega), hd]
     have hp : 0 < 2 ^ d := Nat.two_pow_pos _
     have e52 : 4503599627370496 = 2 ^ (52 - d) * 2 ^ d := by rw [← Nat.pow_add, show 52 - d + d = 52 from by omega]
     have ep : 2 ^ d = 2 * 2 ^ (d - 1) := by rw [← Nat.pow_succ']; congr 1; omega
     have hsp : r + 2 ^ (d - 1) = (m + 2 ^ (d - 1)) + (e - 1) * 2 ^ (52 - d) * 2 ^ d := by rw [Nat.mul_assoc, ← e52]; omega
     rw [hsp, Nat.add_mul_div_right _ _ hp, Nat.add_mul, Nat.mul_assoc (e - 1), ← e52]
     have b1 : (m + 2 ^ (d - 1)) / 2 ^ d * 2 ^ d ≤ m + 2 ^ (d - 1) := Nat.div_mul_le_self _ _
     have hq1 : 2 ^ (52 - d) ≤ (m + 2 ^ (d - 1)) / 2 ^ d := by
      rw [Nat.le_div_iff_mul_le hp, ← e52]; omega
     have b2 : 4503599627370496 ≤ (m + 2 ^ (d - 1)) / 2 ^ d * 2 ^ d := by
      have := Nat.mul_le_mul_right (2 ^ d) hq1
      rw [← e52] at this; exact this
     have e53 : 9007199254740992 = 2 ^ (53 - d) * 2 ^ d := by rw [← Nat.pow_add, show 53 - d + d = 53 from by omega]
     have hq2 : (m + 2 ^ (d - 1)) / 2 ^ d ≤ 2 ^ (53 - d) := by
      refine Nat.le_of_lt_succ ((Nat.div_lt_iff_lt_mul hp).2 ?_)
      rw [Nat.succ_mul, ← e53]
      have : 0 < 2 ^ (d - 1) := Nat.two_pow_pos _
      omega
     have b3 : (m + 2 ^ (d - 1)) / 2 ^ d * 2 ^ d ≤ 9007199254740992 := by
      have := Nat.mul_le_mul_right (2 ^ d) hq2
      rw [← e53] at this; exact this
     have hcall := rung_top (d := d) (q := (m + 2 ^ (d - 1)) / 2 ^ d) (e := e) (by omega) (by omega) (by omega) b2 b3
     rw [hcall, Nat.add_comm]
 ·by_cases c1 : r = 9218868437227405312
  ·subst c1
   have hread := read_word_inf double neg (by decide)
   rw [double_inf] at hread
   rw [hread]
   show _ = double.word neg double.infRung
   rw [double_inf, if_neg (by decide), if_neg (by decide)]
  ·have hread : ∃ s t, double.read (double.word neg r) = .nan s t := by
    obtain ⟨e1, e2⟩ := word_parts double neg r (by rw [double_sign]; exact hr)
    unfold Format.read
    have n1 : ¬ r < double.binade := by rw [double_binade]; omega
    have n2 : ¬ r < double.infRung := by rw [double_inf]; omega
    have n3 : ¬ r = double.infRung := by rw [double_inf]; exact c1
    simp only [e1, e2, n1, n2, n3, if_false]
    exact ⟨_, _, rfl⟩
   rw [if_neg (by omega), if_neg (by omega)]
   obtain ⟨s, t, hst⟩ := hread
   rw [hst]
   exact ⟨s, t, rfl⟩
end Fl

namespace Go.Proofs.YtmoimcblmmcffaaGreatDoor.B
open Go.RowKit
set_option linter.unusedSimpArgs false
set_option linter.unusedVariables false
def wayMode : Ieee.Toward → Int
 | .zero => 0
 | .down => 2
 | .up => 3
 | .even => 1
theorem cut_way (way : Ieee.Toward) (h : way ≠ .even) (s : Bool) (m : Nat) (i : Int) : way.cut s (m <<< i.toNat) (-i).toNat = Fl.wholeN (wayMode way) s m i := by
 cases way with
 | even => exact absurd rfl h
 | zero => exact Fl.cut0 s m i
 | down => exact Fl.cut2 s m i
 | up => exact Fl.cut3 s m i
theorem quiet_nan (s : Bool) (t : Nat) : ∃ a b, Ieee.double.read (Ieee.double.word s (Ieee.double.infRung + (t ||| 2251799813685248) % Ieee.double.binade)) = .nan a b := by
 have h1 : (t ||| 2251799813685248) % 4503599627370496 = t % 4503599627370496 ||| 2251799813685248 := Nat.or_mod_two_pow (n := 52)
 have h2 : 2251799813685248 ≤ t % 4503599627370496 ||| 2251799813685248 := Nat.right_le_or
 have h3 : (t ||| 2251799813685248) % 4503599627370496 < 4503599627370496 := Nat.mod_lt _ (by decide)
 rw [Fl.double_binade, Fl.double_inf]
 generalize (t ||| 2251799813685248) % 4503599627370496 = k at *
 rw [← h1] at h2
 obtain ⟨e1, e2⟩ := Fl.word_parts Ieee.double s (9218868437227405312 + k) (by rw [Fl.double_sign]; omega)
 unfold Ieee.Format.read
 have n1 : ¬ 9218868437227405312 + k < Ieee.double.binade := by rw [Fl.double_binade]; omega
 have n2 : ¬ 9218868437227405312 + k < Ieee.double.infRung := by rw [Fl.double_inf]; omega
 have n3 : ¬ 9218868437227405312 + k = Ieee.double.infRung := by rw [Fl.double_inf]; omega
 simp only [e1, e2, n1, n2, n3, if_false]
 exact ⟨_, _, rfl⟩
theorem word_lt64 (s : Bool) {r : Nat} (h : r < 9223372036854775808) : Ieee.double.word s r < 18446744073709551616 := by
 unfold Ieee.Format.word; rw [Fl.double_sign]; cases s
 ·show r < _; omega
 ·show 9223372036854775808 + r < _; omega
theorem near_lt64 (s : Bool) (q : Nat) (p : Int) : Ieee.double.nearest s q p < 18446744073709551616 := by
 rw [Fl.nearest_rung]
 have := Fl.rung_le Ieee.double q p
 rw [Fl.double_inf] at this
 exact word_lt64 s (by omega)
theorem nan_lt64 (s : Bool) (t : Nat) : Ieee.double.word s (Ieee.double.infRung + t % Ieee.double.binade) < 18446744073709551616 := by
 have : t % Ieee.double.binade < Ieee.double.binade := Nat.mod_lt _ (by decide)
 rw [Fl.double_binade] at this
 rw [Fl.double_binade, Fl.double_inf]
 exact word_lt64 s (by omega)
def WholeB (mode : Int) (x r : Nat) : Prop := Fl.WholeOK mode x r ∧ r < 18446744073709551616
theorem write_nan (s : Bool) (t : Nat) : ∃ a b, Ieee.double.read (Ieee.double.write (.nan s (Ieee.double.quiet t))) = .nan a b := quiet_nan s t
theorem integral_run (name : String) (way : Ieee.Toward) (hway : way ≠ .even) (x : Nat) (hx : x < 18446744073709551616) (w : World) :
  ∃ r w', (Extern.MathFloor.toIntegral name way #[.float .f64 x]).run Tryz.prog w = .ok (.float .f64 r) w' ∧ WholeB (wayMode way) x r ∧ Below w.heap.size w w' := by
 unfold WholeB Fl.WholeOK
 have h' : Extern.MathFloor.toIntegral name way #[.float .f64 x] = (match Ieee.double.read x with
  | .nan s t =>
   if Ieee.double.quiet t = t then pure (.float .f64 x) else do
   let kept ← choose (.extern "math.Floor,Ceil,Trunc,RoundToEven.signallingNaN kept" 2)
   pure (.float .f64 (if kept == 1 then x else Ieee.double.write (.nan s (Ieee.double.quiet t))))
  | d => pure (.float .f64 (Ieee.double.write (d.integral way)))) := rfl
 rw [h']
 cases hd : Ieee.double.read x with
 | nan s t =>
  show ∃ r w', (ite (Ieee.double.quiet t = t) _ _ : Sem Value).run Tryz.prog w = _ ∧ ((∃ a b, Ieee.double.read r = .nan a b) ∧ r < 18446744073709551616) ∧ _
  by_cases hq : Ieee.double.quiet t = t
  ·rw [if_pos hq]
   exact ⟨x, w, by simp, ⟨⟨s, t, hd⟩, hx⟩, Below.refl _ _⟩
  ·rw [if_neg hq]
   refine ⟨_, w.drew, by simp [Question.forced]; rfl, ?_, (Below.refl _ _).drew⟩
   split
   ·exact ⟨⟨s, t, hd⟩, hx⟩
   ·exact ⟨write_nan s t, nan_lt64 s _⟩
 | infinity s =>
  exact ⟨_, w, by simp; rfl, ⟨rfl, word_lt64 s (by decide)⟩, Below.refl _ _⟩
 | number s m i =>
  refine ⟨_, w, by simp; rfl, ?_, Below.refl _ _⟩
  refine ⟨?_, near_lt64 _ _ _⟩
  show Ieee.double.nearest s (way.cut s (m <<< i.toNat) (-i).toNat) 0 = _
  rw [cut_way way hway, Fl.nearest_rung]
theorem trunc_extern (x : Nat) (w : World) : (callFunc 106 #[.float .f64 x]).run Tryz.prog w = ((Extern.MathFloor.toIntegral "math.archTrunc" .zero #[.float .f64 x]).run Tryz.prog w).andThen (fun v w' => .ok (.value v) w') :=
 run_callFunc_extern (e := Extern.MathFloor.toIntegral "math.archTrunc" .zero) Tryz.func106 (by kernel_rfl) (by kernel_rfl) (by kernel_rfl) (by kernel_rfl) _ w
theorem floor_extern (x : Nat) (w : World) : (callFunc 108 #[.float .f64 x]).run Tryz.prog w = ((Extern.MathFloor.toIntegral "math.archFloor" .down #[.float .f64 x]).run Tryz.prog w).andThen (fun v w' => .ok (.value v) w') :=
 run_callFunc_extern (e := Extern.MathFloor.toIntegral "math.archFloor" .down) Tryz.func108 (by kernel_rfl) (by kernel_rfl) (by kernel_rfl) (by kernel_rfl) _ w
theorem ceil_extern (x : Nat) (w : World) : (callFunc 110 #[.float .f64 x]).run Tryz.prog w = ((Extern.MathFloor.toIntegral "math.archCeil" .up #[.float .f64 x]).run Tryz.prog w).andThen (fun v w' => .ok (.value v) w') :=
 run_callFunc_extern (e := Extern.MathFloor.toIntegral "math.archCeil" .up) Tryz.func110 (by kernel_rfl) (by kernel_rfl) (by kernel_rfl) (by kernel_rfl) _ w
def RetWhole (mode : Int) (x : Nat) (w : World) : Ending → World → Prop := fun e w' => ∃ r : Nat, e = .returned (.float .f64 r) ∧ WholeB mode x r ∧ Below w.heap.size w w'
set_option maxRecDepth 100000 in
theorem Trunc_c (x : Nat) (w : World) (hx : x < 18446744073709551616) : Calls Tryz.prog 82 #[.float .f64 x] w (RetWhole 0 x w) := by
 obtain ⟨r, w2, hr, hok, hb⟩ := integral_run "math.archTrunc" .zero (by decide) x hx w
 have hrun : (callFunc 106 #[.float .f64 x]).run Tryz.prog w = .ok (.value (.float .f64 r)) w2 := by rw [trunc_extern, hr]; rfl
 have H1 := Lib.hid hok
 have H2 := Lib.hid hb
 clear hok hb hr hx
 go_enter Tryz.func82, Tryz.ntmps82
 go_wp2
 go_ret
 exact ⟨r, rfl, H1.out, H2.out⟩
set_option maxRecDepth 100000 in
theorem Floor_c (x : Nat) (w : World) (hx : x < 18446744073709551616) : Calls Tryz.prog 84 #[.float .f64 x] w (RetWhole 2 x w) := by
 obtain ⟨r, w2, hr, hok, hb⟩ := integral_run "math.archFloor" .down (by decide) x hx w
 have hrun : (callFunc 108 #[.float .f64 x]).run Tryz.prog w = .ok (.value (.float .f64 r)) w2 := by rw [floor_extern, hr]; rfl
 have H1 := Lib.hid hok
 have H2 := Lib.hid hb
 clear hok hb hr hx
 go_enter Tryz.func84, Tryz.ntmps84
 go_wp2
 go_ret
 exact ⟨r, rfl, H1.out, H2.out⟩
set_option maxRecDepth 100000 in
theorem Ceil_c (x : Nat) (w : World) (hx : x < 18446744073709551616) : Calls Tryz.prog 85 #[.float .f64 x] w (RetWhole 3 x w) := by
 obtain ⟨r, w2, hr, hok, hb⟩ := integral_run "math.archCeil" .up (by decide) x hx w
 have hrun : (callFunc 110 #[.float .f64 x]).run Tryz.prog w = .ok (.value (.float .f64 r)) w2 := by rw [ceil_extern, hr]; rfl
 have H1 := Lib.hid hok
 have H2 := Lib.hid hb
 clear hok hb hr hx
 go_enter Tryz.func85, Tryz.ntmps85
 go_wp2
 go_ret
 exact ⟨r, rfl, H1.out, H2.out⟩
end Go.Proofs.YtmoimcblmmcffaaGreatDoor.B

namespace Go.Proofs.YtmoimcblmmcffaaGreatDoor.B
open Go.RowKit
set_option linter.unusedSimpArgs false
set_option linter.unusedVariables false
theorem u64w2 {a : Int} (h : 0 ≤ a) (h1 : a < 18446744073709551616) : IntKind.u64.wrap a = a := by
 simp [IntKind.wrap, IntKind.signed, IntKind.bits]; omega
theorem and11 (n : Nat) (h : n < 18446744073709551616) : bits BinOp.and IntKind.u64 ((n : Int) / 4503599627370496) 2047 = ((n / 4503599627370496 % 2048 : Nat) : Int) := by
 rw [show (n : Int) / 4503599627370496 = ((n / 4503599627370496 : Nat) : Int) from by omega]
 rw [u64_and _ _ (by omega) (by omega) (by decide) (by decide)]
 have := Nat.and_two_pow_sub_one_eq_mod (n / 4503599627370496) 11
 show ((n / 4503599627370496 &&& (2 ^ 11 - 1) : Nat) : Int) = _
 rw [this]
set_option maxRecDepth 100000 in
theorem round_low (x : Nat) (e y : Int) (w : World) (hE : bits BinOp.and IntKind.u64 ((x : Int) / 4503599627370496) 2047 = e) (f1 : decide (e < 1023) = true) (f2 : (e == 1022) = false) (hy : bits BinOp.and IntKind.u64 (x : Int) 9223372036854775808 = y) :
  Calls Tryz.prog 83 #[.float .f64 x] w (Ret (.float .f64 y.toNat) w) := by
 have hd := f64from
 have hd2 := f64bits
 go_enter Tryz.func83, Tryz.ntmps83
 go_wp2
 go_ret
 exact ⟨rfl, below_end⟩
set_option maxRecDepth 100000 in
theorem round_one (x : Nat) (e y z : Int) (w : World) (hE : bits BinOp.and IntKind.u64 ((x : Int) / 4503599627370496) 2047 = e) (f1 : decide (e < 1023) = true) (f2 : (e == 1022) = true) (hy : bits BinOp.and IntKind.u64 (x : Int) 9223372036854775808 = y) (hz : bits BinOp.or IntKind.u64 y 4607182418800017408 = z) :
  Calls Tryz.prog 83 #[.float .f64 x] w (Ret (.float .f64 z.toNat) w) := by
 have hd := f64from
 have hd2 := f64bits
 go_enter Tryz.func83, Tryz.ntmps83
 go_wp2
 go_ret
 exact ⟨rfl, below_end⟩
set_option maxRecDepth 100000 in
theorem round_high (x : Nat) (e : Int) (w : World) (hE : bits BinOp.and IntKind.u64 ((x : Int) / 4503599627370496) 2047 = e) (f1 : decide (e < 1023) = false) (f2 : decide (e < 1075) = false) :
  Calls Tryz.prog 83 #[.float .f64 x] w (Ret (.float .f64 x) w) := by
 have hd := f64from
 have hd2 := f64bits
 go_enter Tryz.func83, Tryz.ntmps83
 go_wp2
 go_ret
 exact ⟨rfl, below_end⟩
def midV (x : Nat) (e : Int) : Int := bits BinOp.andNot IntKind.u64 (IntKind.u64.wrap ((x : Int) + 2251799813685248 / 2 ^ min (IntKind.u64.wrap (e - 1023)).toNat 64)) (4503599627370495 / 2 ^ min (IntKind.u64.wrap (e - 1023)).toNat 64)
set_option maxRecDepth 100000 in
theorem round_mid (x : Nat) (e : Int) (w : World) (hE : bits BinOp.and IntKind.u64 ((x : Int) / 4503599627370496) 2047 = e) (f1 : decide (e < 1023) = false) (f2 : decide (e < 1075) = true) :
  Calls Tryz.prog 83 #[.float .f64 x] w (Ret (.float .f64 (midV x e).toNat) w) := by
 have hd := f64from
 have hd2 := f64bits
 go_enter Tryz.func83, Tryz.ntmps83
 go_wp2
 go_ret
 exact ⟨rfl, below_end⟩
theorem clear_low (n d : Nat) (h : n < 18446744073709551616) (hd : d ≤ 64) : n &&& (18446744073709551615 - (2 ^ d - 1)) = n / 2 ^ d * 2 ^ d := by
 have hp : 0 < 2 ^ d := Nat.two_pow_pos _
 have hle : 2 ^ d ≤ 2 ^ 64 := Nat.pow_le_pow_right (by decide) hd
 have e : 18446744073709551615 - (2 ^ d - 1) = 2 ^ 64 - (2 ^ d - 1 + 1) := by omega
 rw [e]
 apply Nat.eq_of_testBit_eq
 intro i
 rw [Nat.testBit_and, Nat.testBit_two_pow_sub_succ (by omega), Nat.testBit_two_pow_sub_one, Nat.testBit_mul_two_pow, Nat.testBit_div_two_pow]
 by_cases c : d ≤ i
 ·have c2 : decide (i < d) = false := decide_eq_false (by omega)
  rw [c2, decide_eq_true c]
  rw [show i - d + d = i from by omega]
  by_cases c3 : i < 64
  ·rw [decide_eq_true c3]; simp
  ·have h64 : 2 ^ 64 ≤ 2 ^ i := Nat.pow_le_pow_right (by decide) (by omega)
   have : n.testBit i = false := Nat.testBit_lt_two_pow (Nat.lt_of_lt_of_le h h64)
   rw [this]; simp
 ·have c2 : decide (i < d) = true := decide_eq_true (by omega)
  rw [c2, decide_eq_false c]; simp
theorem mid_eq {x : Nat} (hx : x < 18446744073709551616) {e : Nat} (he : x / 4503599627370496 % 2048 = e) (h1 : ¬ e < 1023) (h2 : e < 1075) : (midV x (e : Int)).toNat = Fl.rnd64 x := by
 have hx2 : x < 9223372036854775808 + 1075 * 4503599627370496 := by omega
 have hk : IntKind.u64.wrap ((e : Int) - 1023) = (e : Int) - 1023 := u64w2 (by omega) (by omega)
 obtain ⟨d, hd⟩ : ∃ d, 1075 - e = d := ⟨_, rfl⟩
 have hm : min (((e : Int) - 1023).toNat) 64 = 52 - d := by omega
 have hp : 0 < 2 ^ d := Nat.two_pow_pos _
 have hpk : 0 < 2 ^ (52 - d) := Nat.two_pow_pos _
 have hpow : (2 : Int) ^ (52 - d) = ((2 ^ (52 - d) : Nat) : Int) := by rw [Int.natCast_pow]; rfl
 have e1 : (2251799813685248 : Int) / 2 ^ (52 - d) = ((2 ^ (d - 1) : Nat) : Int) := by
  have h51 : 2251799813685248 = 2 ^ (d - 1) * 2 ^ (52 - d) := by rw [← Nat.pow_add, show d - 1 + (52 - d) = 51 from by omega]
  have : 2251799813685248 / 2 ^ (52 - d) = 2 ^ (d - 1) := by
   conv => lhs; rw [h51]
   exact Nat.mul_div_cancel _ hpk
  rw [show (2251799813685248 : Int) = ((2251799813685248 : Nat) : Int) from rfl, hpow, ← Int.natCast_ediv, this]
 have e2 : (4503599627370495 : Int) / 2 ^ (52 - d) = ((2 ^ d - 1 : Nat) : Int) := by
  have h52 : 4503599627370496 = 2 ^ d * 2 ^ (52 - d) := by rw [← Nat.pow_add, show d + (52 - d) = 52 from by omega]
  have : 4503599627370495 / 2 ^ (52 - d) = 2 ^ d - 1 := by
   have h3 : 4503599627370495 = (2 ^ (52 - d) - 1) + (2 ^ d - 1) * 2 ^ (52 - d) := by
    rw [Nat.sub_mul, Nat.one_mul, ← h52]
    have : 2 ^ (52 - d) ≤ 4503599627370496 := by rw [h52]; exact Nat.le_mul_of_pos_left _ hp
    omega
   rw [h3, Nat.add_mul_div_right _ _ hpk, Nat.div_eq_of_lt (by omega), Nat.zero_add]
  rw [show (4503599627370495 : Int) = ((4503599627370495 : Nat) : Int) from rfl, hpow, ← Int.natCast_ediv, this]
 have hd52 : d ≤ 52 := by omega
 have hb : 2 ^ (d - 1) ≤ 2251799813685248 := by
  have : 2 ^ (d - 1) ≤ 2 ^ 51 := Nat.pow_le_pow_right (by decide) (by omega)
  exact this
 have hb2 : 2 ^ d ≤ 4503599627370496 := by
  have : 2 ^ d ≤ 2 ^ 52 := Nat.pow_le_pow_right (by decide) (by omega)
  exact this
 unfold midV
 rw [hk, hm, e1, e2]
 unfold Fl.rnd64
 rw [he, if_neg h1, if_pos h2, hd]
 have hcl : x + 2 ^ (d - 1) < 18446744073709551616 → (x + 2 ^ (d - 1)) &&& (18446744073709551615 - (2 ^ d - 1)) = (x + 2 ^ (d - 1)) / 2 ^ d * 2 ^ d := fun h => clear_low (x + 2 ^ (d - 1)) d h (by omega)
 clear e1 e2 hpow
 generalize 2 ^ (d - 1) = A at *
 generalize 2 ^ d = B at *
 have hw : IntKind.u64.wrap ((x : Int) + (A : Int)) = ((x + A : Nat) : Int) := by
  rw [u64w2 (by omega) (by omega)]; omega
 rw [hw, u64_andNot _ _ (by omega) (by omega) (by omega) (by omega)]
 exact hcl (by omega)
theorem rnd64_lt {x : Nat} (hx : x < 18446744073709551616) : Fl.rnd64 x < 18446744073709551616 := by
 unfold Fl.rnd64
 split
 ·split <;> split <;> decide
 ·split
  ·rename_i h1 h2
   have hp : 2 ^ (1075 - x / 4503599627370496 % 2048 - 1) ≤ 2 ^ 51 := Nat.pow_le_pow_right (by decide) (by omega)
   have e : 2 ^ 51 = 2251799813685248 := rfl
   have := Nat.div_mul_le_self (x + 2 ^ (1075 - x / 4503599627370496 % 2048 - 1)) (2 ^ (1075 - x / 4503599627370496 % 2048))
   omega
  ·exact hx
theorem Round_c (x : Nat) (w : World) (hx : x < 18446744073709551616) : Calls Tryz.prog 83 #[.float .f64 x] w (RetWhole 1 x w) := by
 have hok : WholeB 1 x (Fl.rnd64 x) := ⟨Fl.round_ok hx, rnd64_lt hx⟩
 refine Calls.mono (R := Ret (.float .f64 (Fl.rnd64 x)) w) ?_ (by rintro e w' ⟨rfl, hb⟩; exact ⟨_, rfl, hok, hb⟩)
 have hE := and11 x hx
 obtain ⟨e, he⟩ : ∃ e, x / 4503599627370496 % 2048 = e := ⟨_, rfl⟩
 rw [he] at hE
 have hy : bits BinOp.and IntKind.u64 (x : Int) 9223372036854775808 = (if x < 9223372036854775808 then 0 else 9223372036854775808 : Nat) := by
  have := and_sign false (x : Int) (by omega) (by show (x : Int) < 18446744073709551616; omega)
  show bits BinOp.and IntKind.u64 (x : Int) (signV false) = _
  rw [this]
  show (if (x : Int) < 9223372036854775808 then (0 : Int) else 9223372036854775808) = _
  by_cases c : x < 9223372036854775808
  ·rw [if_pos c, if_pos (by omega)]; rfl
  ·rw [if_neg c, if_neg (by omega)]; rfl
 by_cases c1 : e < 1023
 ·by_cases c2 : e = 1022
  ·have hz : bits BinOp.or IntKind.u64 ((if x < 9223372036854775808 then 0 else 9223372036854775808 : Nat) : Int) 4607182418800017408 = ((if x < 9223372036854775808 then 0 else 9223372036854775808 : Nat) + 4607182418800017408 : Nat) := by
    split <;> rfl
   have := round_one x e _ _ w hE (decide_eq_true (by omega)) (by simp [c2]) hy hz
   have hr : Fl.rnd64 x = ((((if x < 9223372036854775808 then 0 else 9223372036854775808 : Nat) + 4607182418800017408 : Nat) : Int)).toNat := by
    unfold Fl.rnd64; rw [he, if_pos c1, if_pos c2]; rfl
   rw [hr]; exact this
  ·have := round_low x e _ w hE (decide_eq_true (by omega)) (by simp; omega) hy
   have hr : Fl.rnd64 x = (((if x < 9223372036854775808 then 0 else 9223372036854775808 : Nat) : Int)).toNat := by
    unfold Fl.rnd64; rw [he, if_pos c1, if_neg c2]; rfl
   rw [hr]; exact this
 ·by_cases c2 : e < 1075
  ·have := round_mid x e w hE (decide_eq_false (by omega)) (decide_eq_true (by omega))
   rw [mid_eq hx he c1 c2] at this
   exact this
  ·have := round_high x e w hE (decide_eq_false (by omega)) (decide_eq_false (by omega))
   have hr : Fl.rnd64 x = x := by unfold Fl.rnd64; rw [he, if_neg c1, if_neg c2]
   rw [hr]; exact this
end Go.Proofs.YtmoimcblmmcffaaGreatDoor.B

namespace Go.Proofs.YtmoimcblmmcffaaGreatDoor.B
open Go.RowKit
set_option linter.unusedSimpArgs false
set_option linter.unusedVariables false
theorem whole_c (mode : Int) (x : Nat) (w : World) (hx : x < 18446744073709551616) (h0 : 0 ≤ mode) (h3 : mode ≤ 3) : Calls Tryz.prog 47 #[.int .i64 mode, .float .f64 x] w (RetWhole mode x w) := by
 have c0 := fun w => Trunc_c x w hx
 have c1 := fun w => Round_c x w hx
 have c2 := fun w => Floor_c x w hx
 have c3 := fun w => Ceil_c x w hx
 clear hx
 have hm : mode = 0 ∨ mode = 1 ∨ mode = 2 ∨ mode = 3 := by omega
 clear h0 h3
 rcases hm with rfl | rfl | rfl | rfl
 ·clear c1 c2 c3
  go_enter Tryz.func47, Tryz.ntmps47
  go_wp2_with (go_at_call 82; (with_reducible refine (c0 _).mono ?_); rintro e w1 ⟨r, rfl, hok, hb1⟩; have H1 := Lib.hid hok; clear hok)
  go_ret
  exact ⟨r, rfl, H1.out, hb1⟩
 ·clear c0 c2 c3
  go_enter Tryz.func47, Tryz.ntmps47
  go_wp2_with (go_at_call 83; (with_reducible refine (c1 _).mono ?_); rintro e w1 ⟨r, rfl, hok, hb1⟩; have H1 := Lib.hid hok; clear hok)
  go_ret
  exact ⟨r, rfl, H1.out, hb1⟩
 ·clear c0 c1 c3
  go_enter Tryz.func47, Tryz.ntmps47
  go_wp2_with (go_at_call 84; (with_reducible refine (c2 _).mono ?_); rintro e w1 ⟨r, rfl, hok, hb1⟩; have H1 := Lib.hid hok; clear hok)
  go_ret
  exact ⟨r, rfl, H1.out, hb1⟩
 ·clear c0 c1 c2
  go_enter Tryz.func47, Tryz.ntmps47
  go_wp2_with (go_at_call 85; (with_reducible refine (c3 _).mono ?_); rintro e w1 ⟨r, rfl, hok, hb1⟩; have H1 := Lib.hid hok; clear hok)
  go_ret
  exact ⟨r, rfl, H1.out, hb1⟩
def copyN (r x : Nat) : Nat := (bits BinOp.or IntKind.u64 (bits BinOp.andNot IntKind.u64 (r : Int) 9223372036854775808) (bits BinOp.and IntKind.u64 (x : Int) 9223372036854775808)).toNat
set_option maxRecDepth 100000 in
theorem Copysign_c (r x : Nat) (w : World) : Calls Tryz.prog 50 #[.float .f64 r, .float .f64 x] w (Ret (.float .f64 (copyN r x)) w) := by
 have hd := f64from
 have hd2 := f64bits
 go_enter Tryz.func50, Tryz.ntmps50
 go_wp2
 go_ret
 exact ⟨rfl, below_end⟩
theorem copy_eq {r x : Nat} (hr : r < 18446744073709551616) (hx : x < 18446744073709551616) : copyN r x = r % 9223372036854775808 + (if x < 9223372036854775808 then 0 else 9223372036854775808) := by
 unfold copyN
 have h1 := andNot_sign false (r : Int) (by omega) (by show (r : Int) < 18446744073709551616; omega)
 have h2 := and_sign false (x : Int) (by omega) (by show (x : Int) < 18446744073709551616; omega)
 have e : signV false = 9223372036854775808 := rfl
 rw [e] at h1 h2
 rw [h1, h2]
 have h3 := or_sign false ((r : Int) % 9223372036854775808) (if (x : Int) < 9223372036854775808 then 0 else 9223372036854775808) (by omega) (by rw [e]; omega) (by rw [e]; split <;> simp)
 rw [h3]
 by_cases c : x < 9223372036854775808
 ·rw [if_pos c, if_pos (by omega)]; omega
 ·rw [if_neg c, if_neg (by omega)]; omega
theorem copy_word (s : Bool) {k : Nat} (hk : k < 9223372036854775808) {x : Nat} (hx : x < 18446744073709551616) (h : s = true ↔ 9223372036854775808 ≤ x) : copyN (Ieee.double.word s k) x = Ieee.double.word s k := by
 rw [copy_eq (word_lt64 s hk) hx]
 unfold Ieee.Format.word
 rw [Fl.double_sign]
 cases s
 ·simp only [Bool.false_eq_true, if_false]
  rw [if_pos (by simp at h; omega), Nat.mod_eq_of_lt hk]; rfl
 ·simp only [if_true]
  rw [if_neg (by simp at h; omega)]; omega
theorem read_neg {x : Nat} (hx : x < 18446744073709551616) : (Ieee.double.read x).neg = true ↔ 9223372036854775808 ≤ x := by
 have e : ((x / 9223372036854775808 % 2 == 1) = true) ↔ 9223372036854775808 ≤ x := by
  rw [beq_iff_eq]; omega
 unfold Ieee.Format.read
 rw [Fl.double_sign]
 dsimp only
 split
 ·exact e
 ·split
  ·exact e
  ·split
   ·exact e
   ·exact e
theorem nan_copy {r x : Nat} (hr : r < 18446744073709551616) (hx : x < 18446744073709551616) {s : Bool} {t : Nat} (h : Ieee.double.read r = .nan s t) : ∃ a b, Ieee.double.read (copyN r x) = .nan a b := by
 rw [copy_eq hr hx]
 have hm : (r % 9223372036854775808 + (if x < 9223372036854775808 then 0 else 9223372036854775808)) % 9223372036854775808 = r % 9223372036854775808 := by
  split <;> omega
 unfold Ieee.Format.read at h ⊢
 rw [Fl.double_sign] at h ⊢
 simp only at h ⊢
 rw [hm]
 by_cases c1 : r % 9223372036854775808 < Ieee.double.binade
 ·rw [if_pos c1] at h; cases h
 ·rw [if_neg c1] at h ⊢
  by_cases c2 : r % 9223372036854775808 < Ieee.double.infRung
  ·rw [if_pos c2] at h; cases h
  ·rw [if_neg c2] at h ⊢
   by_cases c3 : r % 9223372036854775808 = Ieee.double.infRung
   ·rw [if_pos c3] at h; cases h
   ·rw [if_neg c3]; exact ⟨_, _, rfl⟩
theorem copy_ok {mode : Int} {x r : Nat} (hx : x < 18446744073709551616) (h : WholeB mode x r) : WholeB mode x (copyN r x) := by
 have hn := read_neg hx
 obtain ⟨hok, hr⟩ := h
 unfold WholeB
 unfold Fl.WholeOK at hok ⊢
 cases hd : Ieee.double.read x with
 | nan s t =>
  rw [hd] at hok
  obtain ⟨a, b, hab⟩ := hok
  refine ⟨nan_copy hr hx hab, ?_⟩
  rw [copy_eq hr hx]; split <;> omega
 | infinity s =>
  rw [hd] at hok hn
  have hok' : r = Ieee.double.word s Ieee.double.infRung := hok
  subst hok'
  rw [copy_word s (by decide) hx hn]
  exact ⟨rfl, hr⟩
 | number s m i =>
  rw [hd] at hok hn
  have hok' : r = Ieee.double.word s (Fl.rung Ieee.double (Fl.wholeN mode s m i) 0) := hok
  subst hok'
  have hle := Fl.rung_le Ieee.double (Fl.wholeN mode s m i) 0
  rw [Fl.double_inf] at hle
  rw [copy_word s (by omega) hx hn]
  exact ⟨rfl, hr⟩
theorem wide_nan_lt (n t : Nat) : (Question.nanConv .f64 n).cut t < 18446744073709551616 := by
 have h : ((Question.nanConv .f64 n).cut t) = (t % 2) * 2 ^ 63 + 0x7ff0000000000000 + 1 + (t / 2) % (2 ^ 52 - 1) := rfl
 rw [h]
 have : (t / 2) % (2 ^ 52 - 1) < 2 ^ 52 - 1 := Nat.mod_lt _ (by decide)
 have : t % 2 < 2 := Nat.mod_lt _ (by decide)
 omega
set_option maxRecDepth 100000 in

theorem run_widen2 (n : Nat) : ∃ x : World → Nat, ∃ w2 : World → World, (∀ w, (convert 84 57 (.float .f32 n)).run Tryz.prog w = .ok (.float .f64 (x w)) (w2 w)) ∧ (∀ w, WideOK true n (x w) ∧ x w < 18446744073709551616) ∧ ∀ w, Below w.heap.size w (w2 w) := by
 have hs : (Tryz.prog.underlying 84).isSome = true := by rw [Tryz.underlying84]; rfl
 obtain ⟨x, w2, h1, h2, h3⟩ := run_widen n
 refine ⟨x, w2, h1, fun w => ⟨h2 w, ?_⟩, h3⟩
 have key : ∀ y w', (convert 84 57 (.float .f32 n)).run Tryz.prog w = .ok (.float .f64 y) w' → y = x w := fun y w' h => by
  rw [h1 w] at h; injection h with h4 h5; injection h4 with _ h6; exact h6.symm
 cases hr : Ieee.single.read n with
 | number neg m p =>
  have hb := Fl.single_number hr
  have hd := Fl.double_of_small neg m p hb.1 hb.2.1 hb.2.2
  have hrun : (convert 84 57 (.float .f32 n)).run Tryz.prog w = .ok (.float .f64 (Ieee.double.nearest neg m p)) w := run_convert_float_float w _ _ .f32 .f64 n _ hs Tryz.underlying57 (by
   unfold floatToFloatBits
   rw [if_neg (by decide)]
   have h' : FloatKind.f32.decode n = .number neg m p := hr
   rw [h']
   have h2 : (FloatKind.f64.decode (FloatKind.f64.encode (.number neg m p))).isInfinity = false := hd.2
   simp only [h2]
   rfl)
  rw [← key _ _ hrun]; exact near_lt64 _ _ _
 | infinity neg =>
  have hrun : (convert 84 57 (.float .f32 n)).run Tryz.prog w = .ok (.float .f64 (Ieee.double.word neg Ieee.double.infRung)) w := run_convert_float_float w _ _ .f32 .f64 n _ hs Tryz.underlying57 (by
   unfold floatToFloatBits
   rw [if_neg (by decide)]
   have h' : FloatKind.f32.decode n = .infinity neg := hr
   rw [h']
   rfl)
  rw [← key _ _ hrun]; exact word_lt64 _ (by decide)
 | nan neg t =>
  have hrun := run_convert_nan (P := Tryz.prog) (src := 84) (dst := 57) hs Tryz.underlying57 hr w
  rw [← key _ _ hrun]; exact wide_nan_lt _ _
end Go.Proofs.YtmoimcblmmcffaaGreatDoor.B

namespace Go.Proofs.YtmoimcblmmcffaaGreatDoor.PN
open Go.RowKit Go.Proofs.YtmoimcblmmcffaaGreatDoorW.PrintWords Go.Proofs.YtmoimcblmmcffaaGreatDoorW.PrintLast Go.Proofs.YtmoimcblmmcffaaGreatDoorW.PrintMore
attribute [local go_sem] max2_int min2_int max_two min_two max_three min_three max_four min_four   -- for this text's walks alone
set_option linter.unusedVariables false
set_option linter.unusedSimpArgs false
def errW : Option Int → Value
 | none => .nilIface
 | some c => .iface 0 (.int .i64 c)
theorem errW_none : errW none = .nilIface := rfl
theorem errW_some (c : Int) : errW (some c) = .iface 0 (.int .i64 c) := rfl
theorem info3 : (Tryz.prog.info? 3).map (fun i => (i.zero, i.size, i.bytes)) = some (some (.int .i64 0), 1, 8) := by kernel_rfl
end Go.Proofs.YtmoimcblmmcffaaGreatDoor.PN

namespace Go.Proofs.YtmoimcblmmcffaaGreatDoor.PN
open Go.RowKit Go.Proofs.YtmoimcblmmcffaaGreatDoorW.PrintWords Go.Proofs.YtmoimcblmmcffaaGreatDoorW.PrintLast Go.Proofs.YtmoimcblmmcffaaGreatDoorW.PrintMore Go.Proofs.YtmoimcblmmcffaaGreatDoorW.PrintZ
attribute [local go_sem] max2_int min2_int max_two min_two max_three min_three max_four min_four   -- for this text's walks alone
set_option linter.unusedVariables false
set_option linter.unusedSimpArgs false
def bs_Power.l0 : Nat → Int → Int → Int → Option (Int)
 | 0, _, _, _ => none
 | k + 1, x3, x4, x5 => if x5 < x4 then (bs_Power.l0 k (wrap64 (x3 + x3)) x4 (wrap64 (x5 + 1))) else (some x3)
def bs_Power.f (k : Nat) (a0 : Int) : Option (Int) := bs_Power.l0 k 1 a0 0
set_option maxHeartbeats 8000000 in
set_option maxRecDepth 100000 in
theorem bs_Power.calls (k : Nat) (a0 : Int) (r : Int) (w : World) (h : bs_Power.f k a0 = some r) :
  Calls Tryz.prog 72 #[.int .i64 a0] w fun e w' => e = .returned (.int .i64 r) ∧ Drawn0 w w' := by
 have H : (bs_Power.l0 k 1 a0 0) = some r := h
 clear h
 have H' := Zs.mk H
 clear H
 go_enter Tryz.func72, Tryz.ntmps72
 go_wp2
 go_loopg [3, 5] k (fun kq v3 v5 w' => ∃ (x3_1 : Int) (x5_1 : Int), v3 = .int .i64 x3_1 ∧ v5 = .int .i64 x5_1 ∧ Zs (bs_Power.l0 kq x3_1 a0 x5_1 = some r) ∧ Zs (kq ≤ k) ∧ Drawn0 w w')
 case atStart => exact ⟨(1), (0), (by first | rfl | (simp; done) | (simp [*]; done)), (by first | rfl | (simp; done) | (simp [*]; done)), H', ⟨Nat.le_refl _⟩, by repeat (first | exact Drawn0.refl _ | apply Drawn0.step)⟩
 case round =>
  clear H'
  obtain ⟨x3_1, x5_1, rfl, rfl, HA, HK1, ⟨m1, rfl⟩⟩ := hrel
  cases gk with
  | zero => exact absurd HA.out (by simp [bs_Power.l0])
  | succ k1 =>
   have H := HA.out
   clear HA
   simp only [bs_Power.l0] at H
   by_cases c2 : x5_1 < a0
   ·rw [if_pos c2] at H
    have c2b0 : decide (x5_1 < a0) = true := decide_eq_true c2
    clear c2
    have H' := Zs.mk H
    clear H
    go_wp2
    go_roundg k1
    case measure => have := HK1.out; omega
    case rel => exact ⟨(wrap64 (x3_1 + x3_1)), (wrap64 (x5_1 + 1)), (by first | rfl | (simp; done) | (simp [*]; done)), (by first | rfl | (simp; done) | (simp [*]; done)), H', ⟨by have := HK1.out; omega⟩, by repeat (first | exact Drawn0.refl _ | apply Drawn0.step)⟩
   ·rw [if_neg c2] at H
    have c2b0 : decide (x5_1 < a0) = false := decide_eq_false c2
    clear c2
    obtain rfl := Option.some.inj H
    go_wp2
    go_ret
    exact ⟨by first | rfl | (simp; done) | (simp [*]; done), by repeat (first | exact Drawn0.refl _ | apply Drawn0.step)⟩
def r8_trim.l0 : Nat → List Int → Int → Option (List Int)
 | 0, _, _ => none
 | k + 1, x0, x3 => if x3 > 0 then (if 0 ≤ (wrap64 (x3 - 1)) then (if (wrap64 (x3 - 1)) < (x0.length : Int) then (if (rd x0 (wrap64 (x3 - 1))) = 0 then (r8_trim.l0 k x0 (wrap64 (x3 - 1))) else (if 0 ≤ x3 then (if x3 ≤ (x0.length : Int) then (some (x0.take (x3 : Int).toNat)) else (none)) else (none))) else (none)) else (none)) else (if 0 ≤ x3 then (if x3 ≤ (x0.length : Int) then (some (x0.take (x3 : Int).toNat)) else (none)) else (none))
def r8_trim.f (k : Nat) (l0 : List Int) : Option (List Int) := r8_trim.l0 k l0 (l0.length : Int)
set_option maxHeartbeats 8000000 in
set_option maxRecDepth 100000 in
theorem r8_trim.calls (k : Nat) (P0_ : Nat → Prop) (u9000_ : Value) (l0 : List Int) (r : List Int) (w0 w : World) (hB : Below w0.heap.size w0 w) (ho0 : Kd.R (Kd.int .i64) 3 w w0.heap.size P0_ u9000_ l0) (h : r8_trim.f k l0 = some r) :
  Calls Tryz.prog 104 #[u9000_] w fun e w' => ∃ v0_ : Value, e = .returned (v0_) ∧ Kd.R (Kd.int .i64) 3 w' w0.heap.size (fun k_ => (P0_ k_ ∨ w.heap.size ≤ k_)) v0_ r ∧ Below w0.heap.size w0 w' ∧ Kept w w' (fun k_ => P0_ k_) := by
 have HO0 := Zs.mk (show Kd.R (Kd.int .i64) 3 w w0.heap.size (fun k_ => (P0_ k_ ∨ w.heap.size ≤ k_)) u9000_ l0 from Kd.R_mono ho0 (fun k_ hk => (.inl hk)))
 have HK := Zs.mk (Kept.refl w (fun k_ => P0_ k_))
 have HW0 := Zs.mk hB.size
 have HB := Zs.mk hB
 clear hB
 have H : (r8_trim.l0 k l0 (l0.length : Int)) = some r := h
 clear h
 have H' := Zs.mk H
 clear H
 obtain ⟨Ao2, co2, eo2⟩ := Kd.R_slice HO0.out
 subst eo2
 go_enter Tryz.func104, Tryz.ntmps104
 go_wp2
 go_loopg [3] k (fun kq v3 w' => ∃ (x3_1 : Int), v3 = .int .i64 x3_1 ∧ Zs (r8_trim.l0 kq l0 x3_1 = some r) ∧ Zs (kq ≤ k) ∧ Zs (Kd.R (Kd.int .i64) 3 w' w0.heap.size (fun k_ => (P0_ k_ ∨ w.heap.size ≤ k_)) (.slice Ao2 l0.length co2) l0) ∧ Zs (Kept w w' (fun k_ => P0_ k_)) ∧ Zs (Below w0.heap.size w0 w'))
 case atStart => exact ⟨((l0.length : Int)), (by first | rfl | (simp; done) | (simp [*]; done)), H', ⟨Nat.le_refl _⟩, ⟨by (with_reducible repeat (first | apply Kd.R_alloc | apply Kd.R_drewN | apply Kd.R_drew)); exact HO0.out⟩, ⟨by repeat (first | (with_reducible first | exact HK.out | apply Kept.alloc | apply Kept.drewN | apply Kept.drew) | exact HK.out)⟩, blt HB⟩
 case round =>
  clear H'
  try clear c1
  try clear p2
  obtain ⟨x3_1, rfl, HA, HK1, HO_0, HK, HB⟩ := hrel
  cases gk with
  | zero => exact absurd HA.out (by simp [r8_trim.l0])
  | succ k1 =>
   have H := HA.out
   clear HA
   simp only [r8_trim.l0] at H
   by_cases c3 : x3_1 > 0
   ·rw [if_pos c3] at H
    have c3b0 : decide (0 < x3_1) = true := decide_eq_true c3
    clear c3
    obtain ⟨ji4, hji4⟩ : ∃ j_ : Int, (wrap64 (x3_1 - 1)) = j_ := ⟨_, rfl⟩
    replace H : (if 0 ≤ (ji4) then (if (ji4) < (l0.length : Int) then (if (rd l0 (ji4)) = 0 then (r8_trim.l0 k1 l0 ji4) else (if 0 ≤ x3_1 then (if x3_1 ≤ (l0.length : Int) then (some (l0.take (x3_1 : Int).toNat)) else (none)) else (none))) else (none)) else (none)) = some r := by first | (rw [hji4] at H; exact H) | (simp only [hji4] at H ⊢; exact H)
    have hji4w : (IntKind.i64.wrap (x3_1 - 1)) = ji4 := (i64_w _).trans hji4
    by_cases c5 : 0 ≤ (ji4)
    ·rw [if_pos c5] at H
     have c5b0 : decide (0 ≤ (ji4)) = true := decide_eq_true c5
     clear c5
     by_cases c6 : (ji4) < (l0.length : Int)
     ·rw [if_pos c6] at H
      have c6b0 : decide ((ji4) < (l0.length : Int)) = true := decide_eq_true c6
      clear c6
      by_cases c7 : (rd l0 (ji4)) = 0
      ·rw [if_pos c7] at H
       have c7b0 : ((rd l0 (ji4)) == 0) = true := beq_iff_eq.mpr c7
       have c7b1 : ((rd l0 (ji4)) != 0) = false := bne_eq_false_iff_eq.mpr c7
       clear c7
       have H' := Zs.mk H
       clear H
       have p101 : 0 ≤ ((ji4) : Int) := of_decide_eq_true (by first | (with_reducible assumption) | assumption)
       have q101 : (ji4) < (l0.length : Int) := of_decide_eq_true (by first | (with_reducible assumption) | assumption)
       obtain ⟨ad101, e101, hx101_0⟩ := Kd.at_int (Kd.R_reads' HO_0.out).2.2 (ji4) p101 q101
       cases e101
       replace p101 := eq_true p101
       replace q101 := eq_true q101
       go_wp2
       go_roundg k1
       case measure => have := HK1.out; omega
       case rel => exact ⟨(ji4), (by first | rfl | (simp; done) | (simp only [← hji4] <;> (first | rfl | simp)) | (simp [*]; done)), H', ⟨by have := HK1.out; omega⟩, ⟨by (with_reducible repeat (first | apply Kd.R_alloc | apply Kd.R_drewN | apply Kd.R_drew)); exact HO_0.out⟩, ⟨by repeat (first | (with_reducible first | exact HK.out | apply Kept.alloc | apply Kept.drewN | apply Kept.drew) | exact HK.out)⟩, blt HB⟩
      ·rw [if_neg c7] at H
       have c7b0 : ((rd l0 (ji4)) == 0) = false := beq_eq_false_iff_ne.mpr c7
       have c7b1 : ((rd l0 (ji4)) != 0) = true := bne_iff_ne.mpr c7
       by_cases c8 : 0 ≤ x3_1
       ·rw [if_pos c8] at H
        have c8b0 := eq_true c8
        have c8b1 : decide (0 ≤ x3_1) = true := decide_eq_true c8
        clear c8
        by_cases c9 : x3_1 ≤ (l0.length : Int)
        ·rw [if_pos c9] at H
         have c9b0 := eq_true c9
         have c9b1 : decide (x3_1 ≤ (l0.length : Int)) = true := decide_eq_true c9
         clear c9
         obtain ⟨y102, hy102⟩ : ∃ y_ : List Int, y_ = (l0.take (x3_1 : Int).toNat) := ⟨_, rfl⟩
         replace H : (some y102) = some r := by first | (rw [hy102]; with_reducible exact H) | (have H2_ := (Option.bind_some _ _).symm.trans H; rw [hy102]; with_reducible exact H2_) | (have H2_ := (Option.bind_some _ _).symm.trans H; with_reducible exact H2_) | with_reducible exact H | (rw [hy102]; exact H) | exact H
         have Ny102 := Zs.mk hy102
         clear hy102
         obtain rfl := Option.some.inj H
         have p101 : 0 ≤ ((ji4) : Int) := of_decide_eq_true (by first | (with_reducible assumption) | assumption)
         have q101 : (ji4) < (l0.length : Int) := of_decide_eq_true (by first | (with_reducible assumption) | assumption)
         obtain ⟨ad101, e101, hx101_0⟩ := Kd.at_int (Kd.R_reads' HO_0.out).2.2 (ji4) p101 q101
         cases e101
         replace p101 := eq_true p101
         replace q101 := eq_true q101
         have q10 : (x3_1 : Int) ≤ ((l0.length : Int) : Int) := of_decide_eq_true (by first | (with_reducible assumption) | assumption)
         obtain ⟨i010, hi010, _, hsz10, _⟩ := info_parts info3
         have hcut10 := cut_to (P := Tryz.prog) 69 3 .i64 Tryz.underlying69 hi010 (some ad101) l0.length co2 x3_1 (of_decide_eq_true (by first | (with_reducible assumption) | assumption)) q10 (Kd.R_reads' HO_0.out).2.1
         have hr10 := Kd.R_take (m := (x3_1 : Int).toNat) HO_0.out (by omega)
         have hy10 : y102.length = (x3_1 : Int).toNat := (by rw [Ny102.out, List.length_take]; omega)
         rw [← Ny102.out] at hr10
         rw [← hy10] at hr10 hcut10
         clear hy10 hi010 hsz10 HO_0
         have HO104 := Zs.mk hr10
         clear hr10
         replace q10 := eq_true q10
         go_wp2
         go_ret
         exact ⟨_, by first | rfl | (simp [errW_none, errW_some] <;> rfl) | (simp only [← hji4]; first | rfl | (simp [errW_none, errW_some] <;> rfl)) | (simp [*, errW_none, errW_some] <;> rfl), by (with_reducible repeat (first | apply Kd.R_alloc | apply Kd.R_drewN | apply Kd.R_drew)); exact HO104.out, by repeat (first | (with_reducible first | exact HB.out | apply below_alloc | apply pw_below_drewN | apply below_drew1) | exact HB.out), by repeat (first | (with_reducible first | exact HK.out | apply Kept.alloc | apply Kept.drewN | apply Kept.drew) | exact HK.out)⟩
        ·rw [if_neg c9] at H
         exact absurd H (by simp)
       ·rw [if_neg c8] at H
        exact absurd H (by simp)
     ·rw [if_neg c6] at H
      exact absurd H (by simp)
    ·rw [if_neg c5] at H
     exact absurd H (by simp)
   ·rw [if_neg c3] at H
    have c3b0 : decide (0 < x3_1) = false := decide_eq_false c3
    clear c3
    by_cases c11 : 0 ≤ x3_1
    ·rw [if_pos c11] at H
     have c11b0 := eq_true c11
     have c11b1 : decide (0 ≤ x3_1) = true := decide_eq_true c11
     clear c11
     by_cases c12 : x3_1 ≤ (l0.length : Int)
     ·rw [if_pos c12] at H
      have c12b0 := eq_true c12
      have c12b1 : decide (x3_1 ≤ (l0.length : Int)) = true := decide_eq_true c12
      clear c12
      obtain ⟨y105, hy105⟩ : ∃ y_ : List Int, y_ = (l0.take (x3_1 : Int).toNat) := ⟨_, rfl⟩
      replace H : (some y105) = some r := by first | (rw [hy105]; with_reducible exact H) | (have H2_ := (Option.bind_some _ _).symm.trans H; rw [hy105]; with_reducible exact H2_) | (have H2_ := (Option.bind_some _ _).symm.trans H; with_reducible exact H2_) | with_reducible exact H | (rw [hy105]; exact H) | exact H
      have Ny105 := Zs.mk hy105
      clear hy105
      obtain rfl := Option.some.inj H
      have q13 : (x3_1 : Int) ≤ ((l0.length : Int) : Int) := of_decide_eq_true (by first | (with_reducible assumption) | assumption)
      obtain ⟨i013, hi013, _, hsz13, _⟩ := info_parts info3
      have hcut13 := cut_to (P := Tryz.prog) 69 3 .i64 Tryz.underlying69 hi013 Ao2 l0.length co2 x3_1 (of_decide_eq_true (by first | (with_reducible assumption) | assumption)) q13 (Kd.R_reads' HO_0.out).2.1
      have hr13 := Kd.R_take (m := (x3_1 : Int).toNat) HO_0.out (by omega)
      have hy13 : y105.length = (x3_1 : Int).toNat := (by rw [Ny105.out, List.length_take]; omega)
      rw [← Ny105.out] at hr13
      rw [← hy13] at hr13 hcut13
      clear hy13 hi013 hsz13 HO_0
      have HO107 := Zs.mk hr13
      clear hr13
      replace q13 := eq_true q13
      go_wp2
      go_ret
      exact ⟨_, by first | rfl | (simp [errW_none, errW_some] <;> rfl) | (simp [*, errW_none, errW_some] <;> rfl), by (with_reducible repeat (first | apply Kd.R_alloc | apply Kd.R_drewN | apply Kd.R_drew)); exact HO107.out, by repeat (first | (with_reducible first | exact HB.out | apply below_alloc | apply pw_below_drewN | apply below_drew1) | exact HB.out), by repeat (first | (with_reducible first | exact HK.out | apply Kept.alloc | apply Kept.drewN | apply Kept.drew) | exact HK.out)⟩
     ·rw [if_neg c12] at H
      exact absurd H (by simp)
    ·rw [if_neg c11] at H
     exact absurd H (by simp)
end Go.Proofs.YtmoimcblmmcffaaGreatDoor.PN

namespace Go.Proofs.YtmoimcblmmcffaaGreatDoor.PN
open Go.RowKit Go.Proofs.YtmoimcblmmcffaaGreatDoorW.PrintWords Go.Proofs.YtmoimcblmmcffaaGreatDoorW.PrintLast Go.Proofs.YtmoimcblmmcffaaGreatDoorW.PrintMore Go.Proofs.YtmoimcblmmcffaaGreatDoorW.PrintZ
attribute [local go_sem] max2_int min2_int max_two min_two max_three min_three max_four min_four   -- for this text's walks alone
set_option linter.unusedVariables false
set_option linter.unusedSimpArgs false


mutual
def r8_Right.l0 : Nat → List Int → Int → Int → Bool → Int → Option (List Int × Bool)
 | 0, _, _, _, _, _ => none
 | k + 1, x0, x1, x6, x7, x8 => if x8 < x6 then (if x7 = true then (r8_Right.l0 k x0 x1 x6 true (wrap64 (x8 + 1))) else (if 0 ≤ x8 then (if x8 < (x0.length : Int) then (r8_Right.l0 k x0 x1 x6 ((rd x0 x8) != 0) (wrap64 (x8 + 1))) else (none)) else (none))) else (if 0 ≤ (wrap64 ((x0.length : Int) - x6)) then (if (wrap64 ((x0.length : Int) - x6) : Int).toNat ≤ 35184372088832 then ((bs_Power.f k (Int.tmod x1 16)).bind fun t112 => (r8_Right.l1 k x0 x6 x7 (List.replicate (wrap64 ((x0.length : Int) - x6) : Int).toNat 0) 0 t112 (wrap64 ((x0.length : Int) - 1)))) else (none)) else (none))
def r8_Right.l1 : Nat → List Int → Int → Bool → List Int → Int → Int → Int → Option (List Int × Bool)
 | 0, _, _, _, _, _, _, _ => none
 | k + 1, x0, x6, x7, x9, x10, x11, x12 => if x12 ≥ x6 then (if 0 ≤ x12 then (if x12 < (x0.length : Int) then (if x11 = 0 then (none) else (if 0 ≤ (wrap64 (x12 - x6)) then (if (wrap64 (x12 - x6)) < (x9.length : Int) then (r8_Right.l1 k x0 x6 x7 (x9.set ((wrap64 (x12 - x6)) : Int).toNat (wrap64 (Int.tdiv (wrap64 ((wrap64 (x10 * 65536)) + (rd x0 x12))) x11))) (Int.tmod (wrap64 ((wrap64 (x10 * 65536)) + (rd x0 x12))) x11) x11 (wrap64 (x12 - 1))) else (none)) else (none))) else (none)) else (none)) else ((r8_trim.f k x9).bind fun t115 => (if x7 = true then (some (t115, true)) else (some (t115, (x10 != 0)))))
end
def r8_Right.f (k : Nat) (l0 : List Int) (a1 : Int) : Option (List Int × Bool) := r8_Right.l0 k l0 a1 (mn (wrap64 (Int.tdiv a1 16)) (l0.length : Int)) false 0
set_option maxHeartbeats 8000000 in
set_option maxRecDepth 100000 in
theorem r8_Right.calls (k : Nat) (A0 : Option Addr) (c0 : Nat) (l0 : List Int) (a1 : Int) (r1 : List Int) (r2 : Bool) (w : World) (hr0 : Kd.C (Kd.int .i64) w A0 l0.length l0) (hc0 : l0.length ≤ c0) (h : r8_Right.f k l0 a1 = some (r1, r2)) :
  Calls Tryz.prog 78 #[.slice A0 l0.length c0, .int .i64 a1] w fun e w' => ∃ v0_ : Value, e = .returned (.tuple #[v0_, .bool r2]) ∧ Kd.R (Kd.int .i64) 3 w' w.heap.size (fun _ => True) v0_ r1 ∧ Below w.heap.size w w' := by
 have HR0 := Zs.mk hr0
 have HC0 := Zs.mk hc0
 clear hr0 hc0
 have HB := Zs.mk (Below.refl w.heap.size w)
 have H : (r8_Right.l0 k l0 a1 (mn (wrap64 (Int.tdiv a1 16)) (l0.length : Int)) false 0) = some (r1, r2) := h
 clear h
 obtain ⟨ji3, hji3⟩ : ∃ j_ : Int, (mn (wrap64 (Int.tdiv a1 16)) (l0.length : Int)) = j_ := ⟨_, rfl⟩
 replace H : (r8_Right.l0 k l0 a1 ji3 false 0) = some (r1, r2) := by first | (rw [hji3] at H; exact H) | (simp only [hji3] at H ⊢; exact H)
 have hji3_ : (if (l0.length : Int) < (wrap64 (Int.tdiv a1 16)) then (l0.length : Int) else (wrap64 (Int.tdiv a1 16))) = ji3 := hji3
 have H' := Zs.mk H
 clear H
 go_enter Tryz.func78, Tryz.ntmps78
 go_wp2
 go_loopg [7, 8] k (fun kq v7 v8 w' => ∃ (x7_1 : Bool) (x8_1 : Int), v7 = .bool x7_1 ∧ v8 = .int .i64 x8_1 ∧ Zs (r8_Right.l0 kq l0 a1 ji3 x7_1 x8_1 = some (r1, r2)) ∧ Zs (kq ≤ k) ∧ Zs (Below w.heap.size w w'))
 case atStart => exact ⟨(false), (0), (by first | rfl | (simp; done) | (simp [*]; done)), (by first | rfl | (simp; done) | (simp [*]; done)), H', ⟨Nat.le_refl _⟩, blt HB⟩
 case round =>
  clear H'
  try clear p2
  obtain ⟨x7_1, x8_1, rfl, rfl, HA, HK1, HB⟩ := hrel
  cases gk with
  | zero => exact absurd HA.out (by simp [r8_Right.l0])
  | succ k1 =>
   have H := HA.out
   clear HA
   simp only [r8_Right.l0] at H
   by_cases c4 : x8_1 < ji3
   ·rw [if_pos c4] at H
    have c4b0 : decide (x8_1 < ji3) = true := decide_eq_true c4
    clear c4
    by_cases c5 : x7_1 = true
    ·subst c5
     have H1 : (r8_Right.l0 k1 l0 a1 ji3 true (wrap64 (x8_1 + 1))) = some (r1, r2) := by rw [if_pos rfl] at H; exact H
     clear H
     have H := H1
     clear H1
     have H' := Zs.mk H
     clear H
     go_wp2
     go_roundg k1
     case measure => have := HK1.out; omega
     case rel => exact ⟨(true), (wrap64 (x8_1 + 1)), (by first | rfl | (simp; done) | (simp [*]; done)), (by first | rfl | (simp; done) | (simp [*]; done)), H', ⟨by have := HK1.out; omega⟩, blt HB⟩
    ·replace c5 := Bool.eq_false_iff.mpr c5
     subst c5
     have H1 : (if 0 ≤ x8_1 then (if x8_1 < (l0.length : Int) then (r8_Right.l0 k1 l0 a1 ji3 ((rd l0 x8_1) != 0) (wrap64 (x8_1 + 1))) else (none)) else (none)) = some (r1, r2) := by rw [if_neg (show ¬ (false = true) by decide)] at H; exact H
     clear H
     have H := H1
     clear H1
     by_cases c6 : 0 ≤ x8_1
     ·rw [if_pos c6] at H
      have c6b0 : decide (0 ≤ x8_1) = true := decide_eq_true c6
      clear c6
      by_cases c7 : x8_1 < (l0.length : Int)
      ·rw [if_pos c7] at H
       have c7b0 : decide (x8_1 < (l0.length : Int)) = true := decide_eq_true c7
       clear c7
       have H' := Zs.mk H
       clear H
       have p108 : 0 ≤ (x8_1 : Int) := of_decide_eq_true (by first | (with_reducible assumption) | assumption)
       have q108 : x8_1 < (l0.length : Int) := of_decide_eq_true (by first | (with_reducible assumption) | assumption)
       obtain ⟨ad108, e108, hx108_0⟩ := Kd.at_int HR0.out x8_1 p108 q108
       cases e108
       replace hx108_0 := (HB.out.cell (World.block_lt_of_cell? w _ hx108_0)).trans hx108_0
       replace p108 := eq_true p108
       replace q108 := eq_true q108
       go_wp2
       go_roundg k1
       case measure => have := HK1.out; omega
       case rel => exact ⟨(((rd l0 x8_1) != 0)), (wrap64 (x8_1 + 1)), (by first | rfl | (simp; done) | (simp [*]; done)), (by first | rfl | (simp; done) | (simp [*]; done)), H', ⟨by have := HK1.out; omega⟩, blt HB⟩
      ·rw [if_neg c7] at H
       exact absurd H (by simp)
     ·rw [if_neg c6] at H
      exact absurd H (by simp)
   ·rw [if_neg c4] at H
    have c4b0 : decide (x8_1 < ji3) = false := decide_eq_false c4
    clear c4
    obtain ⟨ji8, hji8⟩ : ∃ j_ : Int, (wrap64 ((l0.length : Int) - ji3)) = j_ := ⟨_, rfl⟩
    replace H : (if 0 ≤ (ji8) then (if (ji8 : Int).toNat ≤ 35184372088832 then ((bs_Power.f k1 (Int.tmod a1 16)).bind fun t112 => (r8_Right.l1 k1 l0 ji3 x7_1 (List.replicate (ji8 : Int).toNat 0) 0 t112 (wrap64 ((l0.length : Int) - 1)))) else (none)) else (none)) = some (r1, r2) := by first | (rw [hji8] at H; exact H) | (simp only [hji8] at H ⊢; exact H)
    have hji8w : (IntKind.i64.wrap ((l0.length : Int) - ji3)) = ji8 := (i64_w _).trans hji8
    by_cases c9 : 0 ≤ (ji8)
    ·rw [if_pos c9] at H
     have c9b0 := eq_true c9
     have c9b1 : decide (0 ≤ (ji8)) = true := decide_eq_true c9
     clear c9
     by_cases c10 : (ji8 : Int).toNat ≤ 35184372088832
     ·rw [if_pos c10] at H
      have c10b0 := eq_true c10
      have c10b1 : decide ((ji8 : Int).toNat ≤ 35184372088832) = true := decide_eq_true c10
      clear c10
      obtain ⟨y109, hy109⟩ : ∃ y_ : List Int, y_ = (List.replicate (ji8 : Int).toNat 0) := ⟨_, rfl⟩
      replace H : ((bs_Power.f k1 (Int.tmod a1 16)).bind fun t112 => (r8_Right.l1 k1 l0 ji3 x7_1 y109 0 t112 (wrap64 ((l0.length : Int) - 1)))) = some (r1, r2) := by first | (rw [hy109]; with_reducible exact H) | (have H2_ := (Option.bind_some _ _).symm.trans H; rw [hy109]; with_reducible exact H2_) | (have H2_ := (Option.bind_some _ _).symm.trans H; with_reducible exact H2_) | with_reducible exact H | (rw [hy109]; exact H) | exact H
      have Ny109 := Zs.mk hy109
      clear hy109
      replace H := Option.bind_eq_some_iff.mp H
      obtain ⟨t112, A11, H⟩ := H
      try dsimp only at H
      replace A11 := Zs.mk A11
      have H' := Zs.mk H
      clear H
      go_wp2_with (first | ((with_reducible refine gd_ (N := 36) rfl ?_); refine Kd.R_make (Kd.int .i64) _ 3 rfl (N := 36) rfl 69 _ _ rfl ji8 rfl rfl Tryz.underlying69 (.int .i64 0) 8 info3 rfl (by decide) (by omega) 0 (ok := fun _ => True) (okp := fun _ => True) rfl (fun _ hk => hk) trivial (of_decide_eq_true (by first | (with_reducible assumption) | assumption)) (Nat.le_trans (Nat.mul_le_mul_right _ (of_decide_eq_true (by first | (with_reducible assumption) | assumption) : ji8.toNat ≤ 35184372088832)) (by omega)) (Below.refl _ _) (Nat.le_refl _) ?_; intro v110 w12 ho13 hb hg_ hnew_; clear hg_ hnew_; (first | rw [← Ny109.out] at ho13 | (simp only [Int.reduceToNat] at ho13; rw [← Ny109.out] at ho13)); have HO111 := Zs.mk (Kd.R_lower ho13 (below_size (blt HB).out)); replace HB := bls HB hb; clear hb ho13) | ((with_reducible refine gc_ (f := 72) rfl ?_); refine gLc 39 Tryz.func72 (bs_Power.calls k1 (Int.tmod a1 16) t112 _ A11.out) (fun _ h_ => ?_); obtain ⟨nd, rfl⟩ := h_))
      go_loopg [10, 12] k1 (fun kq v10 v12 w' => ∃ (x9_2 : List Int) (x10_2 : Int) (x12_2 : Int), v10 = .int .i64 x10_2 ∧ v12 = .int .i64 x12_2 ∧ Zs (r8_Right.l1 kq l0 ji3 x7_1 x9_2 x10_2 t112 x12_2 = some (r1, r2)) ∧ Zs (kq ≤ k1) ∧ Zs (Kd.R (Kd.int .i64) 3 w' w.heap.size (fun _ => True) v110 x9_2) ∧ Zs (Below w.heap.size w w'))
      case atStart => exact ⟨(y109), (0), (wrap64 ((l0.length : Int) - 1)), (by first | rfl | (simp; done) | (simp [*]; done)), (by first | rfl | (simp; done) | (simp [*]; done)), H', ⟨Nat.le_refl _⟩, ⟨by (with_reducible repeat (first | apply Kd.R_alloc | apply Kd.R_drewN | apply Kd.R_drew)); exact HO111.out⟩, blt HB⟩
      case round =>
       clear H'
       try clear c1
       try clear p1
       try clear q1
       try clear hx1
       try clear p2
       try clear c4
       try clear c4b0
       try clear c5
       try clear c6
       try clear c6b0
       try clear p6
       try clear c7
       try clear c7b0
       try clear c9
       try clear c9b0
       try clear c9b1
       try clear c10
       try clear c10b0
       try clear c10b1
       try clear p10
       try clear q10
       try clear hx10
       try clear hx108_0
       try clear p108
       try clear p2
       try clear q108
       obtain ⟨x9_2, x10_2, x12_2, rfl, rfl, HA, HK2, HO_9, HB⟩ := hrel
       cases gk with
       | zero => exact absurd HA.out (by simp [r8_Right.l1])
       | succ k2 =>
        have H := HA.out
        clear HA
        simp only [r8_Right.l1] at H
        by_cases c14 : x12_2 ≥ ji3
        ·rw [if_pos c14] at H
         have c14b0 : decide (ji3 ≤ x12_2) = true := decide_eq_true c14
         clear c14
         by_cases c15 : 0 ≤ x12_2
         ·rw [if_pos c15] at H
          have c15b0 : decide (0 ≤ x12_2) = true := decide_eq_true c15
          clear c15
          by_cases c16 : x12_2 < (l0.length : Int)
          ·rw [if_pos c16] at H
           have c16b0 : decide (x12_2 < (l0.length : Int)) = true := decide_eq_true c16
           clear c16
           by_cases c17 : t112 = 0
           ·rw [if_pos c17] at H
            exact absurd H (by simp)
           ·rw [if_neg c17] at H
            have c17b0 : (t112 == 0) = false := beq_eq_false_iff_ne.mpr c17
            have c17b1 : (t112 != 0) = true := bne_iff_ne.mpr c17
            obtain ⟨ji18, hji18⟩ : ∃ j_ : Int, (wrap64 (x12_2 - ji3)) = j_ := ⟨_, rfl⟩
            replace H : (if 0 ≤ (ji18) then (if (ji18) < (x9_2.length : Int) then (r8_Right.l1 k2 l0 ji3 x7_1 (x9_2.set ((ji18) : Int).toNat (wrap64 (Int.tdiv (wrap64 ((wrap64 (x10_2 * 65536)) + (rd l0 x12_2))) t112))) (Int.tmod (wrap64 ((wrap64 (x10_2 * 65536)) + (rd l0 x12_2))) t112) t112 (wrap64 (x12_2 - 1))) else (none)) else (none)) = some (r1, r2) := by first | (rw [hji18] at H; exact H) | (simp only [hji18] at H ⊢; exact H)
            have hji18w : (IntKind.i64.wrap (x12_2 - ji3)) = ji18 := (i64_w _).trans hji18
            by_cases c19 : 0 ≤ (ji18)
            ·rw [if_pos c19] at H
             have c19b0 : decide (0 ≤ (ji18)) = true := decide_eq_true c19
             clear c19
             by_cases c20 : (ji18) < (x9_2.length : Int)
             ·rw [if_pos c20] at H
              have c20b0 : decide ((ji18) < (x9_2.length : Int)) = true := decide_eq_true c20
              clear c20
              obtain ⟨y114, hy114⟩ : ∃ y_ : List Int, y_ = (x9_2.set ((ji18) : Int).toNat (wrap64 (Int.tdiv (wrap64 ((wrap64 (x10_2 * 65536)) + (rd l0 x12_2))) t112))) := ⟨_, rfl⟩
              replace H : (r8_Right.l1 k2 l0 ji3 x7_1 y114 (Int.tmod (wrap64 ((wrap64 (x10_2 * 65536)) + (rd l0 x12_2))) t112) t112 (wrap64 (x12_2 - 1))) = some (r1, r2) := by first | (rw [hy114]; with_reducible exact H) | (have H2_ := (Option.bind_some _ _).symm.trans H; rw [hy114]; with_reducible exact H2_) | (have H2_ := (Option.bind_some _ _).symm.trans H; with_reducible exact H2_) | with_reducible exact H | (rw [hy114]; exact H) | exact H
              have Ny114 := Zs.mk hy114
              clear hy114
              have H' := Zs.mk H
              clear H
              have p113 : 0 ≤ (x12_2 : Int) := of_decide_eq_true (by first | (with_reducible assumption) | assumption)
              have q113 : x12_2 < (l0.length : Int) := of_decide_eq_true (by first | (with_reducible assumption) | assumption)
              obtain ⟨ad113, e113, hx113_0⟩ := Kd.at_int HR0.out x12_2 p113 q113
              cases e113
              replace hx113_0 := (HB.out.cell (World.block_lt_of_cell? w _ hx113_0)).trans hx113_0
              replace p113 := eq_true p113
              replace q113 := eq_true q113
              have p21 : 0 ≤ ((ji18) : Int) := of_decide_eq_true (by first | (with_reducible assumption) | assumption)
              have q21 : ((ji18) : Int) < ((x9_2.length : Int) : Int) := of_decide_eq_true (by first | (with_reducible assumption) | assumption)
              obtain ⟨go21, co21, eo21, gb21, gl21, cl21, HG21⟩ := Kd.R_form HO_9.out (by omega)
              (first | cases eo21 | (injection eo21 with ea_ en_ ec_; (first | subst ea_ | (injection ea_ with ea_; subst ea_)); subst ec_; clear en_))
              have GB21 := Zs.mk gb21
              have GG21 := Zs.mk HG21
              clear gb21 gl21 HG21
              obtain ⟨hx21_0, hf21_0⟩ := Kd.R_celln 0 HO_9.out ((ji18) : Int) p21 q21
              replace p21 := eq_true p21
              replace q21 := eq_true q21
              have HP22 := Kd.R_putg HO_9.out ((ji18) : Int) (wrap64 (Int.tdiv (wrap64 ((wrap64 (x10_2 * 65536)) + (rd l0 x12_2))) t112))
              go_wp2_with (first | ((with_reducible refine gate_store (t := 3) (p := 62) rfl ?_); refine store_event (t := 3) (p := 62) (v := ?vo_w23) (w1 := (wr.setCell ⟨go21, ((ji18) : Int).toNat, none⟩ (.int .i64 (wrap64 (Int.tdiv (wrap64 ((wrap64 (x10_2 * 65536)) + (rd l0 x12_2))) t112))))) ?hg ?ho ?hn ?hr ?_; (case ho => rfl); (case hg => rfl); (case hn => rfl); (case hr => first | (go_simp; done) | (go_simp; rfl)); intro w23 hw; have hg : wr.grownBy w23 (some go21) := (by rw [hw]; exact HP22.2); have hp_ : Kd.R (Kd.int .i64) 3 w23 w.heap.size (fun _ => True) (.slice (some ⟨go21, 0, none⟩) x9_2.length co21) y114 := (by rw [hw, Ny114.out]; exact HP22.1); clear HP22; replace HO_9 := Zs.mk (hp_); replace HB := Zs.mk ((by rw [hw]; exact below_set (HB.out) GB21.out : Below w.heap.size w w23)); clear hg hw hp_))
              go_roundg k2
              case measure => have := HK1.out; have := HK2.out; omega
              case rel => exact ⟨(y114), (Int.tmod (wrap64 ((wrap64 (x10_2 * 65536)) + (rd l0 x12_2))) t112), (wrap64 (x12_2 - 1)), (by first | rfl | (simp; done) | (simp [*]; done)), (by first | rfl | (simp; done) | (simp [*]; done)), H', ⟨by have := HK1.out; have := HK2.out; omega⟩, ⟨by (with_reducible repeat (first | apply Kd.R_alloc | apply Kd.R_drewN | apply Kd.R_drew)); exact HO_9.out⟩, blt HB⟩
             ·rw [if_neg c20] at H
              exact absurd H (by simp)
            ·rw [if_neg c19] at H
             exact absurd H (by simp)
          ·rw [if_neg c16] at H
           exact absurd H (by simp)
         ·rw [if_neg c15] at H
          exact absurd H (by simp)
        ·rw [if_neg c14] at H
         have c14b0 : decide (ji3 ≤ x12_2) = false := decide_eq_false c14
         clear c14
         replace H := Option.bind_eq_some_iff.mp H
         obtain ⟨t115, A24, H⟩ := H
         try dsimp only at H
         replace A24 := Zs.mk A24
         by_cases c25 : x7_1 = true
         ·subst c25
          have H1 : (some (t115, true)) = some (r1, r2) := by rw [if_pos rfl] at H; exact H
          clear H
          have H := H1
          clear H1
          simp only [Option.some.injEq, Prod.mk.injEq] at H
          obtain ⟨rfl, rfl⟩ := H
          obtain ⟨Ao26, co26, eo26⟩ := Kd.R_slice HO_9.out
          subst eo26
          go_wp2_with (first | ((with_reducible refine gc_ (f := 104) rfl ?_); refine gL 67 Tryz.func104 #[.slice Ao26 x9_2.length co26] ?_; (with_reducible refine (r8_trim.calls k2 (fun k_ => some k_ = (.slice Ao26 x9_2.length co26 : Value).ownBlock) (.slice Ao26 x9_2.length co26) x9_2 t115 w _ ?side1 ?side2 A24.out).mono ?_); (case side1 => repeat (first | (with_reducible first | exact HB.out | apply below_alloc | apply pw_below_drewN | apply below_drew1) | exact HB.out)); (case side2 => exact Kd.R_tight rfl HO_9.out); rintro e w27 ⟨v116, rfl, ho0, hb, hkp⟩; refine ⟨_, rfl, ?_⟩; have n0_ := Zs.mk (Kd.R_mono (ok' := fun k_ => True) ho0 (fun k_ hk_ => trivial)); have n1_ := Zs.mk (hb); clear HB; clear HO_9; have HO117 := n0_; have HB := n1_; clear n0_ n1_; (try clear hb); (try clear hkp); (try clear ho0)))
          go_ret2
          exact ⟨_, by first | rfl | (simp [errW_none, errW_some] <;> rfl) | (simp only [← hji3, ← hji8]; first | rfl | (simp [errW_none, errW_some] <;> rfl)) | (simp [*, errW_none, errW_some] <;> rfl), by (with_reducible repeat (first | apply Kd.R_alloc | apply Kd.R_drewN | apply Kd.R_drew)); exact HO117.out, (blt HB).out⟩
         ·replace c25 := Bool.eq_false_iff.mpr c25
          subst c25
          have H1 : (some (t115, (x10_2 != 0))) = some (r1, r2) := by rw [if_neg (show ¬ (false = true) by decide)] at H; exact H
          clear H
          have H := H1
          clear H1
          simp only [Option.some.injEq, Prod.mk.injEq] at H
          obtain ⟨rfl, rfl⟩ := H
          obtain ⟨Ao28, co28, eo28⟩ := Kd.R_slice HO_9.out
          subst eo28
          go_wp2_with (first | ((with_reducible refine gc_ (f := 104) rfl ?_); refine gL 67 Tryz.func104 #[.slice Ao28 x9_2.length co28] ?_; (with_reducible refine (r8_trim.calls k2 (fun k_ => some k_ = (.slice Ao28 x9_2.length co28 : Value).ownBlock) (.slice Ao28 x9_2.length co28) x9_2 t115 w _ ?side1 ?side2 A24.out).mono ?_); (case side1 => repeat (first | (with_reducible first | exact HB.out | apply below_alloc | apply pw_below_drewN | apply below_drew1) | exact HB.out)); (case side2 => exact Kd.R_tight rfl HO_9.out); rintro e w29 ⟨v116, rfl, ho0, hb, hkp⟩; refine ⟨_, rfl, ?_⟩; have n0_ := Zs.mk (Kd.R_mono (ok' := fun k_ => True) ho0 (fun k_ hk_ => trivial)); have n1_ := Zs.mk (hb); clear HB; clear HO_9; have HO117 := n0_; have HB := n1_; clear n0_ n1_; (try clear hb); (try clear hkp); (try clear ho0)))
          go_ret2
          exact ⟨_, by first | rfl | (simp [errW_none, errW_some] <;> rfl) | (simp only [← hji3, ← hji8]; first | rfl | (simp [errW_none, errW_some] <;> rfl)) | (simp [*, errW_none, errW_some] <;> rfl), by (with_reducible repeat (first | apply Kd.R_alloc | apply Kd.R_drewN | apply Kd.R_drew)); exact HO117.out, (blt HB).out⟩
     ·rw [if_neg c10] at H
      exact absurd H (by simp)
    ·rw [if_neg c9] at H
     exact absurd H (by simp)
end Go.Proofs.YtmoimcblmmcffaaGreatDoor.PN

namespace Go.Proofs.YtmoimcblmmcffaaGreatDoor.PN
open Go.RowKit Go.Proofs.YtmoimcblmmcffaaGreatDoorW.PrintWords Go.Proofs.YtmoimcblmmcffaaGreatDoorW.PrintLast Go.Proofs.YtmoimcblmmcffaaGreatDoorW.PrintMore Go.Proofs.YtmoimcblmmcffaaGreatDoorW.PrintZ
attribute [local go_sem] max2_int min2_int max_two min_two max_three min_three max_four min_four   -- for this text's walks alone
set_option linter.unusedVariables false
set_option linter.unusedSimpArgs false
def r8_Int.l0 : Nat → List Int → Int → Int → Option (Int)
 | 0, _, _, _ => none
 | k + 1, x0, x3, x4 => if x4 ≥ 0 then (if 0 ≤ x4 then (if x4 < (x0.length : Int) then (r8_Int.l0 k x0 (wrap64 ((wrap64 (65536 * x3)) + (rd x0 x4))) (wrap64 (x4 - 1))) else (none)) else (none)) else (some x3)
def r8_Int.f (k : Nat) (l0 : List Int) : Option (Int) := r8_Int.l0 k l0 0 (wrap64 ((l0.length : Int) - 1))
set_option maxHeartbeats 8000000 in
set_option maxRecDepth 100000 in
theorem r8_Int.calls (k : Nat) (A0 : Option Addr) (c0 : Nat) (l0 : List Int) (r : Int) (w : World) (hr0 : Kd.C (Kd.int .i64) w A0 l0.length l0) (hc0 : l0.length ≤ c0) (h : r8_Int.f k l0 = some r) :
  Calls Tryz.prog 53 #[.slice A0 l0.length c0] w fun e w' => e = .returned (.int .i64 r) ∧ Drawn0 w w' := by
 have HR0 := Zs.mk hr0
 have HC0 := Zs.mk hc0
 clear hr0 hc0
 have H : (r8_Int.l0 k l0 0 (wrap64 ((l0.length : Int) - 1))) = some r := h
 clear h
 have H' := Zs.mk H
 clear H
 go_enter Tryz.func53, Tryz.ntmps53
 go_wp2
 go_loopg [3, 4] k (fun kq v3 v4 w' => ∃ (x3_1 : Int) (x4_1 : Int), v3 = .int .i64 x3_1 ∧ v4 = .int .i64 x4_1 ∧ Zs (r8_Int.l0 kq l0 x3_1 x4_1 = some r) ∧ Zs (kq ≤ k) ∧ Drawn0 w w')
 case atStart => exact ⟨(0), (wrap64 ((l0.length : Int) - 1)), (by first | rfl | (simp; done) | (simp [*]; done)), (by first | rfl | (simp; done) | (simp [*]; done)), H', ⟨Nat.le_refl _⟩, by repeat (first | exact Drawn0.refl _ | apply Drawn0.step)⟩
 case round =>
  clear H'
  obtain ⟨x3_1, x4_1, rfl, rfl, HA, HK1, ⟨m1, rfl⟩⟩ := hrel
  cases gk with
  | zero => exact absurd HA.out (by simp [r8_Int.l0])
  | succ k1 =>
   have H := HA.out
   clear HA
   simp only [r8_Int.l0] at H
   by_cases c2 : x4_1 ≥ 0
   ·rw [if_pos c2] at H
    have c2b0 : decide (0 ≤ x4_1) = true := decide_eq_true c2
    clear c2
    by_cases c3 : 0 ≤ x4_1
    ·rw [if_pos c3] at H
     have c3b0 : decide (0 ≤ x4_1) = true := decide_eq_true c3
     clear c3
     by_cases c4 : x4_1 < (l0.length : Int)
     ·rw [if_pos c4] at H
      have c4b0 : decide (x4_1 < (l0.length : Int)) = true := decide_eq_true c4
      clear c4
      have H' := Zs.mk H
      clear H
      have p118 : 0 ≤ (x4_1 : Int) := of_decide_eq_true (by first | (with_reducible assumption) | assumption)
      have q118 : x4_1 < (l0.length : Int) := of_decide_eq_true (by first | (with_reducible assumption) | assumption)
      obtain ⟨ad118, e118, hx118_0⟩ := Kd.at_int HR0.out x4_1 p118 q118
      cases e118
      replace p118 := eq_true p118
      replace q118 := eq_true q118
      go_wp2
      go_roundg k1
      case measure => have := HK1.out; omega
      case rel => exact ⟨(wrap64 ((wrap64 (65536 * x3_1)) + (rd l0 x4_1))), (wrap64 (x4_1 - 1)), (by first | rfl | (simp; done) | (simp [*]; done)), (by first | rfl | (simp; done) | (simp [*]; done)), H', ⟨by have := HK1.out; omega⟩, by repeat (first | exact Drawn0.refl _ | apply Drawn0.step)⟩
     ·rw [if_neg c4] at H
      exact absurd H (by simp)
    ·rw [if_neg c3] at H
     exact absurd H (by simp)
   ·rw [if_neg c2] at H
    have c2b0 : decide (0 ≤ x4_1) = false := decide_eq_false c2
    clear c2
    obtain rfl := Option.some.inj H
    go_wp2
    go_ret
    exact ⟨by first | rfl | (simp; done) | (simp [*]; done), by repeat (first | exact Drawn0.refl _ | apply Drawn0.step)⟩
def r8_Nat.l0 : Nat → Int → List Int → Option (List Int)
 | 0, _, _ => none
 | k + 1, x0, x3 => if x0 > 0 then (if x3.length < 17592186044416 then (r8_Nat.l0 k (wrap64 (Int.tdiv x0 65536)) (x3 ++ [Int.tmod x0 65536])) else (none)) else (some x3)
def r8_Nat.f (k : Nat) (a0 : Int) : Option (List Int) := r8_Nat.l0 k a0 ([] : List Int)
set_option maxHeartbeats 8000000 in
set_option maxRecDepth 100000 in
theorem r8_Nat.calls (k : Nat) (a0 : Int) (r : List Int) (w : World) (h : r8_Nat.f k a0 = some r) :
  Calls Tryz.prog 44 #[.int .i64 a0] w fun e w' => ∃ v0_ : Value, e = .returned (v0_) ∧ Kd.R (Kd.int .i64) 3 w' w.heap.size (fun _ => True) v0_ r ∧ Below w.heap.size w w' := by
 have HB := Zs.mk (Below.refl w.heap.size w)
 have H : (r8_Nat.l0 k a0 ([] : List Int)) = some r := h
 clear h
 have H' := Zs.mk H
 clear H
 go_enter Tryz.func44, Tryz.ntmps44
 go_wp2
 go_loopg [0, 3] k (fun kq v0 v3 w' => ∃ (x0_1 : Int) (x3_1 : List Int), v0 = .int .i64 x0_1 ∧ Zs (r8_Nat.l0 kq x0_1 x3_1 = some r) ∧ Zs (kq ≤ k) ∧ Zs (Kd.R (Kd.int .i64) 3 w' w.heap.size (fun _ => True) v3 x3_1) ∧ Zs (Below w.heap.size w w'))
 case atStart => exact ⟨(a0), (([] : List Int)), (by first | rfl | (simp; done) | (simp [*]; done)), H', ⟨Nat.le_refl _⟩, ⟨by first | exact Kd.R_nil _ _ _ _ _ | exact Kd.N_nil _ _ _ _ _ | exact Kd.V_nil _ _ _ _ _ | exact Kd.Q_nil _ _ _ _ _ | exact Kd.S_nil _ _ _ _ _⟩, blt HB⟩
 case round =>
  clear H'
  obtain ⟨x0_1, x3_1, rfl, HA, HK1, HO_3, HB⟩ := hrel
  cases gk with
  | zero => exact absurd HA.out (by simp [r8_Nat.l0])
  | succ k1 =>
   have H := HA.out
   clear HA
   simp only [r8_Nat.l0] at H
   by_cases c2 : x0_1 > 0
   ·rw [if_pos c2] at H
    have c2b0 : decide (0 < x0_1) = true := decide_eq_true c2
    clear c2
    by_cases c3 : x3_1.length < 17592186044416
    ·rw [if_pos c3] at H
     have LMc3 := Zs.mk c3
     clear c3
     obtain ⟨y119, hy119⟩ : ∃ y_ : List Int, y_ = (x3_1 ++ [Int.tmod x0_1 65536]) := ⟨_, rfl⟩
     replace H : (r8_Nat.l0 k1 (wrap64 (Int.tdiv x0_1 65536)) y119) = some r := by first | (rw [hy119]; with_reducible exact H) | (have H2_ := (Option.bind_some _ _).symm.trans H; rw [hy119]; with_reducible exact H2_) | (have H2_ := (Option.bind_some _ _).symm.trans H; with_reducible exact H2_) | with_reducible exact H | (rw [hy119]; exact H) | exact H
     have Ny119 := Zs.mk hy119
     clear hy119
     have H' := Zs.mk H
     clear H
     go_wp2_with (first | ((with_reducible refine gate_builtin (b := .append) (xs := #[.tmp 6, .tmp 9]) rfl ?_); at_builtin; refine Kd.R_append (Kd.int .i64) (w0 := w) w.heap.size rfl (.tmp 6) (.tmp 9) 69 3 (.int .i64 0) 8 rfl Tryz.underlying69 info3 rfl (by decide) (by omega) u3 x3_1 (Int.tmod x0_1 65536) [.int .i64 (Int.tmod x0_1 65536)] (fun _ => True) (fun _ => False) rfl rfl ?aP (fun _ hk => hk.elim) ?aF ?aO ?aB ?aS ?aL ?_; (case aP => exact rfl); (case aB => exact (blt HB).out); (case aF => exact (fun _ _ => trivial)); (case aO => exact (by (with_reducible repeat (first | apply Kd.R_alloc | apply Kd.R_drewN | apply Kd.R_drew)); exact HO_3.out)); (case aS => exact (below_size (blt HB).out)); (case aL => have := LMc3.out; omega); intro v120 w4 ho hb hg hat; rw [← Ny119.out] at ho; have n0_ := Zs.mk (hb); have n1_ := Zs.mk (ho); clear HB; clear HO_3; have HB := n0_; have HO121 := n1_; clear n0_ n1_; clear ho hb hg hat))
     go_roundg k1
     case measure => have := HK1.out; omega
     case rel => exact ⟨(wrap64 (Int.tdiv x0_1 65536)), (y119), (by first | rfl | (simp; done) | (simp [*]; done)), H', ⟨by have := HK1.out; omega⟩, ⟨by (with_reducible repeat (first | apply Kd.R_alloc | apply Kd.R_drewN | apply Kd.R_drew)); exact HO121.out⟩, blt HB⟩
    ·rw [if_neg c3] at H
     exact absurd H (by simp)
   ·rw [if_neg c2] at H
    have c2b0 : decide (0 < x0_1) = false := decide_eq_false c2
    clear c2
    obtain rfl := Option.some.inj H
    go_wp2
    go_ret
    exact ⟨_, by first | rfl | (simp [errW_none, errW_some] <;> rfl) | (simp [*, errW_none, errW_some] <;> rfl), by (with_reducible repeat (first | apply Kd.R_alloc | apply Kd.R_drewN | apply Kd.R_drew)); exact HO_3.out, (blt HB).out⟩
def bs_Bit.f (a0 : Bool) : Option (Int) := if a0 = true then (some 1) else (some 0)
set_option maxHeartbeats 8000000 in
set_option maxRecDepth 100000 in
theorem bs_Bit.calls (a0 : Bool) (r : Int) (w : World) (h : bs_Bit.f a0 = some r) :
  Calls Tryz.prog 39 #[.bool a0] w fun e w' => e = .returned (.int .i64 r) ∧ Drawn0 w w' := by
 have H : (if a0 = true then (some 1) else (some 0)) = some r := h
 clear h
 by_cases c2 : a0 = true
 ·subst c2
  rw [if_pos rfl] at H
  obtain rfl := Option.some.inj H
  go_enter Tryz.func39, Tryz.ntmps39
  go_wp2
  go_ret
  exact ⟨by first | rfl | (simp; done) | (simp [*]; done), by repeat (first | exact Drawn0.refl _ | apply Drawn0.step)⟩
 ·replace c2 := Bool.eq_false_iff.mpr c2
  subst c2
  rw [if_neg (show ¬ (false = true) by decide)] at H
  obtain rfl := Option.some.inj H
  go_enter Tryz.func39, Tryz.ntmps39
  go_wp2
  go_ret
  exact ⟨by first | rfl | (simp; done) | (simp [*]; done), by repeat (first | exact Drawn0.refl _ | apply Drawn0.step)⟩
def r8_digit.f (l0 : List Int) (a1 : Int) : Option (Int) := if a1 < (l0.length : Int) then (if 0 ≤ a1 then (some (rd l0 a1)) else (none)) else (some 0)
set_option maxHeartbeats 8000000 in
set_option maxRecDepth 100000 in
theorem r8_digit.calls (A0 : Option Addr) (c0 : Nat) (l0 : List Int) (a1 : Int) (r : Int) (w : World) (hr0 : Kd.C (Kd.int .i64) w A0 l0.length l0) (hc0 : l0.length ≤ c0) (h : r8_digit.f l0 a1 = some r) :
  Calls Tryz.prog 81 #[.slice A0 l0.length c0, .int .i64 a1] w fun e w' => e = .returned (.int .i64 r) ∧ Drawn0 w w' := by
 have HR0 := Zs.mk hr0
 have HC0 := Zs.mk hc0
 clear hr0 hc0
 have H : (if a1 < (l0.length : Int) then (if 0 ≤ a1 then (some (rd l0 a1)) else (none)) else (some 0)) = some r := h
 clear h
 by_cases c3 : a1 < (l0.length : Int)
 ·rw [if_pos c3] at H
  have c3b0 : decide (a1 < (l0.length : Int)) = true := decide_eq_true c3
  clear c3
  by_cases c4 : 0 ≤ a1
  ·rw [if_pos c4] at H
   have c4b0 : decide (0 ≤ a1) = true := decide_eq_true c4
   clear c4
   obtain rfl := Option.some.inj H
   have p122 : 0 ≤ (a1 : Int) := of_decide_eq_true (by first | (with_reducible assumption) | assumption)
   have q122 : a1 < (l0.length : Int) := of_decide_eq_true (by first | (with_reducible assumption) | assumption)
   obtain ⟨ad122, e122, hx122_0⟩ := Kd.at_int HR0.out a1 p122 q122
   cases e122
   replace p122 := eq_true p122
   replace q122 := eq_true q122
   go_enter Tryz.func81, Tryz.ntmps81
   go_wp2
   go_ret
   exact ⟨by first | rfl | (simp; done) | (simp [*]; done), by repeat (first | exact Drawn0.refl _ | apply Drawn0.step)⟩
  ·rw [if_neg c4] at H
   exact absurd H (by simp)
 ·rw [if_neg c3] at H
  have c3b0 : decide (a1 < (l0.length : Int)) = false := decide_eq_false c3
  clear c3
  obtain rfl := Option.some.inj H
  go_enter Tryz.func81, Tryz.ntmps81
  go_wp2
  go_ret
  exact ⟨by first | rfl | (simp; done) | (simp [*]; done), by repeat (first | exact Drawn0.refl _ | apply Drawn0.step)⟩
def r8_Minus.l0 : Nat → List Int → List Int → List Int → Int → Int → Option (List Int)
 | 0, _, _, _, _, _ => none
 | k + 1, x0, x1, x5, x6, x7 => if x7 < (x0.length : Int) then (if 0 ≤ x7 then ((r8_digit.f x1 x7).bind fun t124 => ((bs_Bit.f (decide ((wrap64 ((wrap64 ((rd x0 x7) - t124)) - x6)) < 0))).bind fun t125 => (if x5.length < 17592186044416 then (r8_Minus.l0 k x0 x1 (x5 ++ [wrap64 ((wrap64 ((wrap64 ((rd x0 x7) - t124)) - x6)) + (wrap64 (65536 * t125)))]) t125 (wrap64 (x7 + 1))) else (none)))) else (none)) else ((r8_trim.f k x5).bind fun t129 => (some t129))
def r8_Minus.f (k : Nat) (l0 : List Int) (l1 : List Int) : Option (List Int) := r8_Minus.l0 k l0 l1 ([] : List Int) 0 0
set_option maxHeartbeats 8000000 in
set_option maxRecDepth 100000 in
theorem r8_Minus.calls (k : Nat) (A0 : Option Addr) (c0 : Nat) (l0 : List Int) (A1 : Option Addr) (c1 : Nat) (l1 : List Int) (r : List Int) (w : World) (hr0 : Kd.C (Kd.int .i64) w A0 l0.length l0) (hc0 : l0.length ≤ c0) (hr1 : Kd.C (Kd.int .i64) w A1 l1.length l1) (hc1 : l1.length ≤ c1) (h : r8_Minus.f k l0 l1 = some r) :
  Calls Tryz.prog 79 #[.slice A0 l0.length c0, .slice A1 l1.length c1] w fun e w' => ∃ v0_ : Value, e = .returned (v0_) ∧ Kd.R (Kd.int .i64) 3 w' w.heap.size (fun _ => True) v0_ r ∧ Below w.heap.size w w' := by
 have HR0 := Zs.mk hr0
 have HC0 := Zs.mk hc0
 clear hr0 hc0
 have HR1 := Zs.mk hr1
 have HC1 := Zs.mk hc1
 clear hr1 hc1
 have HB := Zs.mk (Below.refl w.heap.size w)
 have H : (r8_Minus.l0 k l0 l1 ([] : List Int) 0 0) = some r := h
 clear h
 have H' := Zs.mk H
 clear H
 go_enter Tryz.func79, Tryz.ntmps79
 go_wp2
 repeat (go_quiet (fail); try go_wp2)
 go_loopg [5, 6, 7] k (fun kq v5 v6 v7 w' => ∃ (x5_1 : List Int) (x6_1 : Int) (x7_1 : Int), v6 = .int .i64 x6_1 ∧ v7 = .int .i64 x7_1 ∧ Zs (r8_Minus.l0 kq l0 l1 x5_1 x6_1 x7_1 = some r) ∧ Zs (kq ≤ k) ∧ Zs (Kd.R (Kd.int .i64) 3 w' w.heap.size (fun _ => True) v5 x5_1) ∧ Zs (Below w.heap.size w w'))
 case atStart => exact ⟨(([] : List Int)), (0), (0), (by first | rfl | (simp; done) | (simp [*]; done)), (by first | rfl | (simp; done) | (simp [*]; done)), H', ⟨Nat.le_refl _⟩, ⟨by first | exact Kd.R_nil _ _ _ _ _ | exact Kd.N_nil _ _ _ _ _ | exact Kd.V_nil _ _ _ _ _ | exact Kd.Q_nil _ _ _ _ _ | exact Kd.S_nil _ _ _ _ _⟩, blt HB⟩
 case round =>
  clear H'
  try clear c1
  try clear p2
  obtain ⟨x5_1, x6_1, x7_1, rfl, rfl, HA, HK1, HO_5, HB⟩ := hrel
  cases gk with
  | zero => exact absurd HA.out (by simp [r8_Minus.l0])
  | succ k1 =>
   have H := HA.out
   clear HA
   simp only [r8_Minus.l0] at H
   by_cases c3 : x7_1 < (l0.length : Int)
   ·rw [if_pos c3] at H
    have c3b0 : decide (x7_1 < (l0.length : Int)) = true := decide_eq_true c3
    clear c3
    by_cases c4 : 0 ≤ x7_1
    ·rw [if_pos c4] at H
     have c4b0 : decide (0 ≤ x7_1) = true := decide_eq_true c4
     clear c4
     replace H := Option.bind_eq_some_iff.mp H
     obtain ⟨t124, A5, H⟩ := H
     try dsimp only at H
     replace A5 := Zs.mk A5
     replace H := Option.bind_eq_some_iff.mp H
     obtain ⟨t125, A6, H⟩ := H
     try dsimp only at H
     replace A6 := Zs.mk A6
     by_cases c7 : x5_1.length < 17592186044416
     ·rw [if_pos c7] at H
      have LMc7 := Zs.mk c7
      clear c7
      obtain ⟨y126, hy126⟩ : ∃ y_ : List Int, y_ = (x5_1 ++ [wrap64 ((wrap64 ((wrap64 ((rd l0 x7_1) - t124)) - x6_1)) + (wrap64 (65536 * t125)))]) := ⟨_, rfl⟩
      replace H : (r8_Minus.l0 k1 l0 l1 y126 t125 (wrap64 (x7_1 + 1))) = some r := by first | (rw [hy126]; with_reducible exact H) | (have H2_ := (Option.bind_some _ _).symm.trans H; rw [hy126]; with_reducible exact H2_) | (have H2_ := (Option.bind_some _ _).symm.trans H; with_reducible exact H2_) | with_reducible exact H | (rw [hy126]; exact H) | exact H
      have Ny126 := Zs.mk hy126
      clear hy126
      have H' := Zs.mk H
      clear H
      have p123 : 0 ≤ (x7_1 : Int) := of_decide_eq_true (by first | (with_reducible assumption) | assumption)
      have q123 : x7_1 < (l0.length : Int) := of_decide_eq_true (by first | (with_reducible assumption) | assumption)
      obtain ⟨ad123, e123, hx123_0⟩ := Kd.at_int HR0.out x7_1 p123 q123
      cases e123
      replace hx123_0 := (HB.out.cell (World.block_lt_of_cell? w _ hx123_0)).trans hx123_0
      replace p123 := eq_true p123
      replace q123 := eq_true q123
      go_wp2_with (first | (go_at_call 81; (with_reducible refine (r8_digit.calls _ _ l1 x7_1 t124 _ ?side1 ?side2 A5.out).mono ?_); (case side1 => repeat (first | exact (Kd.C_below HR1.out HB.out) | (with_reducible refine Kd.C_alloc ?_ _) | (with_reducible refine Kd.C_drewN ?_ _) | (with_reducible refine Kd.C_drew ?_))); (case side2 => exact HC1.out); rintro e w' ⟨rfl, ⟨nd, rfl⟩⟩; (try first | exact ⟨rfl, _, World.drewN_drewN _ _ _⟩ | exact ⟨rfl, _, Eq.trans (World.drewN_drewN _ _ _) (congrArg (World.drewN _) (Nat.add_assoc _ _ _))⟩)) | (go_at_call 39; (with_reducible refine (bs_Bit.calls (decide ((wrap64 ((wrap64 ((rd l0 x7_1) - t124)) - x6_1)) < 0)) t125 _ A6.out).mono ?_); rintro e w' ⟨rfl, ⟨nd, rfl⟩⟩; (try first | exact ⟨rfl, _, World.drewN_drewN _ _ _⟩ | exact ⟨rfl, _, Eq.trans (World.drewN_drewN _ _ _) (congrArg (World.drewN _) (Nat.add_assoc _ _ _))⟩)) | ((with_reducible refine gate_builtin (b := .append) (xs := #[.tmp 28, .tmp 33]) rfl ?_); at_builtin; refine Kd.R_append (Kd.int .i64) (w0 := w) w.heap.size rfl (.tmp 28) (.tmp 33) 69 3 (.int .i64 0) 8 rfl Tryz.underlying69 info3 rfl (by decide) (by omega) u5 x5_1 (wrap64 ((wrap64 ((wrap64 ((rd l0 x7_1) - t124)) - x6_1)) + (wrap64 (65536 * t125)))) [.int .i64 (wrap64 ((wrap64 ((wrap64 ((rd l0 x7_1) - t124)) - x6_1)) + (wrap64 (65536 * t125))))] (fun _ => True) (fun _ => False) rfl rfl ?aP (fun _ hk => hk.elim) ?aF ?aO ?aB ?aS ?aL ?_; (case aP => exact rfl); (case aB => exact (blt HB).out); (case aF => exact (fun _ _ => trivial)); (case aO => exact (by (with_reducible repeat (first | apply Kd.R_alloc | apply Kd.R_drewN | apply Kd.R_drew)); exact HO_5.out)); (case aS => exact (below_size (blt HB).out)); (case aL => have := LMc7.out; omega); intro v127 w8 ho hb hg hat; rw [← Ny126.out] at ho; have n0_ := Zs.mk (hb); have n1_ := Zs.mk (ho); clear HB; clear HO_5; have HB := n0_; have HO128 := n1_; clear n0_ n1_; clear ho hb hg hat))
      repeat (go_quiet (first | (go_at_call 81; (with_reducible refine (r8_digit.calls _ _ l1 x7_1 t124 _ ?side1 ?side2 A5.out).mono ?_); (case side1 => repeat (first | exact (Kd.C_below HR1.out HB.out) | (with_reducible refine Kd.C_alloc ?_ _) | (with_reducible refine Kd.C_drewN ?_ _) | (with_reducible refine Kd.C_drew ?_))); (case side2 => exact HC1.out); rintro e w' ⟨rfl, ⟨nd, rfl⟩⟩; (try first | exact ⟨rfl, _, World.drewN_drewN _ _ _⟩ | exact ⟨rfl, _, Eq.trans (World.drewN_drewN _ _ _) (congrArg (World.drewN _) (Nat.add_assoc _ _ _))⟩)) | (go_at_call 39; (with_reducible refine (bs_Bit.calls (decide ((wrap64 ((wrap64 ((rd l0 x7_1) - t124)) - x6_1)) < 0)) t125 _ A6.out).mono ?_); rintro e w' ⟨rfl, ⟨nd, rfl⟩⟩; (try first | exact ⟨rfl, _, World.drewN_drewN _ _ _⟩ | exact ⟨rfl, _, Eq.trans (World.drewN_drewN _ _ _) (congrArg (World.drewN _) (Nat.add_assoc _ _ _))⟩)) | ((with_reducible refine gate_builtin (b := .append) (xs := #[.tmp 28, .tmp 33]) rfl ?_); at_builtin; refine Kd.R_append (Kd.int .i64) (w0 := w) w.heap.size rfl (.tmp 28) (.tmp 33) 69 3 (.int .i64 0) 8 rfl Tryz.underlying69 info3 rfl (by decide) (by omega) u5 x5_1 (wrap64 ((wrap64 ((wrap64 ((rd l0 x7_1) - t124)) - x6_1)) + (wrap64 (65536 * t125)))) [.int .i64 (wrap64 ((wrap64 ((wrap64 ((rd l0 x7_1) - t124)) - x6_1)) + (wrap64 (65536 * t125))))] (fun _ => True) (fun _ => False) rfl rfl ?aP (fun _ hk => hk.elim) ?aF ?aO ?aB ?aS ?aL ?_; (case aP => exact rfl); (case aB => exact (blt HB).out); (case aF => exact (fun _ _ => trivial)); (case aO => exact (by (with_reducible repeat (first | apply Kd.R_alloc | apply Kd.R_drewN | apply Kd.R_drew)); exact HO_5.out)); (case aS => exact (below_size (blt HB).out)); (case aL => have := LMc7.out; omega); intro v127 w8 ho hb hg hat; rw [← Ny126.out] at ho; have n0_ := Zs.mk (hb); have n1_ := Zs.mk (ho); clear HB; clear HO_5; have HB := n0_; have HO128 := n1_; clear n0_ n1_; clear ho hb hg hat)); try go_wp2_with (first | (go_at_call 81; (with_reducible refine (r8_digit.calls _ _ l1 x7_1 t124 _ ?side1 ?side2 A5.out).mono ?_); (case side1 => repeat (first | exact (Kd.C_below HR1.out HB.out) | (with_reducible refine Kd.C_alloc ?_ _) | (with_reducible refine Kd.C_drewN ?_ _) | (with_reducible refine Kd.C_drew ?_))); (case side2 => exact HC1.out); rintro e w' ⟨rfl, ⟨nd, rfl⟩⟩; (try first | exact ⟨rfl, _, World.drewN_drewN _ _ _⟩ | exact ⟨rfl, _, Eq.trans (World.drewN_drewN _ _ _) (congrArg (World.drewN _) (Nat.add_assoc _ _ _))⟩)) | (go_at_call 39; (with_reducible refine (bs_Bit.calls (decide ((wrap64 ((wrap64 ((rd l0 x7_1) - t124)) - x6_1)) < 0)) t125 _ A6.out).mono ?_); rintro e w' ⟨rfl, ⟨nd, rfl⟩⟩; (try first | exact ⟨rfl, _, World.drewN_drewN _ _ _⟩ | exact ⟨rfl, _, Eq.trans (World.drewN_drewN _ _ _) (congrArg (World.drewN _) (Nat.add_assoc _ _ _))⟩)) | ((with_reducible refine gate_builtin (b := .append) (xs := #[.tmp 28, .tmp 33]) rfl ?_); at_builtin; refine Kd.R_append (Kd.int .i64) (w0 := w) w.heap.size rfl (.tmp 28) (.tmp 33) 69 3 (.int .i64 0) 8 rfl Tryz.underlying69 info3 rfl (by decide) (by omega) u5 x5_1 (wrap64 ((wrap64 ((wrap64 ((rd l0 x7_1) - t124)) - x6_1)) + (wrap64 (65536 * t125)))) [.int .i64 (wrap64 ((wrap64 ((wrap64 ((rd l0 x7_1) - t124)) - x6_1)) + (wrap64 (65536 * t125))))] (fun _ => True) (fun _ => False) rfl rfl ?aP (fun _ hk => hk.elim) ?aF ?aO ?aB ?aS ?aL ?_; (case aP => exact rfl); (case aB => exact (blt HB).out); (case aF => exact (fun _ _ => trivial)); (case aO => exact (by (with_reducible repeat (first | apply Kd.R_alloc | apply Kd.R_drewN | apply Kd.R_drew)); exact HO_5.out)); (case aS => exact (below_size (blt HB).out)); (case aL => have := LMc7.out; omega); intro v127 w8 ho hb hg hat; rw [← Ny126.out] at ho; have n0_ := Zs.mk (hb); have n1_ := Zs.mk (ho); clear HB; clear HO_5; have HB := n0_; have HO128 := n1_; clear n0_ n1_; clear ho hb hg hat)))
      go_roundg k1
      case measure => have := HK1.out; omega
      case rel => exact ⟨(y126), (t125), (wrap64 (x7_1 + 1)), (by first | rfl | (simp; done) | (simp [*]; done)), (by first | rfl | (simp; done) | (simp [*]; done)), H', ⟨by have := HK1.out; omega⟩, ⟨by (with_reducible repeat (first | apply Kd.R_alloc | apply Kd.R_drewN | apply Kd.R_drew)); exact HO128.out⟩, blt HB⟩
     ·rw [if_neg c7] at H
      exact absurd H (by simp)
    ·rw [if_neg c4] at H
     exact absurd H (by simp)
   ·rw [if_neg c3] at H
    have c3b0 : decide (x7_1 < (l0.length : Int)) = false := decide_eq_false c3
    clear c3
    replace H := Option.bind_eq_some_iff.mp H
    obtain ⟨t129, A9, H⟩ := H
    try dsimp only at H
    replace A9 := Zs.mk A9
    obtain rfl := Option.some.inj H
    obtain ⟨Ao10, co10, eo10⟩ := Kd.R_slice HO_5.out
    subst eo10
    go_wp2_with (first | (go_at_call 104; (with_reducible refine (r8_trim.calls k1 (fun k_ => some k_ = (.slice Ao10 x5_1.length co10 : Value).ownBlock) (.slice Ao10 x5_1.length co10) x5_1 t129 w _ ?side1 ?side2 A9.out).mono ?_); (case side1 => repeat (first | (with_reducible first | exact HB.out | apply below_alloc | apply pw_below_drewN | apply below_drew1) | exact HB.out)); (case side2 => exact Kd.R_tight rfl HO_5.out); rintro e w11 ⟨v130, rfl, ho0, hb, hkp⟩; have n0_ := Zs.mk (Kd.R_mono (ok' := fun k_ => True) ho0 (fun k_ hk_ => trivial)); have n1_ := Zs.mk (hb); clear HB; clear HO_5; have HO131 := n0_; have HB := n1_; clear n0_ n1_; (try clear hb); (try clear hkp); (try clear ho0)))
    repeat (go_quiet (first | (go_at_call 104; (with_reducible refine (r8_trim.calls k1 (fun k_ => some k_ = (.slice Ao10 x5_1.length co10 : Value).ownBlock) (.slice Ao10 x5_1.length co10) x5_1 t129 w _ ?side1 ?side2 A9.out).mono ?_); (case side1 => repeat (first | (with_reducible first | exact HB.out | apply below_alloc | apply pw_below_drewN | apply below_drew1) | exact HB.out)); (case side2 => exact Kd.R_tight rfl HO_5.out); rintro e w11 ⟨v130, rfl, ho0, hb, hkp⟩; have n0_ := Zs.mk (Kd.R_mono (ok' := fun k_ => True) ho0 (fun k_ hk_ => trivial)); have n1_ := Zs.mk (hb); clear HB; clear HO_5; have HO131 := n0_; have HB := n1_; clear n0_ n1_; (try clear hb); (try clear hkp); (try clear ho0))); try go_wp2_with (first | (go_at_call 104; (with_reducible refine (r8_trim.calls k1 (fun k_ => some k_ = (.slice Ao10 x5_1.length co10 : Value).ownBlock) (.slice Ao10 x5_1.length co10) x5_1 t129 w _ ?side1 ?side2 A9.out).mono ?_); (case side1 => repeat (first | (with_reducible first | exact HB.out | apply below_alloc | apply pw_below_drewN | apply below_drew1) | exact HB.out)); (case side2 => exact Kd.R_tight rfl HO_5.out); rintro e w11 ⟨v130, rfl, ho0, hb, hkp⟩; have n0_ := Zs.mk (Kd.R_mono (ok' := fun k_ => True) ho0 (fun k_ hk_ => trivial)); have n1_ := Zs.mk (hb); clear HB; clear HO_5; have HO131 := n0_; have HB := n1_; clear n0_ n1_; (try clear hb); (try clear hkp); (try clear ho0))))
    go_ret
    exact ⟨_, by first | rfl | (simp [errW_none, errW_some] <;> rfl) | (simp [*, errW_none, errW_some] <;> rfl), by (with_reducible repeat (first | apply Kd.R_alloc | apply Kd.R_drewN | apply Kd.R_drew)); exact HO131.out, (blt HB).out⟩
end Go.Proofs.YtmoimcblmmcffaaGreatDoor.PN
