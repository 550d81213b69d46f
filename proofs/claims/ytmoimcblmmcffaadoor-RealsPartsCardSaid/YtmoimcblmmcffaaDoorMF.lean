/- Contracts and plain laws that the laws of chapter 8 lean on (texts joined by program). -/
import Derived.Laws.FloatArith
import Derived.Lib.Hide
import Derived.Test.YtmoimcblmmcffaaDoorME

/-! Plain facts on square roots of words: to any number of digits; a REAL's root is that of its DOUBLE, rounded. No program in sight. -/
namespace Fl
open Ieee Go
set_option linter.unusedSimpArgs false
set_option linter.unusedVariables false

theorem two_pow_sq (k : Nat) : (2 : Nat) ^ (2 * k) = 4 ^ k := by rw [Nat.pow_mul]
/-- The root of a number, to any number of digits that is enough. -/
theorem root_rung (f : Format) (m : Nat) (i : Int) (hm : m ≠ 0) : ∃ S q, (Datum.number false m i).root (f.fractionBits + 2) = some (.number false S q) ∧ S ≠ 0 ∧
    ∀ K R : Nat, IsRt (m * 2 ^ (i % 2).toNat * 4 ^ K) R → 2 ^ (f.fractionBits + 2) ≤ rs (m * 2 ^ (i % 2).toNat * 4 ^ K) R → rung f S q = rung f (rs (m * 2 ^ (i % 2).toNat * 4 ^ K) R) ((i - i % 2) / 2 - 1 - K) := by
  simp only [Datum.root, hm, Bool.false_eq_true, if_false]
  generalize hmore : 2 * (f.fractionBits + 2) - m.log2 = mo
  have hpar : (i - (mo : Int)) % 2 = 0 ∨ (i - (mo : Int)) % 2 = 1 := by omega
  obtain ⟨M, hM⟩ : ∃ M, mo + ((i - (mo : Int)) % 2).toNat = M := ⟨_, rfl⟩
  rw [hM]
  have hMi : (i - (M : Int)) % 2 = 0 := by omega
  have hMp : (M : Int) % 2 = i % 2 := by omega
  obtain ⟨κ, hκ⟩ : ∃ κ, M = (i % 2).toNat + 2 * κ := ⟨M / 2, by omega⟩
  have hn : m <<< M = m * 2 ^ (i % 2).toNat * 4 ^ κ := by
    rw [Nat.shiftLeft_eq, hκ, Nat.pow_add, two_pow_sq, ← Nat.mul_assoc]
  have hroot := root_is (m <<< M)
  generalize hR0 : Datum.rootFrom (m <<< M) ((m <<< M).log2 / 2 + 1) 0 = R0 at *
  have hbig : 2 ^ (f.fractionBits + 2) ≤ R0 := by
    have h1 := Nat.log2_self_le hm
    have h2 : 2 ^ (f.fractionBits + 2) * 2 ^ (f.fractionBits + 2) ≤ m <<< M := by
      rw [Nat.shiftLeft_eq, ← Nat.pow_add]
      refine Nat.le_trans ?_ (Nat.mul_le_mul_right (2 ^ M) h1)
      rw [← Nat.pow_add]
      exact Nat.pow_le_pow_right (by decide) (by omega)
    have := sq_lt (Nat.lt_of_le_of_lt h2 hroot.2)
    omega
  have hp : 0 < 2 ^ (f.fractionBits + 2) := Nat.two_pow_pos _
  refine ⟨_, _, rfl, by omega, fun K R hK hb => ?_⟩
  rw [hn] at hroot
  rw [hn]
  have hb0 : 2 ^ (f.fractionBits + 2) ≤ rs (m * 2 ^ (i % 2).toNat * 4 ^ κ) R0 := by unfold rs; omega
  have := rung_rs f (m * 2 ^ (i % 2).toNat) κ K R0 R ((i - i % 2) / 2 - 1) hroot hK hb0 hb
  rw [← this]
  show rung f (rs (m * 2 ^ (i % 2).toNat * 4 ^ κ) R0) _ = _
  congr 1
  omega

/-- The same value: the same root. -/
theorem root_same (f : Format) {m n : Nat} {i j b : Int} (hm : m ≠ 0) (h1 : b ≤ i) (h2 : b ≤ j) (h : m * 2 ^ (i - b).toNat = n * 2 ^ (j - b).toNat) (K R : Nat) (hR : IsRt (m * 2 ^ (i % 2).toNat * 4 ^ K) R) (hb : 2 ^ (f.fractionBits + 2) ≤ rs (m * 2 ^ (i % 2).toNat * 4 ^ K) R)
    (hK : (i - j).toNat + 2 ≤ 2 * K) :
    ∃ S q, (Datum.number false n j).root (f.fractionBits + 2) = some (.number false S q) ∧ S ≠ 0 ∧ rung f S q = rung f (rs (m * 2 ^ (i % 2).toNat * 4 ^ K) R) ((i - i % 2) / 2 - 1 - K) := by
  have hn : n ≠ 0 := by
    rintro rfl
    rw [Nat.zero_mul] at h
    have := Nat.two_pow_pos (i - b).toNat
    rcases Nat.mul_eq_zero.1 h with h | h <;> omega
  obtain ⟨S, q, e1, e0, e2⟩ := root_rung f n j hn
  refine ⟨S, q, e1, e0, ?_⟩
  -- the same place for both
  obtain ⟨K', hK'⟩ : ∃ K' : Nat, (K' : Int) = K + ((j - j % 2) / 2 - (i - i % 2) / 2) := ⟨(K + ((j - j % 2) / 2 - (i - i % 2) / 2)).toNat, by omega⟩
  have hA : n * 2 ^ (j % 2).toNat * 4 ^ K' = m * 2 ^ (i % 2).toNat * 4 ^ K := by
    rw [← two_pow_sq, ← two_pow_sq, Nat.mul_assoc, Nat.mul_assoc, ← Nat.pow_add, ← Nat.pow_add]
    -- both are the value over one place
    have c1 : ((j % 2).toNat + 2 * K' : Int) - j = ((i % 2).toNat + 2 * K : Int) - i := by omega
    by_cases hle : (i - b).toNat ≤ (i % 2).toNat + 2 * K
    · obtain ⟨u, hu⟩ : ∃ u, (i % 2).toNat + 2 * K = (i - b).toNat + u := ⟨(i % 2).toNat + 2 * K - (i - b).toNat, by omega⟩
      rw [hu, show (j % 2).toNat + 2 * K' = (j - b).toNat + u from by omega, Nat.pow_add, Nat.pow_add, ← Nat.mul_assoc, ← Nat.mul_assoc, h]
    · obtain ⟨u, hu⟩ : ∃ u, (i - b).toNat = (i % 2).toNat + 2 * K + u := ⟨(i - b).toNat - ((i % 2).toNat + 2 * K), by omega⟩
      rw [hu, show (j - b).toNat = (j % 2).toNat + 2 * K' + u from by omega, Nat.pow_add 2 ((i % 2).toNat + 2 * K), Nat.pow_add 2 ((j % 2).toNat + 2 * K'), ← Nat.mul_assoc, ← Nat.mul_assoc] at h
      exact (Nat.eq_of_mul_eq_mul_right (Nat.two_pow_pos u) h).symm
  have := e2 K' R (by rw [hA]; exact hR) (by rw [hA]; exact hb)
  rw [this, hA]
  congr 1
  omega

theorem log2_le_of {n k : Nat} (h : n < 2 ^ (k + 1)) : n.log2 ≤ k := by
  by_cases h0 : n = 0
  · subst h0; simp
  · have := (Nat.log2_lt h0).2 h; omega

/-- The root of a REAL, rounded to a DOUBLE and then to a REAL. -/
theorem narrow_rung (a K R : Nat) (q : Int) (ha : a ≠ 0) (ha2 : a < 2 ^ 25) (hK : K = 100) (h : IsRt (a * 4 ^ K) R) (h1 : -200 ≤ q) (h2 : q ≤ -40) :
    rung double (rs (a * 4 ^ K) R) q < double.infRung ∧ rung single (keptOf double (rs (a * 4 ^ K) R) q) (lastOf double (rs (a * 4 ^ K) R) q) = rung single (rs (a * 4 ^ K) R) q ∧ rung single (rs (a * 4 ^ K) R) q < single.infRung ∧ 2 ^ 100 ≤ rs (a * 4 ^ K) R := by
  have hlow : 2 ^ 100 ≤ R := by
    have h3 : 2 ^ 100 * 2 ^ 100 ≤ a * 4 ^ K := by
      subst hK
      have : 1 * 4 ^ 100 ≤ a * 4 ^ 100 := Nat.mul_le_mul_right _ (by omega)
      rw [Nat.one_mul] at this
      exact this
    have := sq_lt (Nat.lt_of_le_of_lt h3 h.2)
    omega
  have hhigh : R < 2 ^ 113 := by
    have h3 : a * 4 ^ K < 2 ^ 113 * 2 ^ 113 := by
      subst hK
      have : a * 4 ^ 100 < 2 ^ 25 * 4 ^ 100 := Nat.mul_lt_mul_of_pos_right ha2 (by decide)
      exact Nat.lt_of_lt_of_le this (by decide)
    exact sq_lt (Nat.lt_of_le_of_lt h.1 h3)
  have hrs : rs (a * 4 ^ K) R = 2 * R + (R * R != a * 4 ^ K).toNat := rfl
  have hbit := bit_le (R * R != a * 4 ^ K)
  have hS1 : 2 ^ 101 ≤ rs (a * 4 ^ K) R := by omega
  have hS2 : rs (a * 4 ^ K) R < 2 ^ 114 := by omega
  have hS0 : rs (a * 4 ^ K) R ≠ 0 := by omega
  have hmid := fun D => root_middle a K R D h
  have l1 : 101 ≤ (rs (a * 4 ^ K) R).log2 := (Nat.le_log2 hS0).2 hS1
  have l2 : (rs (a * 4 ^ K) R).log2 ≤ 113 := log2_le_of hS2
  have l3 : rs (a * 4 ^ K) R < 2 ^ ((rs (a * 4 ^ K) R).log2 + 1) := Nat.lt_log2_self
  have l4 := Nat.log2_self_le hS0
  clear hrs hbit hlow hhigh hS2 h
  have hS3 : 2 ^ 100 ≤ rs (a * 4 ^ K) R := by omega
  clear hS1
  generalize rs (a * 4 ^ K) R = S at *
  obtain ⟨l, hl⟩ : ∃ l, S.log2 = l := ⟨_, rfl⟩
  rw [hl] at l1 l2 l3 l4
  obtain ⟨D, hD⟩ : ∃ D, l = 52 + D := ⟨l - 52, by omega⟩
  have hm := hmid D (by omega) (by omega) (by rw [show D + 53 = l + 1 from by omega]; exact l3)
  have htw := Lib.hid (rnd_twice S D 29 (by decide) hm)
  have hLd : lastOf double S q = q + D := by
    unfold lastOf; rw [hl, double_least]
    show max (q + (l : Int) - 52) (-1074) = q + D
    omega
  have hLs : lastOf single S q = q + D + 29 := by
    unfold lastOf; rw [hl, single_least]
    show max (q + (l : Int) - 23) (-149) = q + D + 29
    omega
  have hkd : keptOf double S q = rnd S D := by
    unfold keptOf; rw [hLd, show (q - (q + D)).toNat = 0 from by omega, show (q + D - q).toNat = D from by omega]; rfl
  have hks : keptOf single S q = rnd S (D + 29) := by
    unfold keptOf; rw [hLs, show (q - (q + D + 29)).toNat = 0 from by omega, show (q + D + 29 - q).toNat = D + 29 from by omega]; rfl
  have r1 : rnd S D ≤ 9007199254740992 := by
    refine rnd_le ?_
    rw [show (9007199254740992 : Nat) = 2 ^ 53 from rfl, ← Nat.pow_add, show 53 + D = l + 1 from by omega]; exact Nat.le_of_lt l3
  have r2 : 4503599627370496 ≤ rnd S D := by
    refine le_rnd ?_
    rw [show (4503599627370496 : Nat) = 2 ^ 52 from rfl, ← Nat.pow_add, ← hD]; exact l4
  have r3 : rnd S (D + 29) ≤ 16777216 := by
    refine rnd_le ?_
    rw [show (16777216 : Nat) = 2 ^ 24 from rfl, ← Nat.pow_add, show 24 + (D + 29) = l + 1 from by omega]; exact Nat.le_of_lt l3
  clear l3 l4 hm hmid ha ha2
  refine ⟨?_, ?_, ?_, hS3⟩
  · clear hS3; unfold rung
    rw [if_neg hS0, hLd, hkd, double_least, double_binade, double_inf]
    have : (q + D - -1074).toNat ≤ 1200 := by omega
    refine Nat.lt_of_le_of_lt (Nat.min_le_left _ _) ?_
    omega
  · clear hS3
    rw [hLd, hkd]
    have hne : rnd S D ≠ 0 := by omega
    have htw2 := htw.out
    clear htw
    generalize rnd S D = T at *
    have hs : rung single S q = min ((q + D + 29 - -149).toNat * 8388608 + rnd T 29) 2139095040 := by
      unfold rung
      rw [if_neg hS0, hLs, hks, single_least, single_binade, single_inf, ← htw2]
    rw [hs]
    by_cases c : T < 9007199254740992
    · have hlT : T.log2 = 52 := by rw [Nat.log2_eq_iff (by omega)]; exact ⟨r2, c⟩
      have hL : lastOf single T (q + D) = q + D + 29 := by
        unfold lastOf; rw [hlT, single_least]
        show max (q + D + (52 : Int) - 23) (-149) = q + D + 29
        omega
      have hk : keptOf single T (q + D) = rnd T 29 := by
        unfold keptOf; rw [hL, show (q + D - (q + D + 29)).toNat = 0 from by omega, show (q + D + 29 - (q + D)).toNat = 29 from by omega]; rfl
      unfold rung
      rw [if_neg (by omega), hL, hk, single_least, single_binade, single_inf]
    · obtain rfl : T = 9007199254740992 := by omega
      have hlT : (9007199254740992 : Nat).log2 = 53 := by rw [Nat.log2_eq_iff (by decide)]; decide
      have hL : lastOf single 9007199254740992 (q + D) = q + D + 30 := by
        unfold lastOf; rw [hlT, single_least]
        show max (q + D + (53 : Int) - 23) (-149) = q + D + 30
        omega
      have hk : keptOf single 9007199254740992 (q + D) = 8388608 := by
        unfold keptOf; rw [hL, show (q + D - (q + D + 30)).toNat = 0 from by omega, show (q + D + 30 - (q + D)).toNat = 30 from by omega]; decide
      have hk2 : rnd 9007199254740992 29 = 16777216 := by decide
      unfold rung
      rw [if_neg (by decide), hL, hk, hk2, single_least, single_binade, single_inf]
      rw [show (q + D + 30 - -149).toNat * 8388608 + 8388608 = (q + D + 29 - -149).toNat * 8388608 + 16777216 from by omega]
  · clear hS3; unfold rung
    rw [if_neg hS0, hLs, hks, single_least, single_binade, single_inf]
    have : (q + D + 29 - -149).toNat ≤ 200 := by omega
    refine Nat.lt_of_le_of_lt (Nat.min_le_left _ _) ?_
    omega
end Fl

/-! The reference's square root, as a contract. -/
namespace Go.Proofs.YtmoimcblmmcffaaDoor.NC
open Go.RowKit Go.Proofs.YtmoimcblmmcffaaDoor.B Go.Proofs.YtmoimcblmmcffaaDoor.N
set_option linter.unusedSimpArgs false
set_option linter.unusedVariables false

def rootN (n : Nat) : Nat := Ieee.Datum.rootFrom n (n.log2 / 2 + 1) 0
/-- How far the significand is shifted ahead of the root. -/
def shN (x : Int) : Nat := (120 + x % 2).toNat
/-- The square root of a value. -/
def sqrtP (s : Bool) (p : PP) (a : Nat) : Nat :=
  if p.kind = 3 ∨ (p.neg = true ∧ p.kind ≠ 0) then nanN s
  else if p.kind ≠ 1 then a
  else roundR s false (rootN (p.sig * 2 ^ shN p.exp)) ((p.exp - shN p.exp) / 2) (rootN (p.sig * 2 ^ shN p.exp) * rootN (p.sig * 2 ^ shN p.exp) != p.sig * 2 ^ shN p.exp)
def sqrtR (s : Bool) (a : Nat) : Nat := sqrtP s (partsR s a) a

set_option maxRecDepth 100000 in
set_option maxHeartbeats 8000000 in
theorem sqrtR_c (s : Bool) (a : Nat) (w : World) (ha : (a : Int) < topV s) : Calls Tryd.prog 28 #[.int .i64 (tv s), .int .u64 (a : Int)] w (Ret (.int .u64 (sqrtR s a : Int)) w) := by
  have c1 := fun w => parts_c s a w ha
  have cn := nanR_c s
  have hnn : nanV s = (nanN s : Int) := by cases s <;> rfl
  rw [hnn] at cn
  clear ha hnn
  obtain ⟨p, hp⟩ : ∃ p, partsR s a = p := ⟨_, rfl⟩
  have fp := parts_facts s a hp
  unfold sqrtR
  rw [hp]
  rw [hp] at c1
  clear hp
  obtain ⟨k1, n1, g1, x1⟩ := p
  simp only [PP.v] at c1
  obtain ⟨R, hR⟩ : ∃ R, sqrtP s ⟨k1, n1, g1, x1⟩ a = R := ⟨_, rfl⟩
  rw [hR]
  unfold sqrtP at hR
  simp only at hR fp
  have HR := Lib.hid hR
  clear hR
  have hls : leastN s = -149 ∨ leastN s = -1074 := by cases s <;> simp [leastN]
  have hms : mostN s = 104 ∨ mostN s = 971 := by cases s <;> simp [mostN]
  go_enter Tryd.func28, Tryd.ntmps28
  go_upto_region 2 with ((go_at_call 19; (with_reducible refine (c1 _).mono ?_); rintro e w1 ⟨rfl, hb1⟩))
  refine hide1 w (fun W kk0 s0 HE => ?_) (below_end)
  generalize w1.heap.size = g at *
  clear hb1 c1
  have hfin : ¬ (k1 = 1 ∧ n1 = false) ∨ (k1 = 1 ∧ n1 = false) := (Classical.em _).symm
  rcases hfin with hfin | hfin
  · have hR := HR.out
    clear HR hls hms
    rcases fp with ⟨rfl, rfl, rfl⟩ | ⟨rfl, -⟩ | ⟨rfl, rfl, rfl⟩ | ⟨rfl, rfl, rfl, rfl⟩ <;> (try (cases n1)) <;> (try (exfalso; exact hfin (by decide))) <;> clear hfin
    all_goals
      simp at hR
    all_goals
      subst hR
      go_wp2_with (first | (go_at_call 51; refine (cn _).mono ?_; rintro e w3 ⟨rfl, hb3⟩; have HE9 := HE.call hb3))
      go_ret
      first | exact ⟨rfl, Ext.end HE9⟩ | exact ⟨rfl, Ext.end HE⟩
  · obtain ⟨rfl, rfl⟩ := hfin
    clear cn
    have bp : 1 ≤ g1 ∧ g1 < 2 * lowN s ∧ -2000 ≤ x1 ∧ x1 ≤ 2000 := by
      rcases fp with ⟨h, _⟩ | ⟨_, _, h, h1, h2⟩ | ⟨h, _⟩ | ⟨h, _⟩ <;> omega
    clear fp
    have hR := HR.out
    rw [if_neg (by decide), if_neg (by decide)] at hR
    clear HR
    have m1 : g1 < 2 ^ 53 := by have := bp.2.1; cases s <;> simp [lowN] at this <;> omega
    have cn1 := fun w => nat_c w (n := g1) (by omega)
    have hl1 : (digs g1).length ≤ 20000 := by have := len4 bp.2.1; omega
    obtain ⟨par, hpar⟩ : ∃ par, x1 % 2 = par := ⟨_, rfl⟩
    have cmod := fun w => mod2_c w x1
    rw [hpar] at cmod
    obtain ⟨K, hK⟩ : ∃ K, shN x1 = K := ⟨_, rfl⟩
    rw [hK] at hR
    have hK2 : (K : Int) = 120 + par ∧ K ≤ 121 := by unfold shN at hK; omega
    obtain ⟨y, hy0⟩ : ∃ y, (x1 - (K : Int)) / 2 = y := ⟨_, rfl⟩
    rw [hy0] at hR
    have hw1 : wrap64 (120 + par) = (K : Int) := by rw [← hK2.1]; exact wr (by omega) (by omega)
    have hw2 : wrap64 (x1 - (K : Int)) = x1 - (K : Int) := wr (by omega) (by omega)
    have hw3 : Int.tdiv (x1 - (K : Int)) 2 = y := by
      obtain ⟨z, hz⟩ : ∃ z, x1 - (K : Int) = 2 * z := ⟨(x1 - K) / 2, by omega⟩
      rw [hz] at hy0 ⊢
      rw [Int.mul_tdiv_cancel_left _ (by decide)]
      omega
    have hw4 : wrap64 y = y := wr (by omega) (by omega)
    have cl : ∀ (w : World) (A : Option Addr) (c : Nat), Big w A g1 → (digs g1).length ≤ c → Calls Tryd.prog 73 #[.slice A (digs g1).length c, .int .i64 (K : Int)] w (RetBig (g1 * 2 ^ K) w) := fun w A c h hc => left_c (s := K) w h hc hl1 (by omega)
    have h6 : g1 * 2 ^ K < 2 ^ 174 := by
      have h7 : g1 * 2 ^ K < 2 ^ 53 * 2 ^ K := Nat.mul_lt_mul_of_pos_right m1 (Nat.two_pow_pos _)
      rw [← Nat.pow_add] at h7
      exact Nat.lt_of_lt_of_le h7 (Nat.pow_le_pow_right (by decide) (by omega))
    have hsl : (digs (g1 * 2 ^ K)).length ≤ 1000 := by
      have := len_bits h6
      omega
    have hrt := Fl.root_is (g1 * 2 ^ K)
    have hql : (digs (rootN (g1 * 2 ^ K))).length ≤ 1000 := by
      refine Nat.le_trans (len_mono ?_) hsl
      have h1 : rootN (g1 * 2 ^ K) * rootN (g1 * 2 ^ K) ≤ g1 * 2 ^ K := hrt.1
      exact Nat.le_trans (Nat.le_mul_self _) h1
    have ct : ∀ w A c, Big w A (g1 * 2 ^ K) → (digs (g1 * 2 ^ K)).length ≤ c → Calls Tryd.prog 72 #[.slice A (digs (g1 * 2 ^ K)).length c] w fun e w' => ∃ A c, e = .returned (.tuple #[.slice A (digs (rootN (g1 * 2 ^ K))).length c, .bool (rootN (g1 * 2 ^ K) * rootN (g1 * 2 ^ K) != g1 * 2 ^ K)]) ∧ (digs (rootN (g1 * 2 ^ K))).length ≤ c ∧ Big w' A (rootN (g1 * 2 ^ K)) ∧ Below w.heap.size w w' := by
      intro w A c hA hc
      refine (root_c w hA hc hsl).mono ?_
      rintro e w' ⟨q, A', c', hq, rfl, h⟩
      have hqq : q = rootN (g1 * 2 ^ K) := Fl.isRt_uniq hq hrt
      rw [← hqq]
      exact ⟨A', c', rfl, h⟩
    have cr := fun A c w hB hc => round_c s false (rootN (g1 * 2 ^ K)) y (rootN (g1 * 2 ^ K) * rootN (g1 * 2 ^ K) != g1 * 2 ^ K) A c w hB hc hql (by omega) (by omega)
    rw [hR] at cr
    clear hrt
    generalize (rootN (g1 * 2 ^ K) * rootN (g1 * 2 ^ K) != g1 * 2 ^ K) = more at *
    generalize rootN (g1 * 2 ^ K) = q at *
    generalize g1 * 2 ^ K = m at *
    clear hsl hls hms m1 bp hR hl1 h6 hql hpar hK hK2 hy0
    go_wp2_with (first | (go_at_call 71; refine (cmod _).mono ?_; rintro e w1 ⟨rfl, hb1⟩; have HE1 := HE.call hb1) | (go_at_call 60; (with_reducible refine (cn1 _).mono ?_); rintro e w2 ⟨A1, c1, rfl, hc1, hB1, hb2⟩; have HE2 := HE1.call hb2) | (go_at_call 73; (refine (cl _ _ _ hB1 hc1).mono ?_); rintro e w3 ⟨A3, c3, rfl, hc3, hB3, hb3⟩; have HE3 := HE2.call hb3) | (go_at_call 72; (refine (ct _ _ _ hB3 hc3).mono ?_); rintro e w4 ⟨A4, c4, rfl, hc4, hB4, hb4⟩; have HE4 := HE3.call hb4) | (go_at_call 59; refine (cr _ _ _ hB4 hc4).mono ?_; rintro e w5 ⟨rfl, hb5⟩; have HE5 := HE4.call hb5))
    go_ret
    exact ⟨rfl, Ext.end HE5⟩
end Go.Proofs.YtmoimcblmmcffaaDoor.NC

/-! The reference's differences, ranks, comparisons, extremes, as contracts. -/
namespace Go.Proofs.YtmoimcblmmcffaaDoor.NC
open Go.RowKit Go.Proofs.YtmoimcblmmcffaaDoor.B Go.Proofs.YtmoimcblmmcffaaDoor.N
set_option linter.unusedSimpArgs false
set_option linter.unusedVariables false

theorem nan_eq (s : Bool) : nanV s = (nanN s : Int) := by cases s <;> rfl
theorem top_sgn (s : Bool) : topV s = ((2 * signN s : Nat) : Int) := by cases s <;> rfl
theorem bits_lt (s : Bool) {p : PP} (hp : p.ok s) : bitsR s p < 2 * signN s ∧ (p.neg = false → bitsR s p < signN s) := by
  have hq : (fieldN s : Int) - 3 + leastN s = mostN s := by cases s <;> decide
  have hf : 3 ≤ fieldN s := by cases s <;> decide
  have hl : lowN s * fieldN s = signN s := by cases s <;> rfl
  have hn : nanN s < signN s := by cases s <;> decide
  have hp0 : 0 < lowN s := by cases s <;> decide
  have hs0 : 0 < signN s := by cases s <;> decide
  have key : ∃ r, (bitsR s p = sgnN s p.neg + r ∨ bitsR s p = r) ∧ r < signN s := by
    rcases bits_leaf hp with ⟨_, h⟩ | ⟨_, h⟩ | ⟨_, h⟩ | ⟨_, h1, h⟩ | ⟨_, h1, h2, q, h3, h4, h⟩
    · exact ⟨0, .inl (by rw [h]; rfl), hs0⟩
    · refine ⟨_, .inl h, ?_⟩
      rw [← hl]; exact Nat.mul_lt_mul_of_pos_left (by omega) hp0
    · exact ⟨_, .inr h, hn⟩
    · refine ⟨_, .inl h, ?_⟩
      have : lowN s * 1 ≤ lowN s * fieldN s := Nat.mul_le_mul_left _ (by omega)
      omega
    · refine ⟨_, .inl h, ?_⟩
      have : lowN s * (q + 3) ≤ lowN s * fieldN s := Nat.mul_le_mul_left _ (by omega)
      rw [Nat.mul_add] at this ⊢
      omega
  obtain ⟨r, h1, h2⟩ := key
  unfold sgnN at h1
  refine ⟨?_, fun hn => ?_⟩
  · rcases h1 with h1 | h1 <;> rw [h1]
    · split <;> omega
    · omega
  · rw [hn] at h1
    simp only [Bool.false_eq_true, if_false] at h1
    rcases h1 with h1 | h1 <;> rw [h1] <;> omega
theorem size_lt (s : Bool) (a : Nat) : sizeR s a < signN s := (bits_lt s (PP.ok_neg (parts_ok s a) false)).2 rfl
theorem neg_lt (s : Bool) (a : Nat) : (negR s a : Int) < topV s := by
  have := (bits_lt s (PP.ok_neg (parts_ok s a) (!(partsR s a).neg && (partsR s a).kind != 3))).1
  rw [top_sgn]
  exact Int.ofNat_lt.2 this

theorem fld0 (w : World) (k : Int) (n : Bool) (g x : Int) : (Instr.field 39 (.agg #[.int .i64 k, .bool n, .int .i64 g, .int .i64 x]) 0).run Tryd.prog w = .ok (.int .i64 k) w := by kernel_rfl
theorem fld1 (w : World) (k : Int) (n : Bool) (g x : Int) : (Instr.field 39 (.agg #[.int .i64 k, .bool n, .int .i64 g, .int .i64 x]) 1).run Tryd.prog w = .ok (.bool n) w := by kernel_rfl
def subR (s : Bool) (a b : Nat) : Nat := if (partsR s b).kind = 3 then nanN s else addR s a (negR s b)
set_option maxRecDepth 100000 in
set_option maxHeartbeats 4000000 in
theorem minus2_c (s : Bool) (a b : Nat) (w : World) (ha : (a : Int) < topV s) (hb : (b : Int) < topV s) : Calls Tryd.prog 48 #[.int .i64 (tv s), .int .u64 (a : Int), .int .u64 (b : Int)] w (Ret (.int .u64 (subR s a b : Int)) w) := by
  have c2 := fun w => parts_c s b w hb
  have cn := nanR_c s
  rw [nan_eq] at cn
  have cg := fun w => negatedR_c s b w hb
  have ca := fun w => add_c s a (negR s b) w ha (neg_lt s b)
  clear ha hb
  unfold subR
  obtain ⟨q, hq⟩ : ∃ q, partsR s b = q := ⟨_, rfl⟩
  rw [hq]
  rw [hq] at c2
  clear hq
  obtain ⟨k2, n2, g2, x2⟩ := q
  simp only [PP.v] at c2
  simp only
  generalize addR s a (negR s b) = R at *
  generalize negR s b = nb at *
  have hfd := fun w => fld0 w k2 n2 g2 x2
  by_cases hk : k2 = 3
  · subst hk
    rw [if_pos rfl]
    go_enter Tryd.func48, Tryd.ntmps48
    go_wp2_with (first | (go_at_call 19; refine (c2 _).mono ?_; rintro e w1 ⟨rfl, hb1⟩) | (go_at_call 51; refine (cn _).mono ?_; rintro e w2 ⟨rfl, hb2⟩))
    go_ret
    exact ⟨rfl, below_call hb1 hb2⟩
  · rw [if_neg hk]
    have f2 : (k2 == 3) = false := by simpa using hk
    go_enter Tryd.func48, Tryd.ntmps48
    go_wp2_with (first | (go_at_call 19; refine (c2 _).mono ?_; rintro e w1 ⟨rfl, hb1⟩) | (go_at_call 29; refine (cg _).mono ?_; rintro e w2 ⟨rfl, hb2⟩) | (go_at_call 47; refine (ca _).mono ?_; rintro e w3 ⟨rfl, hb3⟩))
    go_ret
    exact ⟨rfl, below_call (below_call hb1 hb2) hb3⟩

def rankR (s : Bool) (a : Nat) : Int := if (partsR s a).neg = true then -(sizeR s a : Int) else (sizeR s a : Int)
set_option maxRecDepth 100000 in
set_option maxHeartbeats 4000000 in
theorem rank_c (s : Bool) (a : Nat) (w : World) (ha : (a : Int) < topV s) : Calls Tryd.prog 74 #[.int .i64 (tv s), .int .u64 (a : Int)] w (Ret (.int .i64 (rankR s a)) w) := by
  have c1 := fun w => parts_c s a w ha
  have cs := fun w => sizedR_c s a w ha
  have hlt := size_lt s a
  have hsg : signN s ≤ 9223372036854775808 := by cases s <;> decide
  unfold rankR
  clear ha
  obtain ⟨q, hq⟩ : ∃ q, partsR s a = q := ⟨_, rfl⟩
  rw [hq]
  rw [hq] at c1
  clear hq
  obtain ⟨k2, n2, g2, x2⟩ := q
  simp only [PP.v] at c1
  simp only
  generalize sizeR s a = z at *
  have hw : IntKind.i64.wrap (z : Int) = (z : Int) := iwr (by omega) (by omega)
  have hw2 : wrap64 (z : Int) = (z : Int) := wr (by omega) (by omega)
  have hw3 : wrap64 (-(z : Int)) = -(z : Int) := wr (by omega) (by omega)
  clear hlt hsg
  have hfd := fun w => fld1 w k2 n2 g2 x2
  cases n2
  all_goals
    simp only [Bool.false_eq_true, if_false, if_true]
    go_enter Tryd.func74, Tryd.ntmps74
    go_wp2_with (first | (go_at_call 30; refine (cs _).mono ?_; rintro e w1 ⟨rfl, hb1⟩) | (go_at_call 19; refine (c1 _).mono ?_; rintro e w2 ⟨rfl, hb2⟩))
    go_ret
    exact ⟨by first | rfl | (show Ending.returned (.int .i64 (wrap64 (-(z : Int)))) = _; rw [hw3]), below_call hb1 hb2⟩

def cmpR (s : Bool) (a b : Nat) : Int := if (partsR s a).kind = 3 ∨ (partsR s b).kind = 3 then 2 else if rankR s a < rankR s b then -1 else if rankR s a = rankR s b then 0 else 1
set_option maxRecDepth 100000 in
set_option maxHeartbeats 4000000 in
theorem cmpR_c (s : Bool) (a b : Nat) (w : World) (ha : (a : Int) < topV s) (hb : (b : Int) < topV s) : Calls Tryd.prog 33 #[.int .i64 (tv s), .int .u64 (a : Int), .int .u64 (b : Int)] w (Ret (.int .i64 (cmpR s a b)) w) := by
  have c1 := fun w => parts_c s a w ha
  have c2 := fun w => parts_c s b w hb
  have cr1 := fun w => rank_c s a w ha
  have cr2 := fun w => rank_c s b w hb
  clear ha hb
  unfold cmpR
  obtain ⟨p, hp⟩ : ∃ p, partsR s a = p := ⟨_, rfl⟩
  obtain ⟨q, hq⟩ : ∃ q, partsR s b = q := ⟨_, rfl⟩
  rw [hp, hq]
  rw [hp] at c1
  rw [hq] at c2
  clear hp hq
  obtain ⟨k1, n1, g1, x1⟩ := p
  obtain ⟨k2, n2, g2, x2⟩ := q
  simp only [PP.v] at c1 c2
  simp only
  generalize rankR s a = r1 at *
  generalize rankR s b = r2 at *
  have bt := fun w => bit_c w true
  have bf := fun w => bit_c w false
  simp only [if_true, Bool.false_eq_true, if_false] at bt bf
  have main : ∀ R : Int, (k1 = 3 ∧ R = 2 ∨ (k1 ≠ 3 ∧ k2 = 3 ∧ R = 2) ∨ (k1 ≠ 3 ∧ k2 ≠ 3 ∧ (r1 < r2 ∧ R = -1 ∨ r1 = r2 ∧ R = 0 ∨ r2 < r1 ∧ R = 1))) → Calls Tryd.prog 33 #[.int .i64 (tv s), .int .u64 (a : Int), .int .u64 (b : Int)] w (Ret (.int .i64 R) w) := by
    intro R hR
    rcases hR with ⟨rfl, rfl⟩ | ⟨h1, rfl, rfl⟩ | ⟨h1, h2, hR⟩
    · go_enter Tryd.func33, Tryd.ntmps33
      go_upto_region 2 with (first | (go_at_call 19; (with_reducible refine (c1 _).mono ?_); rintro e w1 ⟨rfl, hb1⟩) | (go_at_call 19; (with_reducible refine (c2 _).mono ?_); rintro e w2 ⟨rfl, hb2⟩))
      refine hide2 w (fun W kk0 kk1 s0 s1 HE => ?_) (below_call hb1 hb2)
      go_wp2
      go_ret
      exact ⟨rfl, Ext.end HE⟩
    · have f1 : (k1 == 3) = false := by simpa using h1
      go_enter Tryd.func33, Tryd.ntmps33
      go_upto_region 2 with (first | (go_at_call 19; (with_reducible refine (c1 _).mono ?_); rintro e w1 ⟨rfl, hb1⟩) | (go_at_call 19; (with_reducible refine (c2 _).mono ?_); rintro e w2 ⟨rfl, hb2⟩))
      refine hide2 w (fun W kk0 kk1 s0 s1 HE => ?_) (below_call hb1 hb2)
      go_wp2
      go_ret
      exact ⟨rfl, Ext.end HE⟩
    · have f1 : (k1 == 3) = false := by simpa using h1
      have f2 : (k2 == 3) = false := by simpa using h2
      have hd : (decide (r2 < r1) = false ∧ decide (r1 < r2) = true ∧ R = -1) ∨ (decide (r2 < r1) = false ∧ decide (r1 < r2) = false ∧ R = 0) ∨ (decide (r2 < r1) = true ∧ decide (r1 < r2) = false ∧ R = 1) := by
        rcases hR with ⟨h, rfl⟩ | ⟨h, rfl⟩ | ⟨h, rfl⟩
        · left; refine ⟨decide_eq_false (by omega), decide_eq_true h, rfl⟩
        · right; left; refine ⟨decide_eq_false (by omega), decide_eq_false (by omega), rfl⟩
        · right; right; refine ⟨decide_eq_true h, decide_eq_false (by omega), rfl⟩
      clear hR
      rcases hd with ⟨d1, d2, rfl⟩ | ⟨d1, d2, rfl⟩ | ⟨d1, d2, rfl⟩
      all_goals
        go_enter Tryd.func33, Tryd.ntmps33
        go_upto_region 2 with (first | (go_at_call 19; (with_reducible refine (c1 _).mono ?_); rintro e w1 ⟨rfl, hb1⟩) | (go_at_call 19; (with_reducible refine (c2 _).mono ?_); rintro e w2 ⟨rfl, hb2⟩))
        refine hide2 w (fun W kk0 kk1 s0 s1 HE => ?_) (below_call hb1 hb2)
        clear hb1 hb2
        go_upto_region 5 with (first | (go_at_call 74; (with_reducible refine (cr1 _).mono ?_); rintro e w3 ⟨rfl, hb3⟩; have HE3 := HE.call hb3) | (go_at_call 74; (with_reducible refine (cr2 _).mono ?_); rintro e w4 ⟨rfl, hb4⟩; have HE4 := HE3.call hb4))
        go_wp2_with (first | (go_at_call 75; (with_reducible refine (bt _).mono ?_); rintro e w5 ⟨rfl, hb5⟩; have HE4 := HE4.call hb5) | (go_at_call 75; (with_reducible refine (bf _).mono ?_); rintro e w6 ⟨rfl, hb6⟩; have HE4 := HE4.call hb6))
        go_ret
        exact ⟨rfl, Ext.end HE4⟩
  refine main _ ?_
  by_cases h1 : k1 = 3
  · left; exact ⟨h1, if_pos (.inl h1)⟩
  · by_cases h2 : k2 = 3
    · right; left; exact ⟨h1, h2, if_pos (.inr h2)⟩
    · right; right
      refine ⟨h1, h2, ?_⟩
      rw [if_neg (by rintro (h | h) <;> contradiction)]
      rcases Int.lt_trichotomy r1 r2 with h | h | h
      · left; exact ⟨h, if_pos h⟩
      · right; left; exact ⟨h, by rw [if_neg (by omega), if_pos h]⟩
      · right; right; exact ⟨h, by rw [if_neg (by omega), if_neg (by omega)]⟩
end Go.Proofs.YtmoimcblmmcffaaDoor.NC

/-! The reference's extremes, operations, whole numbers, as contracts. -/
namespace Go.Proofs.YtmoimcblmmcffaaDoor.NC
open Go.RowKit Go.Proofs.YtmoimcblmmcffaaDoor.B Go.Proofs.YtmoimcblmmcffaaDoor.N
set_option linter.unusedSimpArgs false
set_option linter.unusedVariables false

def extP (great : Bool) (p q : PP) (c : Int) (a b nan : Nat) : Nat :=
  if p.kind = 3 then (if q.kind = 3 then nan else b) else if q.kind = 3 then a
  else if decide ((if c = 0 then (q.neg.toNat : Int) - p.neg.toNat else c) < 0) = great then b else a
def extR (great s : Bool) (a b : Nat) : Nat := extP great (partsR s a) (partsR s b) (cmpR s a b) a b (nanN s)
theorem cmpR_cases (s : Bool) (a b : Nat) : cmpR s a b = 2 ∨ cmpR s a b = -1 ∨ cmpR s a b = 0 ∨ cmpR s a b = 1 := by
  unfold cmpR
  split
  · exact .inl rfl
  · split
    · exact .inr (.inl rfl)
    · split
      · exact .inr (.inr (.inl rfl))
      · exact .inr (.inr (.inr rfl))

set_option maxRecDepth 100000 in
set_option maxHeartbeats 8000000 in
theorem ext_c (great s : Bool) (a b : Nat) (w : World) (ha : (a : Int) < topV s) (hb : (b : Int) < topV s) : Calls Tryd.prog 53 #[.int .i64 (tv s), .int .u64 (a : Int), .int .u64 (b : Int), .bool great] w (Ret (.int .u64 (extR great s a b : Int)) w) := by
  have c1 := fun w => parts_c s a w ha
  have c2 := fun w => parts_c s b w hb
  have cn := nanR_c s
  rw [nan_eq] at cn
  have cc := fun w => cmpR_c s a b w ha hb
  have hc := cmpR_cases s a b
  clear ha hb
  unfold extR
  obtain ⟨p, hp⟩ : ∃ p, partsR s a = p := ⟨_, rfl⟩
  obtain ⟨q, hq⟩ : ∃ q, partsR s b = q := ⟨_, rfl⟩
  rw [hp, hq]
  rw [hp] at c1
  rw [hq] at c2
  clear hp hq
  obtain ⟨k1, n1, g1, x1⟩ := p
  obtain ⟨k2, n2, g2, x2⟩ := q
  simp only [PP.v] at c1 c2
  generalize cmpR s a b = c at *
  generalize nanN s = nan at *
  have bt := fun w => bit_c w true
  have bf := fun w => bit_c w false
  simp only [if_true, Bool.false_eq_true, if_false] at bt bf
  have hm : ∀ R, extP great ⟨k1, n1, g1, x1⟩ ⟨k2, n2, g2, x2⟩ c a b nan = R → Calls Tryd.prog 53 #[.int .i64 (tv s), .int .u64 (a : Int), .int .u64 (b : Int), .bool great] w (Ret (.int .u64 (R : Int)) w) := by
    intro R hR
    unfold extP at hR
    simp only at hR
    by_cases h1 : k1 = 3
    · subst h1
      by_cases h2 : k2 = 3
      · subst h2
        simp at hR
        subst hR
        go_enter Tryd.func53, Tryd.ntmps53
        go_upto_region 2 with (first | (go_at_call 19; (with_reducible refine (c1 _).mono ?_); rintro e w1 ⟨rfl, hb1⟩) | (go_at_call 19; (with_reducible refine (c2 _).mono ?_); rintro e w2 ⟨rfl, hb2⟩))
        refine hide2 w (fun W kk0 kk1 s0 s1 HE => ?_) (below_call hb1 hb2)
        clear hb1 hb2
        go_wp2_with (go_at_call 51; refine (cn _).mono ?_; rintro e w3 ⟨rfl, hb3⟩)
        go_ret
        exact ⟨rfl, Ext.end (HE.call hb3)⟩
      · simp [h2] at hR
        subst hR
        have f2 : (k2 == 3) = false := by simpa using h2
        go_enter Tryd.func53, Tryd.ntmps53
        go_upto_region 2 with (first | (go_at_call 19; (with_reducible refine (c1 _).mono ?_); rintro e w1 ⟨rfl, hb1⟩) | (go_at_call 19; (with_reducible refine (c2 _).mono ?_); rintro e w2 ⟨rfl, hb2⟩))
        refine hide2 w (fun W kk0 kk1 s0 s1 HE => ?_) (below_call hb1 hb2)
        clear hb1 hb2
        go_wp2
        go_ret
        exact ⟨rfl, Ext.end HE⟩
    · have f1 : (k1 == 3) = false := by simpa using h1
      rw [if_neg h1] at hR
      clear h1
      by_cases h2 : k2 = 3
      · subst h2
        simp at hR
        subst hR
        go_enter Tryd.func53, Tryd.ntmps53
        go_upto_region 2 with (first | (go_at_call 19; (with_reducible refine (c1 _).mono ?_); rintro e w1 ⟨rfl, hb1⟩) | (go_at_call 19; (with_reducible refine (c2 _).mono ?_); rintro e w2 ⟨rfl, hb2⟩))
        refine hide2 w (fun W kk0 kk1 s0 s1 HE => ?_) (below_call hb1 hb2)
        clear hb1 hb2
        go_wp2
        go_ret
        exact ⟨rfl, Ext.end HE⟩
      · have f2 : (k2 == 3) = false := by simpa using h2
        rw [if_neg h2] at hR
        clear h2
        rcases hc with rfl | rfl | rfl | rfl
        · cases great <;> simp at hR <;> subst hR
          all_goals
            go_enter Tryd.func53, Tryd.ntmps53
            go_upto_region 2 with (first | (go_at_call 19; (with_reducible refine (c1 _).mono ?_); rintro e w1 ⟨rfl, hb1⟩) | (go_at_call 19; (with_reducible refine (c2 _).mono ?_); rintro e w2 ⟨rfl, hb2⟩))
            refine hide2 w (fun W kk0 kk1 s0 s1 HE => ?_) (below_call hb1 hb2)
            clear hb1 hb2
            go_wp2_with (go_at_call 33; refine (cc _).mono ?_; rintro e w3 ⟨rfl, hb3⟩; have HE3 := HE.call hb3)
            go_ret
            exact ⟨rfl, Ext.end HE3⟩
        · cases great <;> simp at hR <;> subst hR
          all_goals
            go_enter Tryd.func53, Tryd.ntmps53
            go_upto_region 2 with (first | (go_at_call 19; (with_reducible refine (c1 _).mono ?_); rintro e w1 ⟨rfl, hb1⟩) | (go_at_call 19; (with_reducible refine (c2 _).mono ?_); rintro e w2 ⟨rfl, hb2⟩))
            refine hide2 w (fun W kk0 kk1 s0 s1 HE => ?_) (below_call hb1 hb2)
            clear hb1 hb2
            go_wp2_with (go_at_call 33; refine (cc _).mono ?_; rintro e w3 ⟨rfl, hb3⟩; have HE3 := HE.call hb3)
            go_ret
            exact ⟨rfl, Ext.end HE3⟩
        · cases great <;> cases n1 <;> cases n2 <;> simp at hR <;> subst hR
          all_goals
            go_enter Tryd.func53, Tryd.ntmps53
            go_upto_region 2 with (first | (go_at_call 19; (with_reducible refine (c1 _).mono ?_); rintro e w1 ⟨rfl, hb1⟩) | (go_at_call 19; (with_reducible refine (c2 _).mono ?_); rintro e w2 ⟨rfl, hb2⟩))
            refine hide2 w (fun W kk0 kk1 s0 s1 HE => ?_) (below_call hb1 hb2)
            clear hb1 hb2
            go_upto_region 10 with (go_at_call 33; refine (cc _).mono ?_; rintro e w3 ⟨rfl, hb3⟩; have HE3 := HE.call hb3)
            generalize w2.heap.size = gg at *
            have kw0 : ∀ i, w3.cell? ⟨gg, i, none⟩ = _ := fun i => (HE3.1 gg i s0).trans (kk0 i)
            have kw1 : ∀ i, w3.cell? ⟨gg + 1, i, none⟩ = _ := fun i => (HE3.1 (gg + 1) i s1).trans (kk1 i)
            have HE4 : Ext w w3 w3 := Ext.refl HE3.2.2.2
            have hs0 : gg < w3.heap.size := Nat.lt_of_lt_of_le s0 HE3.2.2.1
            have hs1 : gg + 1 < w3.heap.size := Nat.lt_of_lt_of_le s1 HE3.2.2.1
            clear kk0 kk1 s0 s1 HE3 HE hb3 cc c1 c2
            go_region_held3 (fun w' => Ext w w3 w') (first | assumption | (with_reducible exact Ext.call (by assumption) hb5) | (with_reducible exact Ext.call (by assumption) hb6) | ((with_reducible refine Ext.drew ?_); assumption)) ((first | (go_at_call 75; (with_reducible refine (bt _).mono ?_); rintro e w5 ⟨rfl, hb5⟩) | (go_at_call 75; (with_reducible refine (bf _).mono ?_); rintro e w6 ⟨rfl, hb6⟩)))
            all_goals
              go_wp2
              go_ret
              exact ⟨rfl, Ext.end (by assumption)⟩
        · cases great <;> simp at hR <;> subst hR
          all_goals
            go_enter Tryd.func53, Tryd.ntmps53
            go_upto_region 2 with (first | (go_at_call 19; (with_reducible refine (c1 _).mono ?_); rintro e w1 ⟨rfl, hb1⟩) | (go_at_call 19; (with_reducible refine (c2 _).mono ?_); rintro e w2 ⟨rfl, hb2⟩))
            refine hide2 w (fun W kk0 kk1 s0 s1 HE => ?_) (below_call hb1 hb2)
            clear hb1 hb2
            go_wp2_with (go_at_call 33; refine (cc _).mono ?_; rintro e w3 ⟨rfl, hb3⟩; have HE3 := HE.call hb3)
            go_ret
            exact ⟨rfl, Ext.end HE3⟩
  exact hm _ rfl
end Go.Proofs.YtmoimcblmmcffaaDoor.NC

/-! The reference's operations, integers, tests, as contracts. -/
namespace Go.Proofs.YtmoimcblmmcffaaDoor.NC
open Go.RowKit Go.Proofs.YtmoimcblmmcffaaDoor.B Go.Proofs.YtmoimcblmmcffaaDoor.N
set_option linter.unusedSimpArgs false
set_option linter.unusedVariables false

theorem hide_two {P : Program} {c : Code} {Q : Exit → Act → World → Prop} {a : Act} {w w1 w2 : World} {cs cs' : Array Value} {t t' : TypeId}
    (hb1 : Below w.heap.size w w1) (hb2 : Below (w1.alloc (.cells cs t (0, 0))).heap.size (w1.alloc (.cells cs t (0, 0))) w2)
    (h : ∀ W, (∀ i, W.cell? ⟨w1.heap.size, i, none⟩ = cs[i]?) → Own W w1.heap.size cs.size → (∀ i, W.cell? ⟨w2.heap.size, i, none⟩ = cs'[i]?) → w1.heap.size < w2.heap.size → w2.heap.size < W.heap.size → Below w.heap.size w W → w.heap.size ≤ w1.heap.size → c.wp P Q a W) :
    c.wp P Q a (w2.alloc (.cells cs' t' (0, 0))) := by
  have e1 : (w1.alloc (.cells cs t (0, 0))).heap.size = w1.heap.size + 1 := by simp
  have e2 : w1.heap.size + 1 ≤ w2.heap.size := by have := hb2.size; rw [e1] at this; exact this
  have ho := ((own_new w1 cs t).call hb2).alloc (.cells cs' t' (0, 0))
  refine h _ (fun i => ?_) ho (fun i => ?_) (by omega) (by simp) ?_ hb1.size
  · have h1 := (bcell hb2).1 w1.heap.size i (by rw [e1]; omega)
    have h2 := cell_of_row (w1.alloc (.cells cs t (0, 0))) _ i cs t (0, 0) (heap_alloc_new w1 _)
    rw [h2] at h1
    rw [← h1]
    exact (bcell (below_alloc0 (Below.refl w2.heap.size w2) _)).1 w1.heap.size i (by omega)
  · rw [cell_of_row _ _ i cs' t' (0, 0) (heap_alloc_new w2 _)]
  · exact below_alloc0 (below_call (below_alloc0 hb1 _) hb2) _
def signR (s : Bool) (a b : Nat) : Nat := if (partsR s a).kind = 3 then nanN s else bitsR s { partsR s a with neg := decide (b / signN s = 1) }
def opR (op : Int) (s : Bool) (a b : Nat) : Nat :=
  if op = 0 then addR s a b else if op = 1 then subR s a b else if op = 2 then mulR s a b else if op = 3 then divR s a b else if op = 4 then signR s a b else extR (decide (op = 6)) s a b

set_option maxRecDepth 100000 in
set_option maxHeartbeats 8000000 in
theorem signR_c (s : Bool) (a b : Nat) (w : World) (ha : (a : Int) < topV s) (hb : (b : Int) < topV s) : Calls Tryd.prog 14 #[.int .i64 4, .int .i64 (tv s), .int .u64 (a : Int), .int .u64 (b : Int)] w (Ret (.int .u64 (signR s a b : Int)) w) := by
  have c1 := fun w => parts_c s a w ha
  have cn := nanR_c s
  have cf := formatOf_c s
  have hb0 : (b : Int) < ((2 * signN s : Nat) : Int) := by rw [← top_sgn]; exact hb
  rw [nan_eq] at cn
  have cb := fun w => bits_c s _ w (PP.ok_neg (parts_ok s a) (decide (b / signN s = 1)))
  clear ha hb
  unfold signR
  obtain ⟨R, hR⟩ : ∃ R, bitsR s { partsR s a with neg := decide (b / signN s = 1) } = R := ⟨_, rfl⟩
  rw [hR] at cb ⊢
  clear hR
  obtain ⟨p, hp⟩ : ∃ p, partsR s a = p := ⟨_, rfl⟩
  rw [hp] at cb ⊢
  rw [hp] at c1
  clear hp
  obtain ⟨k1, n1, g1, x1⟩ := p
  simp only [PP.v] at c1 cb
  simp only
  by_cases h1 : k1 = 3
  · subst h1
    rw [if_pos rfl]
    go_enter Tryd.func14, Tryd.ntmps14
    go_upto_region 12 with ((go_at_call 19; (with_reducible refine (c1 _).mono ?_); rintro e w1 ⟨rfl, hb1⟩))
    refine hide1 w (fun W kk0 s0 HE => ?_) (below_end)
    clear hb1 cb cf
    go_wp2_with (go_at_call 51; refine (cn _).mono ?_; rintro e w3 ⟨rfl, hb3⟩)
    go_ret
    exact ⟨rfl, Ext.end (HE.call hb3)⟩
  · rw [if_neg h1]
    have f1 : (k1 == 3) = false := by simpa using h1
    obtain ⟨z, hz⟩ : ∃ z, decide (b / signN s = 1) = z := ⟨_, rfl⟩
    rw [hz] at cb
    have hq : (s = false ∧ ((b : Int) / 9223372036854775808 == 1) = z) ∨ (s = true ∧ ((b : Int) / 2147483648 == 1) = z) := by
      rw [← hz]
      cases s
      · refine .inl ⟨rfl, ?_⟩
        show ((b : Int) / 9223372036854775808 == 1) = decide (b / 9223372036854775808 = 1)
        rw [Bool.eq_iff_iff]; simp; omega
      · refine .inr ⟨rfl, ?_⟩
        show ((b : Int) / 2147483648 == 1) = decide (b / 2147483648 = 1)
        rw [Bool.eq_iff_iff]; simp; omega
    clear hz hb0 cn
    rcases hq with ⟨rfl, hq⟩ | ⟨rfl, hq⟩
    all_goals
      unfold fmtV at cf
      go_enter Tryd.func14, Tryd.ntmps14
      go_upto_region 15 with (first | (go_at_call 19; (with_reducible refine (c1 _).mono ?_); rintro e w1 ⟨rfl, hb1⟩) | (go_at_call 52; refine (cf _).mono ?_; rintro e w2 ⟨rfl, hb2⟩))
      refine hide_two hb1 hb2 (fun W kk ho kf s0 s1 hW hw => ?_)
      clear hb1 hb2 c1 cf
      generalize w1.heap.size = g at *
      generalize w2.heap.size = gf at *
      go_upto_region 16 with (fail)
      have HB := fun v => Below.setCell hW (show w.heap.size ≤ (⟨g, 1, none⟩ : Addr).block from hw) v
      go_wp2_with (go_at_call 40; refine (cb _).mono ?_; rintro e w3 ⟨rfl, hb3⟩)
      go_ret
      exact ⟨rfl, below_call (HB _) hb3⟩

set_option maxRecDepth 100000 in
set_option maxHeartbeats 8000000 in
theorem applyR_c (op : Int) (s : Bool) (a b : Nat) (w : World) (ha : (a : Int) < topV s) (hb : (b : Int) < topV s) (h0 : 0 ≤ op) (h6 : op ≤ 6) : Calls Tryd.prog 14 #[.int .i64 op, .int .i64 (tv s), .int .u64 (a : Int), .int .u64 (b : Int)] w (Ret (.int .u64 (opR op s a b : Int)) w) := by
  have ho : op = 4 ∨ op = 0 ∨ op = 1 ∨ op = 2 ∨ op = 3 ∨ op = 5 ∨ op = 6 := by omega
  have k0 := fun w => add_c s a b w ha hb
  have k1 := fun w => minus2_c s a b w ha hb
  have k2 := fun w => mul_c s a b w ha hb
  have k3 := fun w => div_c s a b w ha hb
  have k5 := fun w => ext_c false s a b w ha hb
  have k6 := fun w => ext_c true s a b w ha hb
  rcases ho with rfl | ho
  · exact signR_c s a b w ha hb
  · clear h0 h6 ha hb
    unfold opR
    rcases ho with rfl | rfl | rfl | rfl | rfl | rfl
    all_goals
      simp only [if_true, if_false, Int.reduceEq, decide_true, decide_false, if_neg, if_pos]
      generalize addR s a b = r0 at *
      generalize subR s a b = r1 at *
      generalize mulR s a b = r2 at *
      generalize divR s a b = r3 at *
      generalize extR false s a b = r5 at *
      generalize extR true s a b = r6 at *
      go_enter Tryd.func14, Tryd.ntmps14
      go_wp2_with (first | (go_at_call 47; refine (k0 _).mono ?_; rintro e w1 ⟨rfl, hb1⟩) | (go_at_call 48; refine (k1 _).mono ?_; rintro e w1 ⟨rfl, hb1⟩) | (go_at_call 49; refine (k2 _).mono ?_; rintro e w1 ⟨rfl, hb1⟩) | (go_at_call 50; refine (k3 _).mono ?_; rintro e w1 ⟨rfl, hb1⟩) | (go_at_call 53; (with_reducible refine (k5 _).mono ?_); rintro e w1 ⟨rfl, hb1⟩) | (go_at_call 53; (with_reducible refine (k6 _).mono ?_); rintro e w1 ⟨rfl, hb1⟩))
      go_ret
      exact ⟨rfl, hb1⟩

theorem digs_one_len : (digs 1).length = 1 := by rw [digs_one]; rfl
def fromR (s : Bool) (n : Int) : Nat := roundR s (decide (n < 0)) n.natAbs 0 false
set_option maxRecDepth 100000 in
theorem fromR_c (s : Bool) (n : Int) (w : World) (h0 : -2147483648 ≤ n) (h1 : n ≤ 2147483647) : Calls Tryd.prog 22 #[.int .i64 (tv s), .int .i64 n] w (Ret (.int .u64 (fromR s n : Int)) w) := by
  have cs := fun w => size_c w n (by omega) (by omega)
  have cn := fun w => nat_c w (n := n.natAbs) (by omega)
  have hl : (digs n.natAbs).length ≤ 1000 := by
    have h2 : n.natAbs < 2 ^ 32 := by omega
    have := len_bits h2
    omega
  have cr := fun A c w hB hc => round_c s (decide (n < 0)) n.natAbs 0 false A c w hB hc hl (by decide) (by decide)
  unfold fromR
  generalize roundR s (decide (n < 0)) n.natAbs 0 false = R at *
  obtain ⟨z, hz⟩ : ∃ z, decide (n < 0) = z := ⟨_, rfl⟩
  rw [hz] at cr
  clear hl h0 h1
  generalize n.natAbs = m at *
  go_enter Tryd.func22, Tryd.ntmps22
  go_wp2_with (first | (go_at_call 65; refine (cs _).mono ?_; rintro e w1 ⟨rfl, hb1⟩) | (go_at_call 60; refine (cn _).mono ?_; rintro e w2 ⟨A2, c2, rfl, hc2, hB2, hb2⟩) | (go_at_call 59; refine (cr _ _ _ hB2 hc2).mono ?_; rintro e w3 ⟨rfl, hb3⟩))
  go_ret
  exact ⟨rfl, below_call (below_call hb1 hb2) hb3⟩

def isNumR (s : Bool) (a : Nat) : Bool := (partsR s a).kind == 0 || (partsR s a).kind == 1
theorem isNum_c (s : Bool) (a : Nat) (w : World) (ha : (a : Int) < topV s) : Calls Tryd.prog 36 #[.int .i64 (tv s), .int .u64 (a : Int)] w (Ret (.bool (isNumR s a)) w) := by
  have c1 := fun w => parts_c s a w ha
  clear ha
  unfold isNumR
  obtain ⟨q, hq⟩ : ∃ q, partsR s a = q := ⟨_, rfl⟩
  rw [hq]
  rw [hq] at c1
  clear hq
  obtain ⟨k2, n2, g2, x2⟩ := q
  simp only [PP.v] at c1
  have hfd := fun w => fld0 w k2 n2 g2 x2
  generalize tv s = t at *
  by_cases h : k2 = 0
  · subst h
    go_enter Tryd.func36, Tryd.ntmps36
    go_wp2_with ((go_at_call 19; refine (c1 _).mono ?_; rintro e w2 ⟨rfl, hb2⟩))
    go_ret
    exact ⟨rfl, hb2⟩
  · have f : (k2 == 0) = false := by simpa using h
    have f3 : ((k2 == 0) || (k2 == 1)) = (k2 == 1) := by rw [f]; rfl
    show Calls _ _ _ _ (Ret (.bool ((k2 == 0) || (k2 == 1))) w)
    rw [f3]
    clear f3
    go_enter Tryd.func36, Tryd.ntmps36
    go_wp2_with ((go_at_call 19; refine (c1 _).mono ?_; rintro e w2 ⟨rfl, hb2⟩))
    go_ret
    exact ⟨rfl, hb2⟩
end Go.Proofs.YtmoimcblmmcffaaDoor.NC

/-! The reference's parts, bits and rounding are those of IEEE words. No walk here. -/
namespace Go.Proofs.YtmoimcblmmcffaaDoor.NC
open Go.RowKit Go.Proofs.YtmoimcblmmcffaaDoor.B Go.Proofs.YtmoimcblmmcffaaDoor.N
set_option linter.unusedSimpArgs false
set_option linter.unusedVariables false

abbrev fm (s : Bool) : Ieee.Format := (fkOf s).format
theorem fm_binade (s : Bool) : (fm s).binade = lowN s := by cases s <;> decide
theorem fm_least (s : Bool) : (fm s).leastPlace = leastN s := by cases s <;> decide
theorem fm_sign (s : Bool) : (fm s).signWeight = signN s := by cases s <;> decide
theorem fm_inf (s : Bool) : (fm s).infRung = lowN s * (fieldN s - 1) := by cases s <;> decide
theorem fm_prec (s : Bool) : precN s = (fm s).fractionBits + 1 := by cases s <;> rfl
theorem low_prec (s : Bool) : 2 ^ precN s = 2 * lowN s := by cases s <;> rfl
theorem low_pos (s : Bool) : 0 < lowN s := by cases s <;> decide
theorem field_three (s : Bool) : 3 ≤ fieldN s := by cases s <;> decide
theorem low_field (s : Bool) : lowN s * fieldN s = signN s := by cases s <;> rfl
theorem most_field (s : Bool) : (fieldN s : Int) - 3 + leastN s = mostN s := by cases s <;> decide
theorem fm_word (s neg : Bool) (r : Nat) : (fm s).word neg r = sgnN s neg + r := by
  unfold Ieee.Format.word sgnN
  rw [fm_sign]
  cases neg <;> simp
theorem inf_ge (s : Bool) : (fm s).binade ≤ (fm s).infRung := by cases s <;> decide

/-- What a word is, as the reference's parts and as a datum. -/
inductive Told (s : Bool) (a : Nat) : PP → Prop
  | zero (neg : Bool) (h : a = (fm s).word neg 0) (hr : (fm s).read a = .number neg 0 (leastN s)) : Told s a ⟨0, neg, 0, 0⟩
  | fin (neg : Bool) (m : Nat) (e : Int) (r : Nat) (h0 : 0 < r) (h1 : r < (fm s).infRung) (h : a = (fm s).word neg r) (hm : 1 ≤ m) (hm2 : m < 2 * lowN s) (he : leastN s ≤ e) (he2 : e ≤ mostN s) (hb : ∀ n, bitsR s ⟨1, n, m, e⟩ = (fm s).word n r) (hr : (fm s).read a = .number neg m e) : Told s a ⟨1, neg, m, e⟩
  | inf (neg : Bool) (h : a = (fm s).word neg (fm s).infRung) (hr : (fm s).read a = .infinity neg) : Told s a ⟨2, neg, 0, 0⟩
  | nan (neg : Bool) (r t : Nat) (n : Bool) (h0 : (fm s).infRung < r) (h1 : r < signN s) (h : a = (fm s).word neg r) (hr : (fm s).read a = .nan n t) : Told s a ⟨3, false, 0, 0⟩

theorem told (s : Bool) (a : Nat) (ha : a < 2 * signN s) : Told s a (partsR s a) := by
  have hl := low_pos s
  have hf3 := field_three s
  have hlf := low_field s
  have hmf := most_field s
  have hr : a % lowN s < lowN s := Nat.mod_lt _ hl
  have hf : a / lowN s % fieldN s < fieldN s := Nat.mod_lt _ (by omega)
  have hrung : a % signN s = a % lowN s + lowN s * (a / lowN s % fieldN s) := by rw [← hlf, Nat.mod_mul]
  have hdiv : a / lowN s / fieldN s = a / signN s := by rw [Nat.div_div_eq_div_mul, hlf]
  have hs0 : 0 < signN s := by cases s <;> decide
  have hd2 : a / signN s < 2 := (Nat.div_lt_iff_lt_mul hs0).2 ha
  have hneg : (a / signN s % 2 == 1) = decide (a / lowN s / fieldN s = 1) := by
    rw [hdiv, Nat.mod_eq_of_lt hd2]
    rw [Bool.eq_iff_iff]; simp
  have hword : a = (fm s).word (decide (a / lowN s / fieldN s = 1)) (a % signN s) := by
    rw [fm_word, hdiv]
    unfold sgnN
    have e := Nat.div_add_mod a (signN s)
    by_cases h1 : a / signN s = 1
    · rw [decide_eq_true h1, if_pos rfl]; rw [h1, Nat.mul_one] at e; omega
    · rw [decide_eq_false h1, if_neg (by decide)]
      have h0 : a / signN s = 0 := (by omega : ∀ q : Nat, q < 2 → ¬ q = 1 → q = 0) _ hd2 h1
      rw [h0, Nat.mul_zero] at e; omega
  have hread : (fm s).read a = if a % signN s < lowN s then .number (decide (a / lowN s / fieldN s = 1)) (a % signN s) (leastN s)
      else if a % signN s < lowN s * (fieldN s - 1) then .number (decide (a / lowN s / fieldN s = 1)) (lowN s + a % signN s % lowN s) (leastN s + (a % signN s / lowN s - 1 : Nat))
      else if a % signN s = lowN s * (fieldN s - 1) then .infinity (decide (a / lowN s / fieldN s = 1)) else .nan (decide (a / lowN s / fieldN s = 1)) (a % signN s - lowN s * (fieldN s - 1)) := by
    unfold Ieee.Format.read
    simp only [fm_binade, fm_least, fm_sign, fm_inf, hneg]
  have hlt : a % signN s < signN s := Nat.mod_lt _ hs0
  unfold partsR
  generalize decide (a / lowN s / fieldN s = 1) = neg at *
  generalize a / lowN s % fieldN s = f at *
  have hdv : a % signN s / lowN s = f := by rw [hrung, Nat.add_mul_div_left _ _ hl, Nat.div_eq_of_lt hr, Nat.zero_add]
  have hmd : a % signN s % lowN s = a % lowN s := by rw [hrung, Nat.add_mul_mod_self_left, Nat.mod_mod]
  have hfin := fm_inf s
  rw [hdv, hmd] at hread
  generalize a % signN s = u at *
  generalize a % lowN s = r at *
  clear hneg hdiv hd2 hdv hmd
  have hcase := parts_leaf (s := s) (f := f) (r := r) (neg := neg) rfl
  rcases hcase with ⟨h1, h2, h⟩ | ⟨h1, h2, h⟩ | ⟨h1, h2, h3, h⟩ | ⟨h1, h2, h3, h⟩ | ⟨h1, h2, h⟩ <;> rw [h]
  · subst h2
    have hu : u = lowN s * (fieldN s - 1) := by rw [hrung, show fieldN s - 1 = f from by omega]; omega
    have hge : lowN s * 1 ≤ lowN s * (fieldN s - 1) := Nat.mul_le_mul_left _ (by omega)
    rw [if_neg (by omega), if_neg (by omega), if_pos hu] at hread
    refine .inf neg ?_ hread
    rw [hfin, ← hu]; exact hword
  · have hu : u = r + lowN s * (fieldN s - 1) := by rw [hrung, show fieldN s - 1 = f from by omega]
    have hge : lowN s * 1 ≤ lowN s * (fieldN s - 1) := Nat.mul_le_mul_left _ (by omega)
    rw [if_neg (by omega), if_neg (by omega), if_neg (by omega)] at hread
    exact .nan neg u _ neg (by rw [hfin]; omega) hlt hword hread
  · subst h2 h3
    have hu : u = 0 := by rw [hrung]; omega
    rw [hu] at hread hword
    rw [if_pos hl] at hread
    exact .zero neg hword hread
  · subst h2
    have hu : u = r := by rw [hrung]; omega
    have hge : lowN s * 1 ≤ lowN s * (fieldN s - 1) := Nat.mul_le_mul_left _ (by omega)
    rw [hu] at hread hword
    rw [if_pos hr] at hread
    exact .fin neg r (leastN s) r (by omega) (by rw [hfin]; omega) hword (by omega) (by omega) (Int.le_refl _) (by omega) (fun n => by
      rw [fm_word]
      unfold bitsR sgnN
      simp [hr]) hread
  · have hge : lowN s * 1 ≤ lowN s * f := Nat.mul_le_mul_left _ (by omega)
    have hlt2 : lowN s * (f + 1) ≤ lowN s * (fieldN s - 1) := Nat.mul_le_mul_left _ (by omega)
    rw [Nat.mul_add] at hlt2
    rw [if_neg (by omega), if_pos (by omega)] at hread
    have e1 : leastN s + ((f - 1 : Nat) : Int) = (f : Int) - 1 + leastN s := by omega
    rw [e1, Nat.add_comm (lowN s) r] at hread
    exact .fin neg (r + lowN s) ((f : Int) - 1 + leastN s) u (by omega) (by rw [hfin]; omega) hword (by omega) (by omega) (by omega) (by omega) (fun n => by
      rw [fm_word]
      unfold bitsR sgnN
      have n1 : ¬ r + lowN s < lowN s := by omega
      simp only [n1, if_false]
      rw [show ((f : Int) - 1 + leastN s - leastN s + 1).toNat = f from by omega]
      simp
      omega) hread
end Go.Proofs.YtmoimcblmmcffaaDoor.NC

/-! The reference's rounding is IEEE's; sums, differences, products, quotients, roots of the reference are the program's. No walk here. -/
namespace Go.Proofs.YtmoimcblmmcffaaDoor.NC
open Go.RowKit Go.Proofs.YtmoimcblmmcffaaDoor.B Go.Proofs.YtmoimcblmmcffaaDoor.N
set_option linter.unusedSimpArgs false
set_option linter.unusedVariables false

theorem bits_zero (s neg : Bool) : bitsR s ⟨0, neg, 0, 0⟩ = (fm s).word neg 0 := by
  rw [fm_word]; unfold bitsR sgnN; simp
theorem bits_inf (s neg : Bool) : bitsR s ⟨2, neg, 0, 0⟩ = (fm s).word neg (fm s).infRung := by
  rw [fm_word, fm_inf]; unfold bitsR sgnN; simp
theorem bits_nan (s neg : Bool) : bitsR s ⟨3, neg, 0, 0⟩ = nanN s := by unfold bitsR; simp

theorem bits_log (m : Nat) (h : m ≠ 0) : N.bits m = m.log2 + 1 := by unfold N.bits; rw [if_neg h]
theorem round_zero (s neg : Bool) (e : Int) (more : Bool) : roundR s neg 0 e more = (fm s).word neg 0 := by
  unfold roundR; rw [if_pos rfl, bits_zero]
/-- The reference rounds as IEEE 754 does. -/
theorem round_word (s neg : Bool) (m : Nat) (e : Int) (more : Bool) (hm : m ≠ 0) : roundR s neg m e more = (fm s).word neg (Fl.rung (fm s) (m * 8 + more.toNat) (e - 3)) := by
  have hm1 : m * 8 + more.toNat ≠ 0 := by omega
  unfold roundR
  rw [if_neg hm]
  simp only [moreOf]
  generalize m * 8 + more.toNat = M at *
  generalize e - 3 = E at *
  have hplace : placeOf s M E = Fl.lastOf (fm s) M E := by
    unfold placeOf Fl.lastOf
    rw [bits_log M hm1, fm_prec, fm_least]
    congr 1; omega
  have hkept : keptOf M E (Fl.lastOf (fm s) M E) = Fl.keptOf (fm s) M E := by
    unfold keptOf Fl.keptOf
    generalize Fl.lastOf (fm s) M E = L
    by_cases h : L ≤ E
    · rw [if_pos h, show (L - E).toNat = 0 from by omega, Fl.rnd_zero, Nat.shiftLeft_eq]
    · rw [if_neg h, show (E - L).toNat = 0 from by omega, Nat.shiftLeft_eq, Nat.pow_zero, Nat.mul_one]
  obtain ⟨r1, r2⟩ := Fl.kept_range (fm s) hm1 E
  have r3 := Fl.last_ge (fm s) M E
  rw [hplace, hkept]
  unfold Fl.rung
  rw [if_neg hm1]
  rw [fm_binade, fm_least] at *
  generalize Fl.lastOf (fm s) M E = L at *
  generalize Fl.keptOf (fm s) M E = k at *
  have hl := low_pos s
  have hlp := low_prec s
  have hmf := most_field s
  have hf3 := field_three s
  rw [fm_inf, fm_word]
  -- the kept digits lie below the precision, but for a carry
  have hov : overOf s k L = if k = 2 * lowN s then (lowN s, L + 1) else (k, L) := by
    unfold overOf
    by_cases hk0 : k = 0
    · subst hk0
      rw [if_neg (by unfold N.bits; simp), if_neg (by omega)]
    · rw [bits_log k hk0]
      have hb : precN s < k.log2 + 1 ↔ 2 * lowN s ≤ k := by
        rw [← hlp, ← Nat.le_log2 hk0]; omega
      by_cases h2 : k = 2 * lowN s
      · rw [if_pos (hb.2 (by omega)), if_pos h2, h2]; simp
      · rw [if_neg (fun h => h2 (by have := hb.1 h; omega)), if_neg h2]
  rw [hov]
  have hpos : ∀ (m : Nat) (e : Int), m ≠ 0 → m < 2 * lowN s → leastN s ≤ e → (leastN s < e → lowN s ≤ m) → bitsR s (packOf s neg m e) = sgnN s neg + min ((e - leastN s).toNat * lowN s + m) (lowN s * (fieldN s - 1)) := by
    intro m e h0 h1 h2 h3
    unfold packOf
    rw [if_neg h0]
    by_cases hbig : e > mostN s
    · rw [if_pos hbig]
      have hlow : lowN s ≤ m := h3 (by omega)
      have hge : lowN s * (fieldN s - 1) ≤ (e - leastN s).toNat * lowN s + m := by
        have : (fieldN s - 2) * lowN s ≤ (e - leastN s).toNat * lowN s := Nat.mul_le_mul_right _ (by omega)
        rw [show fieldN s - 1 = fieldN s - 2 + 1 from by omega, Nat.mul_comm, Nat.add_mul, Nat.one_mul]
        omega
      rw [Nat.min_eq_right hge, bits_inf, fm_word, fm_inf]
    · rw [if_neg hbig]
      unfold bitsR sgnN
      simp only [Int.reduceEq, if_false]
      congr 1
      by_cases hlow : m < lowN s
      · have he : e = leastN s := by
          rcases Int.lt_or_le (leastN s) e with h | h
          · have := h3 h; omega
          · omega
        rw [if_pos hlow, he, Int.sub_self]
        have : lowN s * 1 ≤ lowN s * (fieldN s - 1) := Nat.mul_le_mul_left _ (by omega)
        simp; omega
      · rw [show (e - leastN s + 1).toNat = (e - leastN s).toNat + 1 from by omega]
        have : ((e - leastN s).toNat + 2) * lowN s ≤ (fieldN s - 1) * lowN s := Nat.mul_le_mul_right _ (by omega)
        rw [Nat.mul_comm (lowN s) (fieldN s - 1), Nat.mul_comm (lowN s)]
        rw [Nat.add_mul] at this ⊢
        rw [if_neg hlow]
        omega
  by_cases hk0 : k = 0
  · subst hk0
    have hL : L = leastN s := by
      rcases Int.lt_or_le (leastN s) L with h | h
      · have := r2 h; omega
      · omega
    rw [if_neg (by omega), hL, Int.sub_self]
    unfold packOf
    rw [if_pos rfl]
    unfold bitsR sgnN
    simp
  · by_cases h2 : k = 2 * lowN s
    · rw [if_pos h2]
      rw [hpos (lowN s) (L + 1) (by omega) (by omega) (by omega) (fun _ => Nat.le_refl _), h2, show (L + 1 - leastN s).toNat = (L - leastN s).toNat + 1 from by omega, Nat.add_mul]
      congr 2; omega
    · rw [if_neg h2]
      exact hpos k L hk0 (by omega) r3 r2
theorem round_exact (s neg : Bool) (m : Nat) (e : Int) : roundR s neg m e false = (fm s).word neg (Fl.rung (fm s) m e) := by
  by_cases hm : m = 0
  · subst hm; rw [round_zero, Fl.rung_zero]
  · rw [round_word s neg m e false hm]
    have := Fl.rung_scale (fm s) m 3 (e - 3)
    rw [show e - 3 + ((3 : Nat) : Int) = e from by omega] at this
    simp only [Bool.toNat_false, Nat.add_zero]
    rw [← this]
theorem round_near (s neg : Bool) (m : Nat) (e : Int) : roundR s neg m e false = (fm s).nearest neg m e := by rw [round_exact, Fl.nearest_rung]

/-! ### Words that are clean -/
theorem word_lt (s neg : Bool) {r : Nat} (h : r < signN s) : (fm s).word neg r < 2 * signN s := by
  rw [fm_word]; unfold sgnN; cases neg <;> simp <;> omega
theorem word_mod (s neg : Bool) {r : Nat} (h : r < signN s) : (((fm s).word neg r : Nat) : Int) % signV s = (r : Int) := by
  have hs : signV s = (signN s : Int) := by cases s <;> rfl
  rw [hs, fm_word]
  unfold sgnN
  have : (sgnN s neg + r) % signN s = r := by
    unfold sgnN
    cases neg
    · simp [Nat.mod_eq_of_lt h]
    · simp [Nat.mod_eq_of_lt h]
  unfold sgnN at this
  exact_mod_cast this
theorem inf_lt (s : Bool) : (fm s).infRung < signN s := by cases s <;> decide
theorem infV_eq (s : Bool) : infV s = ((fm s).infRung : Int) := by cases s <;> decide
theorem nothing_word (s neg : Bool) {r : Nat} (h : r < signN s) : nothingV s ((fm s).word neg r : Nat) = decide ((fm s).infRung < r) := by
  rw [nothing_iff s _ (by omega) (by rw [top_sgn]; exact_mod_cast word_lt s neg h), word_mod s neg h, infV_eq]
  exact decide_eq_decide.2 (by omega)
theorem clean_word (s neg : Bool) {r : Nat} (h : r ≤ (fm s).infRung) : cleanV s ((fm s).word neg r : Nat) = ((fm s).word neg r : Nat) := by
  unfold cleanV
  rw [nothing_word s neg (Nat.lt_of_le_of_lt h (inf_lt s)), decide_eq_false (by omega)]
  simp
theorem clean_near (s neg : Bool) (m : Nat) (e : Int) : cleanV s ((fm s).nearest neg m e : Nat) = ((fm s).nearest neg m e : Nat) := by
  rw [Fl.nearest_rung]; exact clean_word s neg (Fl.rung_le _ _ _)
end Go.Proofs.YtmoimcblmmcffaaDoor.NC

/-! Sums, products, quotients, roots of the reference are the program's. No walk here. -/
namespace Go.Proofs.YtmoimcblmmcffaaDoor.NC
open Go.RowKit Go.Proofs.YtmoimcblmmcffaaDoor.B Go.Proofs.YtmoimcblmmcffaaDoor.N
set_option linter.unusedSimpArgs false
set_option linter.unusedVariables false

theorem sg_zero (s : Bool) (k : Nat) : Ieee.signed s 0 k = 0 := by unfold Ieee.signed; simp
theorem sg_val (s : Bool) (m : Nat) : Ieee.signed s m 0 = if s then -(m : Int) else (m : Int) := by unfold Ieee.signed; simp
theorem sumX_total (a : Bool) (x : Nat) (b : Bool) (y : Nat) : sumX a x b y = (decide (Ieee.signed a x 0 + Ieee.signed b y 0 < 0), (Ieee.signed a x 0 + Ieee.signed b y 0).natAbs) := by
  rw [sg_val, sg_val]
  unfold sumX
  cases a <;> cases b <;> simp only [if_true, if_false, Bool.false_eq_true, Bool.true_eq_false, Bool.false_and, Bool.true_and, reduceCtorEq]
  · rw [decide_eq_false (by omega)]; congr 1 <;> omega
  · by_cases h : x < y
    · rw [if_pos h, decide_eq_true (by omega)]; congr 1 <;> omega
    · rw [if_neg h, decide_eq_false (by omega)]; congr 1 <;> omega
  · by_cases h : x < y
    · rw [if_pos h, decide_eq_false (by omega)]; congr 1 <;> omega
    · rw [if_neg h]
      by_cases h2 : x = y
      · rw [decide_eq_false (by omega), decide_eq_false (by omega)]; congr 1 <;> omega
      · rw [decide_eq_true (by omega), decide_eq_true (by omega)]; congr 1 <;> omega
  · by_cases h : x + y = 0
    · rw [decide_eq_false (by omega), decide_eq_false (by omega)]; congr 1 <;> omega
    · rw [decide_eq_true (by omega), decide_eq_true (by omega)]; congr 1 <;> omega

/-- A result that is a number, or none. -/
theorem res_num {s : Bool} {op : BinOp} {a b : Nat} {n : Bool} {m : Nat} {e : Int} (h : floatBits op (fkOf s) a b = some ((fm s).nearest n m e)) : resV s op a b = ((fm s).nearest n m e : Nat) := by
  unfold resV; rw [h]; exact clean_near s n m e
theorem res_inf {s : Bool} {op : BinOp} {a b : Nat} {n : Bool} (h : floatBits op (fkOf s) a b = some ((fm s).word n (fm s).infRung)) : resV s op a b = (bitsR s ⟨2, n, 0, 0⟩ : Nat) := by
  unfold resV; rw [h, bits_inf]; exact clean_word s n (Nat.le_refl _)
theorem res_nan {s : Bool} {op : BinOp} {a b : Nat} (h : floatBits op (fkOf s) a b = none) : resV s op a b = (nanN s : Nat) := by
  unfold resV; rw [h]; exact nan_eq s

theorem near_shift (s n : Bool) (g : Nat) (x e : Int) (h : e ≤ x) : (fm s).nearest n (g * 2 ^ (x - e).toNat) e = (fm s).nearest n g x := by
  rw [Fl.nearest_rung, Fl.nearest_rung, Fl.rung_scale]
  congr 2; omega
theorem near_zero (s n : Bool) (e : Int) : (fm s).nearest n 0 e = bitsR s ⟨0, n, 0, 0⟩ := by
  rw [Fl.nearest_rung, Fl.rung_zero, bits_zero]
theorem natAbs_sg (s : Bool) (m k : Nat) : (Ieee.signed s m k).natAbs = m * 2 ^ k ∧ (0 < m → decide (Ieee.signed s m k < 0) = s) ∧ (0 < m → Ieee.signed s m k ≠ 0) := by
  rw [Fl.signed_eq, sg_val]
  have hp : 0 < 2 ^ k := Nat.two_pow_pos _
  have hq : 0 < m → 0 < m * 2 ^ k := fun h => Nat.mul_pos h hp
  generalize m * 2 ^ k = z at *
  refine ⟨?_, fun h => ?_, fun h => ?_⟩
  · cases s <;> simp
  · have := hq h
    cases s <;> simp <;> omega
  · have := hq h
    cases s <;> simp <;> omega

/-- Sums. -/
theorem add_told {s : Bool} {a b : Nat} {p q : PP} (ha : Told s a p) (hb : Told s b q) : resV s .add a b = (addP s p q : Nat) := by
  have hf : floatBits .add (fkOf s) a b = ((((fm s).read a).sum ((fm s).read b)).map (fm s).write) := rfl
  unfold addP
  cases ha with
  | nan n1 r1 t1 u1 h10 h11 h1 hr1 =>
    simp only [true_or, if_true]
    refine res_nan ?_
    rw [hf, hr1]; rfl
  | inf n1 h1 hr1 =>
    cases hb with
    | nan n2 r2 t2 u2 h20 h21 h2 hr2 =>
      simp only [or_true, if_true]
      refine res_nan ?_
      rw [hf, hr1, hr2]; rfl
    | inf n2 h2 hr2 =>
      simp only [Int.reduceEq, or_self, if_false, if_true, true_and]
      by_cases hn : n1 = n2
      · subst hn
        simp only [ne_eq, not_true_eq_false, if_false]
        refine res_inf ?_
        rw [hf, hr1, hr2]
        show Option.map _ (if n1 = n1 then some (Ieee.Datum.infinity n1) else none) = _
        rw [if_pos rfl]; rfl
      · simp only [ne_eq, hn, not_false_eq_true, if_true]
        refine res_nan ?_
        rw [hf, hr1, hr2]
        show Option.map _ (if n1 = n2 then some (Ieee.Datum.infinity n1) else none) = _
        rw [if_neg hn]; rfl
    | zero n2 h2 hr2 =>
      simp only [Int.reduceEq, or_self, if_false, if_true, false_and]
      refine res_inf ?_
      rw [hf, hr1, hr2]; rfl
    | fin n2 m2 e2 r2 h20 h21 h2 hm2 hm22 he2 he22 hb2 hr2 =>
      simp only [Int.reduceEq, or_self, if_false, if_true, false_and]
      refine res_inf ?_
      rw [hf, hr1, hr2]; rfl
  | zero n1 h1 hr1 =>
    cases hb with
    | nan n2 r2 t2 u2 h20 h21 h2 hr2 =>
      simp only [or_true, if_true]
      refine res_nan ?_
      rw [hf, hr1, hr2]; rfl
    | inf n2 h2 hr2 =>
      simp only [Int.reduceEq, or_self, if_false, if_true]
      refine res_inf ?_
      rw [hf, hr1, hr2]; rfl
    | zero n2 h2 hr2 =>
      simp only [Int.reduceEq, or_self, if_false, if_true, and_self]
      rw [← near_zero s (n1 && n2) (leastN s)]
      refine res_num ?_
      rw [hf, hr1, hr2]
      show some ((fm s).nearest _ _ _) = _
      simp only [sg_zero, Int.add_zero, if_true, Int.natAbs_zero, Int.min_self]
    | fin n2 m2 e2 r2 h20 h21 h2 hm2 hm22 he2 he22 hb2 hr2 =>
      simp only [Int.reduceEq, or_self, if_false, and_false, Nat.zero_mul]
      rw [sumX_total, round_near]
      simp only [sg_zero, Int.zero_add]
      obtain ⟨k1, k2, k3⟩ := natAbs_sg n2 (m2 * 2 ^ (e2 - min 0 e2).toNat) 0
      have hpos : 0 < m2 * 2 ^ (e2 - min 0 e2).toNat := Nat.mul_pos hm2 (Nat.two_pow_pos _)
      rw [k1, k2 hpos, Nat.pow_zero, Nat.mul_one, near_shift s n2 m2 e2 _ (by omega)]
      obtain ⟨j1, j2, j3⟩ := natAbs_sg n2 m2 (e2 - min (leastN s) e2).toNat
      rw [← near_shift s n2 m2 e2 (min (leastN s) e2) (by omega), ← j1]
      refine res_num ?_
      rw [hf, hr1, hr2]
      show some ((fm s).nearest _ _ _) = _
      simp only [sg_zero, Int.zero_add]
      rw [if_neg (j3 hm2), j2 hm2]
  | fin n1 m1 e1 r1 h10 h11 h1 hm1 hm12 he1 he12 hb1 hr1 =>
    cases hb with
    | nan n2 r2 t2 u2 h20 h21 h2 hr2 =>
      simp only [or_true, if_true]
      refine res_nan ?_
      rw [hf, hr1, hr2]; rfl
    | inf n2 h2 hr2 =>
      simp only [Int.reduceEq, or_self, if_false, if_true]
      refine res_inf ?_
      rw [hf, hr1, hr2]; rfl
    | zero n2 h2 hr2 =>
      simp only [Int.reduceEq, or_self, if_false, false_and, Nat.zero_mul]
      rw [sumX_total, round_near]
      simp only [sg_zero, Int.add_zero]
      obtain ⟨k1, k2, k3⟩ := natAbs_sg n1 (m1 * 2 ^ (e1 - min e1 0).toNat) 0
      have hpos : 0 < m1 * 2 ^ (e1 - min e1 0).toNat := Nat.mul_pos hm1 (Nat.two_pow_pos _)
      rw [k1, k2 hpos, Nat.pow_zero, Nat.mul_one, near_shift s n1 m1 e1 _ (by omega)]
      obtain ⟨j1, j2, j3⟩ := natAbs_sg n1 m1 (e1 - min e1 (leastN s)).toNat
      rw [← near_shift s n1 m1 e1 (min e1 (leastN s)) (by omega), ← j1]
      refine res_num ?_
      rw [hf, hr1, hr2]
      show some ((fm s).nearest _ _ _) = _
      simp only [sg_zero, Int.add_zero]
      rw [if_neg (j3 hm1), j2 hm1]
    | fin n2 m2 e2 r2 h20 h21 h2 hm2 hm22 he2 he22 hb2 hr2 =>
      simp only [Int.reduceEq, or_self, if_false, and_self]
      rw [sumX_total, round_near]
      refine res_num ?_
      rw [hf, hr1, hr2]
      show some ((fm s).nearest _ _ _) = _
      simp only [← Fl.signed_eq]
      generalize hT : Ieee.signed n1 m1 (e1 - min e1 e2).toNat + Ieee.signed n2 m2 (e2 - min e1 e2).toNat = T
      by_cases h0 : T = 0
      · rw [if_pos h0, h0]
        simp only [Int.natAbs_zero]
        -- a sum that cancels: the signs are not the same
        have hne : (n1 && n2) = false := by
          cases n1 <;> cases n2 <;> simp
          rw [Fl.signed_eq true m1, Fl.signed_eq true m2, sg_val, sg_val, h0] at hT
          have : 0 < m1 * 2 ^ (e1 - min e1 e2).toNat := Nat.mul_pos hm1 (Nat.two_pow_pos _)
          generalize m1 * 2 ^ (e1 - min e1 e2).toNat = z1 at *
          simp only [if_true] at hT
          omega
        rw [hne]
        rfl
      · rw [if_neg h0]
end Go.Proofs.YtmoimcblmmcffaaDoor.NC

/-! Differences, products, quotients of the reference are the program's. No walk here. -/
namespace Go.Proofs.YtmoimcblmmcffaaDoor.NC
open Go.RowKit Go.Proofs.YtmoimcblmmcffaaDoor.B Go.Proofs.YtmoimcblmmcffaaDoor.N
set_option linter.unusedSimpArgs false
set_option linter.unusedVariables false

theorem add_eq {s : Bool} {a b : Nat} (ha : a < 2 * signN s) (hb : b < 2 * signN s) : resV s .add a b = (addR s a b : Nat) := add_told (told s a ha) (told s b hb)

/-- The word with the other sign. -/
theorem neg_told {s : Bool} {b : Nat} {p : PP} (hb : Told s b p) (hk : p.kind ≠ 3) : (fm s).read (bitsR s { p with neg := !p.neg && p.kind != 3 }) = ((fm s).read b).opposite := by
  cases hb with
  | nan n2 r2 t2 u2 h20 h21 h2 hr2 => exact absurd rfl hk
  | zero n h hr =>
    rw [hr]
    simp only [Int.reduceEq]
    show (fm s).read (bitsR s ⟨0, !n && true, 0, 0⟩) = .number (!n) 0 (leastN s)
    rw [Bool.and_true, bits_zero, Fl.read_word_sub (fm s) (!n) 0 (by rw [fm_binade]; exact low_pos s), fm_least]
  | inf n h hr =>
    rw [hr]
    show (fm s).read (bitsR s ⟨2, !n && true, 0, 0⟩) = .infinity (!n)
    rw [Bool.and_true, bits_inf, Fl.read_word_inf (fm s) (!n) (inf_ge s)]
  | fin n m e r h0 h1 h hm hm2 he he2 hbn hr =>
    rw [hr]
    show (fm s).read (bitsR s ⟨1, !n && true, m, e⟩) = .number (!n) m e
    rw [Bool.and_true, hbn]
    -- both words have the same rung
    rw [h] at hr
    have hlt : r < (fm s).signWeight := by rw [fm_sign]; exact Nat.lt_trans h1 (inf_lt s)
    obtain ⟨a1, a2⟩ := Fl.word_parts (fm s) n r hlt
    obtain ⟨b1, b2⟩ := Fl.word_parts (fm s) (!n) r hlt
    unfold Ieee.Format.read at hr ⊢
    simp only [a1, a2, b1, b2] at hr ⊢
    split at hr
    · rename_i h3; rw [if_pos h3]; injection hr with h4 h5 h6; rw [h5, h6]
    · rename_i h3
      rw [if_neg h3]
      rw [if_pos h1]
      first | (rw [if_pos h1] at hr; injection hr with h5 h6 h7; rw [h6, h7]) | (injection hr with h5 h6 h7; rw [h6, h7])
theorem sub_eq {s : Bool} {a b : Nat} (ha : a < 2 * signN s) (hb : b < 2 * signN s) : resV s .sub a b = (subR s a b : Nat) := by
  have hf : floatBits .sub (fkOf s) a b = ((((fm s).read a).sum ((fm s).read b).opposite).map (fm s).write) := rfl
  have ht := told s b hb
  unfold subR
  by_cases hk : (partsR s b).kind = 3
  · rw [if_pos hk]
    refine res_nan ?_
    rw [hf]
    generalize partsR s b = p at *
    cases ht with
    | nan n2 r2 t2 u2 h20 h21 h2 hr2 =>
      rw [hr2]
      cases (fm s).read a <;> rfl
    | zero n h hr => exact absurd (show (0 : Int) = 3 from hk) (by decide)
    | inf n h hr => exact absurd (show (2 : Int) = 3 from hk) (by decide)
    | fin n m e r h0 h1 h hm hm2 he he2 hbn hr => exact absurd (show (1 : Int) = 3 from hk) (by decide)
  · rw [if_neg hk]
    have hn := neg_told ht hk
    have hlt : negR s b < 2 * signN s := by have := neg_lt s b; rw [top_sgn] at this; exact Int.ofNat_lt.1 this
    rw [← add_eq ha hlt]
    unfold resV
    have : floatBits .sub (fkOf s) a b = floatBits .add (fkOf s) a (negR s b) := by
      rw [hf]
      show _ = (((fm s).read a).sum ((fm s).read (negR s b))).map (fm s).write
      unfold negR
      rw [hn]
    rw [this]

theorem bne_xor (a b : Bool) : (a ^^ b) = (a != b) := by cases a <;> cases b <;> rfl

/-- Products. -/
theorem mul_told {s : Bool} {a b : Nat} {p q : PP} (ha : Told s a p) (hb : Told s b q) : resV s .mul a b = (mulP s p q : Nat) := by
  have hf : floatBits .mul (fkOf s) a b = ((((fm s).read a).product ((fm s).read b)).map (fm s).write) := rfl
  unfold mulP
  cases ha with
  | nan n1 r1 t1 u1 h10 h11 h1 hr1 =>
    simp only [true_or, if_true]
    refine res_nan ?_
    rw [hf, hr1]; rfl
  | inf n1 h1 hr1 =>
    cases hb with
    | nan n2 r2 t2 u2 h20 h21 h2 hr2 =>
      simp only [or_true, true_or, if_true]
      refine res_nan ?_
      rw [hf, hr1, hr2]; rfl
    | inf n2 h2 hr2 =>
      simp only [Int.reduceEq, or_self, and_false, false_and, if_false, if_true]
      rw [← bne_xor]
      refine res_inf ?_
      rw [hf, hr1, hr2]; rfl
    | zero n2 h2 hr2 =>
      simp only [Int.reduceEq, or_true, true_or, and_self, if_true]
      refine res_nan ?_
      rw [hf, hr1, hr2]; rfl
    | fin n2 m2 e2 r2 h20 h21 h2 hm2 hm22 he2 he22 hb2 hr2 =>
      simp only [Int.reduceEq, or_self, and_false, false_and, if_false, true_or, if_true]
      rw [← bne_xor]
      refine res_inf ?_
      rw [hf, hr1, hr2]
      show Option.map _ (if m2 = 0 then none else some (Ieee.Datum.infinity (n1 ^^ n2))) = _
      rw [if_neg (by omega)]; rfl
  | zero n1 h1 hr1 =>
    cases hb with
    | nan n2 r2 t2 u2 h20 h21 h2 hr2 =>
      simp only [or_true, true_or, if_true]
      refine res_nan ?_
      rw [hf, hr1, hr2]; rfl
    | inf n2 h2 hr2 =>
      simp only [Int.reduceEq, or_true, and_self, if_true]
      refine res_nan ?_
      rw [hf, hr1, hr2]; rfl
    | zero n2 h2 hr2 =>
      simp only [Int.reduceEq, or_self, and_false, false_and, if_false, Nat.zero_mul]
      rw [round_near, ← bne_xor, near_zero, ← near_zero s _ (leastN s + leastN s)]
      refine res_num ?_
      rw [hf, hr1, hr2]; rfl
    | fin n2 m2 e2 r2 h20 h21 h2 hm2 hm22 he2 he22 hb2 hr2 =>
      simp only [Int.reduceEq, or_self, and_false, false_and, if_false, Nat.zero_mul]
      rw [round_near, ← bne_xor, near_zero, ← near_zero s _ (leastN s + e2)]
      refine res_num ?_
      rw [hf, hr1, hr2]
      show some ((fm s).nearest (n1 ^^ n2) (0 * m2) (leastN s + e2)) = _
      rw [Nat.zero_mul]
  | fin n1 m1 e1 r1 h10 h11 h1 hm1 hm12 he1 he12 hb1 hr1 =>
    cases hb with
    | nan n2 r2 t2 u2 h20 h21 h2 hr2 =>
      simp only [or_true, true_or, if_true]
      refine res_nan ?_
      rw [hf, hr1, hr2]; rfl
    | inf n2 h2 hr2 =>
      simp only [Int.reduceEq, or_self, and_false, false_and, if_false, or_true, if_true]
      rw [← bne_xor]
      have hx : (n1 ^^ n2) = (n2 ^^ n1) := by cases n1 <;> cases n2 <;> rfl
      rw [hx]
      refine res_inf ?_
      rw [hf, hr1, hr2]
      show Option.map _ (if m1 = 0 then none else some (Ieee.Datum.infinity (n2 ^^ n1))) = _
      rw [if_neg (by omega)]; rfl
    | zero n2 h2 hr2 =>
      simp only [Int.reduceEq, or_self, and_false, false_and, if_false, Nat.mul_zero]
      rw [round_near, ← bne_xor, near_zero, ← near_zero s _ (e1 + leastN s)]
      refine res_num ?_
      rw [hf, hr1, hr2]; rfl
    | fin n2 m2 e2 r2 h20 h21 h2 hm2 hm22 he2 he22 hb2 hr2 =>
      simp only [Int.reduceEq, or_self, and_false, false_and, if_false]
      rw [round_near, ← bne_xor]
      refine res_num ?_
      rw [hf, hr1, hr2]; rfl
theorem mul_eq {s : Bool} {a b : Nat} (ha : a < 2 * signN s) (hb : b < 2 * signN s) : resV s .mul a b = (mulR s a b : Nat) := mul_told (told s a ha) (told s b hb)

/-- Quotients. -/
theorem frac_le (s : Bool) : (fm s).fractionBits + 2 ≤ 54 ∧ lowN s = 2 ^ (fm s).fractionBits := by cases s <;> exact ⟨by decide, rfl⟩
theorem qs_ge {m n k F : Nat} (hn : 0 < n) (h : n * 2 ^ (F + 1) ≤ m * 2 ^ k) : 2 ^ (F + 2) ≤ Fl.qs (m * 2 ^ k) n := by
  unfold Fl.qs
  have h1 : 2 ^ (F + 1) ≤ m * 2 ^ k / n := (Nat.le_div_iff_mul_le hn).2 (by rw [Nat.mul_comm]; exact h)
  rw [show F + 2 = F + 1 + 1 from rfl, Nat.pow_succ]
  omega
theorem div_num (s : Bool) (n : Bool) (m1 m2 : Nat) (e1 e2 : Int) (hm1 : 1 ≤ m1) (hm2 : 1 ≤ m2) (hm22 : m2 < 2 * lowN s) :
    let more := (fm s).fractionBits + 2 + m2.log2 - m1.log2
    (fm s).nearest n (2 * ((m1 <<< more) / m2) + ((m1 <<< more) % m2 != 0).toNat) (e1 - e2 - more - 1) = roundR s n (m1 * 2 ^ 120 / m2) (e1 - e2 - 120) (decide (0 < m1 * 2 ^ 120 % m2)) := by
  intro more
  obtain ⟨f1, f2⟩ := frac_le s
  have hlog : m2 < 2 ^ (m2.log2 + 1) := Nat.lt_log2_self
  have hlog1 := Nat.log2_self_le (show m1 ≠ 0 by omega)
  have hm2b : m2 < 2 ^ 54 := by
    rw [f2] at hm22
    have : 2 * 2 ^ (fm s).fractionBits = 2 ^ ((fm s).fractionBits + 1) := by rw [Nat.pow_succ, Nat.mul_comm]
    rw [this] at hm22
    exact Nat.lt_of_lt_of_le hm22 (Nat.pow_le_pow_right (by decide) (by omega))
  have hbig1 : 2 ^ ((fm s).fractionBits + 2) ≤ Fl.qs (m1 * 2 ^ more) m2 := by
    refine qs_ge (by omega) ?_
    have h1 : m2 * 2 ^ ((fm s).fractionBits + 1) ≤ 2 ^ (m2.log2 + 1) * 2 ^ ((fm s).fractionBits + 1) := Nat.mul_le_mul_right _ (Nat.le_of_lt hlog)
    have h2 : 2 ^ m1.log2 * 2 ^ more ≤ m1 * 2 ^ more := Nat.mul_le_mul_right _ hlog1
    refine Nat.le_trans h1 (Nat.le_trans ?_ h2)
    rw [← Nat.pow_add, ← Nat.pow_add]
    exact Nat.pow_le_pow_right (by decide) (by omega)
  have hq : 2 ^ ((fm s).fractionBits + 1) ≤ m1 * 2 ^ 120 / m2 := by
    refine (Nat.le_div_iff_mul_le (by omega)).2 ?_
    have h1 : 2 ^ ((fm s).fractionBits + 1) * m2 ≤ 2 ^ 53 * 2 ^ 54 := Nat.mul_le_mul (Nat.pow_le_pow_right (by decide) (by omega)) (Nat.le_of_lt hm2b)
    have h2 : 1 * 2 ^ 120 ≤ m1 * 2 ^ 120 := Nat.mul_le_mul_right _ hm1
    exact Nat.le_trans h1 (Nat.le_trans (by decide) h2)
  have hbig2 : 2 ^ ((fm s).fractionBits + 2) ≤ Fl.qs (m1 * 2 ^ 120) m2 := by
    refine qs_ge (by omega) ?_
    have := (Nat.le_div_iff_mul_le (by omega : 0 < m2)).1 hq
    rw [Nat.mul_comm]; exact this
  have hp : 0 < 2 ^ ((fm s).fractionBits + 1) := Nat.two_pow_pos _
  rw [round_word _ _ _ _ _ (by omega), Fl.rung_more (fm s) _ _ _ hq, Fl.nearest_rung, Nat.shiftLeft_eq]
  congr 1
  have hr := Fl.rung_qs (fm s) m1 m2 more 120 (e1 - e2 - 1) (by omega) hbig1 hbig2
  unfold Fl.qs at hr
  have hd : (decide (0 < m1 * 2 ^ 120 % m2)).toNat = (m1 * 2 ^ 120 % m2 != 0).toNat := by
    congr 1
    rw [Bool.eq_iff_iff]; simp; omega
  rw [hd, show e1 - e2 - (more : Int) - 1 = e1 - e2 - 1 - (more : Int) from by omega, hr]
  congr 1
  omega
theorem div_told {s : Bool} {a b : Nat} {p q : PP} (ha : Told s a p) (hb : Told s b q) : resV s .quo a b = (divP s p q : Nat) := by
  have hf : floatBits .quo (fkOf s) a b = ((((fm s).read a).quotient ((fm s).fractionBits + 2) ((fm s).read b)).map (fm s).write) := rfl
  unfold divP
  cases ha with
  | nan n1 r1 t1 u1 h10 h11 h1 hr1 =>
    simp only [true_or, if_true]
    refine res_nan ?_
    rw [hf, hr1]; rfl
  | inf n1 h1 hr1 =>
    cases hb with
    | nan n2 r2 t2 u2 h20 h21 h2 hr2 =>
      simp only [or_true, true_or, if_true]
      refine res_nan ?_
      rw [hf, hr1, hr2]; rfl
    | inf n2 h2 hr2 =>
      simp only [Int.reduceEq, ne_eq, not_false_eq_true, and_self, or_true, if_true]
      refine res_nan ?_
      rw [hf, hr1, hr2]; rfl
    | zero n2 h2 hr2 =>
      simp only [Int.reduceEq, ne_eq, not_false_eq_true, and_true, or_self, if_false, true_or, if_true]
      rw [← bne_xor]
      refine res_inf ?_
      rw [hf, hr1, hr2]; rfl
    | fin n2 m2 e2 r2 h20 h21 h2 hm2 hm22 he2 he22 hb2 hr2 =>
      simp only [Int.reduceEq, ne_eq, not_false_eq_true, and_true, or_self, if_false, true_or, if_true]
      rw [← bne_xor]
      refine res_inf ?_
      rw [hf, hr1, hr2]; rfl
  | zero n1 h1 hr1 =>
    cases hb with
    | nan n2 r2 t2 u2 h20 h21 h2 hr2 =>
      simp only [or_true, true_or, if_true]
      refine res_nan ?_
      rw [hf, hr1, hr2]; rfl
    | inf n2 h2 hr2 =>
      simp only [Int.reduceEq, ne_eq, not_false_eq_true, and_true, or_self, if_false, or_true, if_true]
      rw [← bne_xor, ← near_zero s _ 0]
      refine res_num ?_
      rw [hf, hr1, hr2]; rfl
    | zero n2 h2 hr2 =>
      simp only [Int.reduceEq, ne_eq, not_false_eq_true, and_self, or_true, if_true]
      refine res_nan ?_
      rw [hf, hr1, hr2]; rfl
    | fin n2 m2 e2 r2 h20 h21 h2 hm2 hm22 he2 he22 hb2 hr2 =>
      simp only [Int.reduceEq, ne_eq, not_false_eq_true, and_true, or_self, if_false, true_or, if_true]
      rw [← bne_xor, ← near_zero s _ (leastN s - e2 - ((fm s).fractionBits + 2 + m2.log2 - (0 : Nat).log2 : Nat) - 1)]
      refine res_num ?_
      rw [hf, hr1, hr2]
      show Option.map (fm s).write (if m2 = 0 then _ else some (Ieee.Datum.number (n1 ^^ n2) (2 * ((0 <<< ((fm s).fractionBits + 2 + m2.log2 - (0 : Nat).log2)) / m2) + ((0 <<< ((fm s).fractionBits + 2 + m2.log2 - (0 : Nat).log2)) % m2 != 0).toNat) _)) = _
      rw [if_neg (by omega)]
      simp only [Nat.zero_shiftLeft, Nat.zero_div, Nat.zero_mod, Nat.mul_zero]
      rfl
  | fin n1 m1 e1 r1 h10 h11 h1 hm1 hm12 he1 he12 hb1 hr1 =>
    cases hb with
    | nan n2 r2 t2 u2 h20 h21 h2 hr2 =>
      simp only [or_true, true_or, if_true]
      refine res_nan ?_
      rw [hf, hr1, hr2]; rfl
    | inf n2 h2 hr2 =>
      simp only [Int.reduceEq, ne_eq, not_true_eq_false, and_false, or_self, if_false, or_true, if_true]
      rw [← bne_xor, ← near_zero s _ 0]
      refine res_num ?_
      rw [hf, hr1, hr2]; rfl
    | zero n2 h2 hr2 =>
      simp only [Int.reduceEq, ne_eq, not_true_eq_false, and_false, or_self, if_false, or_true, if_true]
      rw [← bne_xor]
      refine res_inf ?_
      rw [hf, hr1, hr2]
      simp only [Ieee.Datum.quotient, if_true]
      rw [if_neg (by omega)]; rfl
    | fin n2 m2 e2 r2 h20 h21 h2 hm2 hm22 he2 he22 hb2 hr2 =>
      simp only [Int.reduceEq, ne_eq, not_true_eq_false, and_false, or_self, if_false]
      rw [← bne_xor, ← div_num s (n1 ^^ n2) m1 m2 e1 e2 hm1 hm2 hm22]
      refine res_num ?_
      rw [hf, hr1, hr2]
      show Option.map (fm s).write (if m2 = 0 then _ else some _) = _
      rw [if_neg (by omega)]; rfl
theorem div_eq {s : Bool} {a b : Nat} (ha : a < 2 * signN s) (hb : b < 2 * signN s) : resV s .quo a b = (divR s a b : Nat) := div_told (told s a ha) (told s b hb)
end Go.Proofs.YtmoimcblmmcffaaDoor.NC

/-! Signs, sizes, comparisons, extremes, integers of the reference are the program's. No walk here. -/
namespace Go.Proofs.YtmoimcblmmcffaaDoor.NC
open Go.RowKit Go.Proofs.YtmoimcblmmcffaaDoor.B Go.Proofs.YtmoimcblmmcffaaDoor.N
set_option linter.unusedSimpArgs false
set_option linter.unusedVariables false

theorem sgn_eq (s : Bool) : signV s = (signN s : Int) := by cases s <;> rfl
theorem tv_beq (s : Bool) : (tv s == 1) = s := tv_eq s
theorem nothing_nat (s : Bool) (a : Nat) (ha : a < 2 * signN s) : nothingV s (a : Int) = decide ((fm s).infRung < a % signN s) := by
  rw [nothing_iff s _ (by omega) (by rw [top_sgn]; exact_mod_cast ha), sgn_eq, infV_eq]
  exact decide_eq_decide.2 (by omega)
theorem told_nothing {s : Bool} {a : Nat} {p : PP} (h : Told s a p) : nothingV s (a : Int) = decide (p.kind = 3) := by
  have hl := inf_lt s
  cases h with
  | zero n h hr => rw [h, nothing_word s n (by omega), decide_eq_false (by omega)]; rfl
  | inf n h hr => rw [h, nothing_word s n (by omega), decide_eq_false (by omega)]; rfl
  | fin n m e r h0 h1 h hm hm2 he he2 hb hr => rw [h, nothing_word s n (by omega), decide_eq_false (by omega)]; rfl
  | nan n r t u h0 h1 h hr => rw [h, nothing_word s n h1, decide_eq_true h0]; rfl

/-- A word without its sign, with the other sign. -/
theorem told_size {s : Bool} {a : Nat} {p : PP} (h : Told s a p) : p.kind = 3 ∨ ∃ r, r ≤ (fm s).infRung ∧ a = (fm s).word p.neg r ∧ (r = 0 ↔ p.kind = 0) ∧ ∀ n, bitsR s { p with neg := n } = (fm s).word n r := by
  cases h with
  | zero n h hr => exact .inr ⟨0, Nat.zero_le _, h, by simp, fun n => bits_zero s n⟩
  | inf n h hr => exact .inr ⟨_, Nat.le_refl _, h, by have := inf_ge s; have := Fl.binade_pos (fm s); simp; omega, fun n => bits_inf s n⟩
  | fin n m e r h0 h1 h hm hm2 he he2 hb hr => exact .inr ⟨r, Nat.le_of_lt h1, h, by simp; omega, hb⟩
  | nan n r t u h0 h1 h hr => exact .inl rfl

theorem andNot_word (s n : Bool) {r : Nat} (h : r < signN s) : bits .andNot .u64 ((fm s).word n r : Nat) (signV s) = (r : Int) := by
  rw [andNot_sign s _ (by omega) (by rw [top_sgn]; exact_mod_cast word_lt s n h), word_mod s n h]
theorem xor_word (s n : Bool) {r : Nat} (h : r < signN s) : bits .xor .u64 ((fm s).word n r : Nat) (signV s) = ((fm s).word (!n) r : Nat) := by
  rw [xor_sign s _ (by omega) (by rw [top_sgn]; exact_mod_cast word_lt s n h), sgn_eq, fm_word, fm_word]
  unfold sgnN
  cases n
  · simp only [Bool.false_eq_true, if_false, Bool.not_false, if_true]
    rw [if_pos (by omega)]; omega
  · simp only [Bool.false_eq_true, if_false, Bool.not_true, if_true]
    rw [if_neg (by omega)]; omega

theorem nan_clean2 {s : Bool} {a : Int} (h : nothingV s a = true) : cleanV s a = (nanN s : Nat) := by
  unfold cleanV; rw [if_pos h]; exact nan_eq s
/-- A NaN's rung. -/
theorem told_nan {s : Bool} {a : Nat} {p : PP} (h : Told s a p) (hk : p.kind = 3) : p = ⟨3, false, 0, 0⟩ ∧ ∃ n r, (fm s).infRung < r ∧ r < signN s ∧ a = (fm s).word n r := by
  cases h with
  | nan n r t u h0 h1 h hr => exact ⟨rfl, n, r, h0, h1, h⟩
  | zero n h hr => exact absurd (show (0 : Int) = 3 from hk) (by decide)
  | inf n h hr => exact absurd (show (2 : Int) = 3 from hk) (by decide)
  | fin n m e r h0 h1 h hm hm2 he he2 hbn hr => exact absurd (show (1 : Int) = 3 from hk) (by decide)

theorem size_eq {s : Bool} {a : Nat} (ha : a < 2 * signN s) : sizeV (tv s) a = (sizeR s a : Nat) := by
  have ht := told s a ha
  unfold sizeV sizeR
  rw [tv_eq]
  by_cases hk : (partsR s a).kind = 3
  · obtain ⟨hp, n, r, h0, h1, h⟩ := told_nan ht hk
    rw [hp]
    show _ = ((bitsR s ⟨3, false, 0, 0⟩ : Nat) : Int)
    rw [bits_nan]
    rw [show (a : Int) = ((fm s).word n r : Nat) from by rw [h], andNot_word s n h1]
    refine nan_clean2 ?_
    have := nothing_word s false h1
    rw [fm_word] at this
    unfold sgnN at this
    simp only [Bool.false_eq_true, if_false, Nat.zero_add] at this
    rw [this, decide_eq_true h0]
  · rcases told_size ht with h | ⟨r, h1, h2, h3, h4⟩
    · exact absurd h hk
    · have hlt : r < signN s := Nat.lt_of_le_of_lt h1 (inf_lt s)
      rw [h4 false, show (a : Int) = ((fm s).word (partsR s a).neg r : Nat) from by rw [← h2], andNot_word s _ hlt]
      have := clean_word s false h1
      rw [fm_word] at this ⊢
      unfold sgnN at this ⊢
      simp only [Bool.false_eq_true, if_false, Nat.zero_add] at this ⊢
      exact this
theorem neg_eq {s : Bool} {a : Nat} (ha : a < 2 * signN s) : negV (tv s) a = (negR s a : Nat) := by
  have ht := told s a ha
  unfold negV negR
  rw [tv_eq]
  by_cases hk : (partsR s a).kind = 3
  · obtain ⟨hp, n, r, h0, h1, h⟩ := told_nan ht hk
    rw [hp]
    show _ = ((bitsR s ⟨3, _, 0, 0⟩ : Nat) : Int)
    rw [bits_nan]
    rw [show (a : Int) = ((fm s).word n r : Nat) from by rw [h], xor_word s n h1]
    refine nan_clean2 ?_
    rw [nothing_word s (!n) h1, decide_eq_true h0]
  · rcases told_size ht with h | ⟨r, h1, h2, h3, h4⟩
    · exact absurd h hk
    · have hlt : r < signN s := Nat.lt_of_le_of_lt h1 (inf_lt s)
      have hb : ((partsR s a).kind != 3) = true := by simpa using hk
      rw [h4 _, hb, Bool.and_true, show (a : Int) = ((fm s).word (partsR s a).neg r : Nat) from by rw [← h2], xor_word s _ hlt]
      exact clean_word s _ h1
theorem sign_eq {s : Bool} {a b : Nat} (ha : a < 2 * signN s) (hb : b < 2 * signN s) : signOfV s a b = (signR s a b : Nat) := by
  have ht := told s a ha
  unfold signOfV signR
  rw [told_nothing ht]
  by_cases hk : (partsR s a).kind = 3
  · rw [if_pos hk, decide_eq_true hk, if_pos rfl]; exact nan_eq s
  · rw [if_neg hk, decide_eq_false hk, if_neg (by decide)]
    rcases told_size ht with h | ⟨r, h1, h2, h3, h4⟩
    · exact absurd h hk
    · have hlt : r < signN s := Nat.lt_of_le_of_lt h1 (inf_lt s)
      have hs0 : 0 < signN s := by omega
      rw [h4 _, show (a : Int) = ((fm s).word (partsR s a).neg r : Nat) from by rw [← h2], andNot_word s _ hlt]
      rw [and_sign s _ (by omega) (by rw [top_sgn]; exact_mod_cast hb), sgn_eq]
      rw [or_sign s _ _ (by omega) (by rw [sgn_eq]; omega) (by rw [sgn_eq]; split <;> simp)]
      rw [fm_word]
      unfold sgnN
      by_cases hlow : b < signN s
      · rw [if_pos (by omega), Nat.div_eq_of_lt hlow]; simp
      · rw [if_neg (by omega), Nat.div_eq_of_lt_le (k := 1) (by omega) (by omega)]
        simp; omega

theorem order_none {s : Bool} {a b : Nat} {p q : PP} (ha : Told s a p) (hb : Told s b q) (h : p.kind = 3 ∨ q.kind = 3) : (fm s).order a b = none := by
  unfold Ieee.Format.order
  cases ha with
  | nan n r t u h0 h1 h2 hr => rw [hr]; rfl
  | zero n h2 hr =>
    cases hb with
    | nan n r t u h0 h1 h3 hr2 => rw [hr, hr2]; rfl
    | zero n2 h3 hr2 => simp at h
    | inf n2 h3 hr2 => simp at h
    | fin n2 m e r h0 h1 h3 hm hm2 he he2 hbn hr2 => simp at h
  | inf n h2 hr =>
    cases hb with
    | nan n r t u h0 h1 h3 hr2 => rw [hr, hr2]; rfl
    | zero n2 h3 hr2 => simp at h
    | inf n2 h3 hr2 => simp at h
    | fin n2 m e r h0 h1 h3 hm hm2 he he2 hbn hr2 => simp at h
  | fin n m e r h0 h1 h2 hm hm2 he he2 hbn hr =>
    cases hb with
    | nan n r t u h0 h1 h3 hr2 => rw [hr, hr2]; rfl
    | zero n2 h3 hr2 => simp at h
    | inf n2 h3 hr2 => simp at h
    | fin n2 m e r h0 h1 h3 hm hm2 he he2 hbn hr2 => simp at h

theorem rank_word {s : Bool} {a r : Nat} (h4 : ∀ n, bitsR s { partsR s a with neg := n } = (fm s).word n r) : rankR s a = Fl.rk (partsR s a).neg r := by
  unfold rankR Fl.rk sizeR
  rw [h4 false, fm_word]
  unfold sgnN
  cases (partsR s a).neg <;> simp
theorem cmp_eq {s : Bool} {a b : Nat} (ha : a < 2 * signN s) (hb : b < 2 * signN s) : cmpV (ordV s a b) = cmpR s a b := by
  have hta := told s a ha
  have htb := told s b hb
  unfold cmpR ordV
  show cmpV ((fm s).order a b) = _
  by_cases hk : (partsR s a).kind = 3 ∨ (partsR s b).kind = 3
  · rw [if_pos hk, order_none hta htb hk]; rfl
  · rw [if_neg hk]
    rcases told_size hta with h | ⟨r, h1, h2, h3, h4⟩
    · exact absurd (.inl h) hk
    · rcases told_size htb with h | ⟨t, j1, j2, j3, j4⟩
      · exact absurd (.inr h) hk
      · rw [rank_word h4, rank_word j4]
        have ho := Fl.order_word (fm s) (inf_ge s) (partsR s a).neg (partsR s b).neg h1 j1
        rw [← h2, ← j2] at ho
        rw [ho]
        rcases Int.lt_trichotomy (Fl.rk (partsR s a).neg r) (Fl.rk (partsR s b).neg t) with h | h | h
        · rw [Int.compare_eq_lt.2 h, if_pos h]; rfl
        · rw [Int.compare_eq_eq.2 h, if_neg (by omega), if_pos h]; rfl
        · rw [Int.compare_eq_gt.2 h, if_neg (by omega), if_neg (by omega)]; rfl

theorem from_eq (s : Bool) (n : Int) : fromIntV s n = (fromR s n : Nat) := by
  unfold fromIntV fromR
  rw [round_near]
  show cleanV s ((fm s).nearest (decide (n < 0)) n.natAbs 0 : Nat) = _
  exact clean_near s _ _ _
end Go.Proofs.YtmoimcblmmcffaaDoor.NC

/-! Extremes, roots of the reference are the program's; a REAL's root is rounded once. No walk here. -/
namespace Go.Proofs.YtmoimcblmmcffaaDoor.NC
open Go.RowKit Go.Proofs.YtmoimcblmmcffaaDoor.B Go.Proofs.YtmoimcblmmcffaaDoor.N
set_option linter.unusedSimpArgs false
set_option linter.unusedVariables false

theorem zero_word (s n : Bool) {r : Nat} (h : r < signN s) : zeroV s ((fm s).word n r : Nat) = decide (r = 0) := by
  unfold zeroV
  rw [andNot_word s n h]
  rw [Bool.eq_iff_iff]; simp
theorem ext_eq {s least : Bool} {a b : Nat} (ha : a < 2 * signN s) (hb : b < 2 * signN s) : extremeV least s a b = (extR (!least) s a b : Nat) := by
  have hta := told s a ha
  have htb := told s b hb
  unfold extremeV extR extP
  rw [told_nothing hta, told_nothing htb]
  by_cases hk : (partsR s a).kind = 3
  · rw [if_pos hk, decide_eq_true hk, if_pos rfl]
    by_cases hk2 : (partsR s b).kind = 3
    · rw [if_pos hk2]
      exact nan_clean2 (by rw [told_nothing htb, decide_eq_true hk2])
    · rw [if_neg hk2]
      unfold cleanV
      rw [told_nothing htb, decide_eq_false hk2, if_neg (by decide)]
  · rw [if_neg hk, decide_eq_false hk, if_neg (by decide)]
    by_cases hk2 : (partsR s b).kind = 3
    · rw [if_pos hk2, decide_eq_true hk2, if_pos rfl]
    · rw [if_neg hk2, decide_eq_false hk2, if_neg (by decide)]
      have hless : lessV s a b = decide ((if cmpR s a b = 0 then ((partsR s b).neg.toNat : Int) - (partsR s a).neg.toNat else cmpR s a b) < 0) := by
        rcases told_size hta with h | ⟨r, h1, h2, h3, h4⟩
        · exact absurd h hk
        · rcases told_size htb with h | ⟨t, j1, j2, j3, j4⟩
          · exact absurd h hk2
          · have hlt : r < signN s := Nat.lt_of_le_of_lt h1 (inf_lt s)
            have hlt2 : t < signN s := Nat.lt_of_le_of_lt j1 (inf_lt s)
            have ho := Fl.order_word (fm s) (inf_ge s) (partsR s a).neg (partsR s b).neg h1 j1
            have hc : cmpR s a b = if Fl.rk (partsR s a).neg r < Fl.rk (partsR s b).neg t then -1 else if Fl.rk (partsR s a).neg r = Fl.rk (partsR s b).neg t then 0 else 1 := by
              unfold cmpR
              rw [if_neg (by rintro (h | h) <;> contradiction), rank_word h4, rank_word j4]
            have z1 : zeroV s (a : Int) = decide (r = 0) := by rw [show (a : Int) = ((fm s).word (partsR s a).neg r : Nat) from by rw [← h2]]; exact zero_word s _ hlt
            have z2 : zeroV s (b : Int) = decide (t = 0) := by rw [show (b : Int) = ((fm s).word (partsR s b).neg t : Nat) from by rw [← j2]]; exact zero_word s _ hlt2
            have hord : ordV s a b = some (compare (Fl.rk (partsR s a).neg r) (Fl.rk (partsR s b).neg t)) := by
              show (fm s).order a b = _
              rw [← ho, ← h2, ← j2]
            unfold lessV
            rw [z1, z2, hord]
            generalize cmpR s a b = c at *
            rw [fm_word] at h2 j2
            unfold sgnN at h2 j2
            clear hord ho z1 z2 h3 h4 j3 j4 hta htb hk hk2
            generalize (partsR s a).neg = n at *
            generalize (partsR s b).neg = m at *
            have hs0 : 0 < signN s := by omega
            by_cases hr0 : r = 0 ∧ t = 0
            · obtain ⟨rfl, rfl⟩ := hr0
              have hba : decide ((b : Int) < (a : Int)) = (n && !m) := by
                cases n <;> cases m <;> simp at h2 j2 <;> rw [h2, j2] <;> simp <;> omega
              have hc0 : c = 0 := by rw [hc]; cases n <;> cases m <;> decide
              rw [hba, hc0]
              cases n <;> cases m <;> decide
            · have hz : (decide (r = 0) && (decide (t = 0) && decide ((b : Int) < (a : Int)))) = false := by
                by_cases h : r = 0
                · have : ¬ t = 0 := fun h' => hr0 ⟨h, h'⟩
                  simp [this]
                · simp [h]
              rw [hz, Bool.or_false]
              rcases Int.lt_trichotomy (Fl.rk n r) (Fl.rk m t) with h | h | h
              · have hc0 : c = -1 := by rw [hc, if_pos h]
                rw [Int.compare_eq_lt.2 h, hc0]; simp
              · have hc0 : c = 0 := by rw [hc, if_neg (by omega), if_pos h]
                rw [Int.compare_eq_eq.2 h, hc0]
                have hnm : n = m := by
                  unfold Fl.rk at h
                  cases n <;> cases m <;> simp at h ⊢ <;> omega
                subst hnm
                cases n <;> decide
              · have hc0 : c = 1 := by rw [hc, if_neg (by omega), if_neg (by omega)]
                rw [Int.compare_eq_gt.2 h, hc0]; simp
      rw [hless]
      generalize decide ((if cmpR s a b = 0 then ((partsR s b).neg.toNat : Int) - (partsR s a).neg.toNat else cmpR s a b) < 0) = z
      cases z <;> cases least <;> simp

/-- Roots. -/
theorem root_none {s : Bool} {a : Nat} {p : PP} (ht : Told s a p) (h : p.kind = 3 ∨ (p.neg = true ∧ p.kind ≠ 0)) : (fm s).sqrt a = none := by
  unfold Ieee.Format.sqrt
  cases ht with
  | nan n r t u h0 h1 h2 hr => rw [hr]; rfl
  | zero n h2 hr => simp at h
  | inf n h2 hr =>
    simp at h
    subst h
    rw [hr]; rfl
  | fin n m e r h0 h1 h2 hm hm2 he he2 hbn hr =>
    simp at h
    subst h
    rw [hr]
    simp only [Ieee.Datum.root, if_neg (show ¬ m = 0 by omega), if_true]
    rfl
theorem root_same {s : Bool} {a : Nat} {p : PP} (ht : Told s a p) (h : p.kind ≠ 1) (h2 : ¬ (p.kind = 3 ∨ (p.neg = true ∧ p.kind ≠ 0))) : (fm s).sqrt a = some a := by
  unfold Ieee.Format.sqrt
  cases ht with
  | nan n r t u h0 h1 h2' hr => simp at h2
  | zero n h3 hr =>
    rw [hr]
    simp only [Ieee.Datum.root, if_true, Option.map_some]
    show some ((fm s).nearest n 0 (leastN s)) = some a
    rw [near_zero, bits_zero, ← h3]
  | inf n h3 hr =>
    simp at h2
    subst h2
    rw [hr]
    show some ((fm s).word false (fm s).infRung) = some a
    rw [← h3]
  | fin n m e r h0 h1 h2 hm hm2 he he2 hbn hr => simp at h
theorem root_num {s : Bool} {m : Nat} {e : Int} (hm : 1 ≤ m) : ∃ d, (Ieee.Datum.number false m e).root ((fm s).fractionBits + 2) = some d ∧ (fm s).write d = roundR s false (rootN (m * 2 ^ shN e)) ((e - shN e) / 2) (rootN (m * 2 ^ shN e) * rootN (m * 2 ^ shN e) != m * 2 ^ shN e) := by
  obtain ⟨f1, f2⟩ := frac_le s
  obtain ⟨S, q, h1, h2, h3⟩ := Fl.root_rung (fm s) m e (by omega)
  have hrt := Fl.root_is (m * 2 ^ shN e)
  have hsh : m * 2 ^ (e % 2).toNat * 4 ^ 60 = m * 2 ^ shN e := by
    unfold shN
    rw [show (4 : Nat) ^ 60 = 2 ^ 120 from rfl, Nat.mul_assoc, ← Nat.pow_add]
    congr 2; omega
  have hR : Fl.IsRt (m * 2 ^ (e % 2).toNat * 4 ^ 60) (rootN (m * 2 ^ shN e)) := by rw [hsh]; exact hrt
  have hbig : 2 ^ 60 ≤ rootN (m * 2 ^ shN e) := by
    have h5 : 2 ^ 60 * 2 ^ 60 ≤ m * 2 ^ shN e := by
      rw [← hsh]
      have a1 : 1 * 2 ^ 0 ≤ m * 2 ^ (e % 2).toNat := Nat.mul_le_mul hm (Nat.pow_le_pow_right (by decide) (Nat.zero_le _))
      have a2 : 1 * 2 ^ 0 * 4 ^ 60 ≤ m * 2 ^ (e % 2).toNat * 4 ^ 60 := Nat.mul_le_mul_right _ a1
      exact Nat.le_trans (by decide) a2
    have := Fl.sq_lt (Nat.lt_of_le_of_lt h5 hrt.2)
    show 2 ^ 60 ≤ Ieee.Datum.rootFrom _ _ _
    omega
  have hb1 : 2 ^ ((fm s).fractionBits + 1) ≤ rootN (m * 2 ^ shN e) := Nat.le_trans (Nat.pow_le_pow_right (by decide) (by omega)) hbig
  have hb2 : 2 ^ ((fm s).fractionBits + 2) ≤ Fl.rs (m * 2 ^ (e % 2).toNat * 4 ^ 60) (rootN (m * 2 ^ shN e)) := by
    unfold Fl.rs
    rw [show (fm s).fractionBits + 2 = (fm s).fractionBits + 1 + 1 from rfl, Nat.pow_succ]
    omega
  have hr := h3 60 _ hR hb2
  refine ⟨_, h1, ?_⟩
  have hp : 0 < 2 ^ ((fm s).fractionBits + 1) := Nat.two_pow_pos _
  rw [round_word _ _ _ _ _ (by omega), Fl.rung_more (fm s) _ _ _ hb1]
  show (fm s).nearest false S q = _
  rw [Fl.nearest_rung, hr, hsh]
  unfold Fl.rs
  congr 2
  unfold shN
  omega
theorem root_eq {s : Bool} {a : Nat} (ha : a < 2 * signN s) : sqrtV s a = (sqrtR s a : Nat) := by
  have ht := told s a ha
  unfold sqrtV sqrtN sqrtR sqrtP
  rw [Int.toNat_natCast]
  by_cases h : (partsR s a).kind = 3 ∨ ((partsR s a).neg = true ∧ (partsR s a).kind ≠ 0)
  · have hn : (fkOf s).format.sqrt a = none := root_none ht h
    rw [if_pos h, hn]
    exact nan_eq s
  · rw [if_neg h]
    by_cases h1 : (partsR s a).kind ≠ 1
    · have hn : (fkOf s).format.sqrt a = some a := root_same ht h1 h
      rw [if_pos h1, hn]
      show cleanV s a = a
      unfold cleanV
      rw [told_nothing ht, decide_eq_false (fun h' => h (.inl h')), if_neg (by decide)]
    · rw [if_neg h1]
      generalize partsR s a = p at *
      cases ht with
      | nan n r t u h0 h1 h2 hr => simp at h1
      | zero n h2 hr => simp at h1
      | inf n h2 hr => simp at h1
      | fin n m e r h0 h11 h2 hm hm2 he he2 hbn hr =>
        simp at h
        subst h
        obtain ⟨d, k1, k2⟩ := root_num (s := s) (e := e) hm
        have hn : (fkOf s).format.sqrt a = some ((fm s).write d) := by
          show (((fm s).read a).root ((fm s).fractionBits + 2)).map (fm s).write = _
          rw [hr, k1]; rfl
        rw [hn]
        show cleanV s ((fm s).write d : Nat) = (roundR s false (rootN (m * 2 ^ shN e)) ((e - shN e) / 2) (rootN (m * 2 ^ shN e) * rootN (m * 2 ^ shN e) != m * 2 ^ shN e) : Nat)
        rw [k2]
        by_cases hz : rootN (m * 2 ^ shN e) = 0
        · rw [hz, round_zero]; exact clean_word s _ (Nat.zero_le _)
        · rw [round_word _ _ _ _ _ hz]; exact clean_word s _ (Fl.rung_le _ _ _)
end Go.Proofs.YtmoimcblmmcffaaDoor.NC

/-! A REAL's square root is rounded once. No walk here. -/
namespace Go.Proofs.YtmoimcblmmcffaaDoor.NC
open Go.RowKit Go.Proofs.YtmoimcblmmcffaaDoor.B Go.Proofs.YtmoimcblmmcffaaDoor.N
set_option linter.unusedSimpArgs false
set_option linter.unusedVariables false

theorem f2f_number {y : Nat} {s : Bool} {m : Nat} {e : Int} (h : Ieee.double.read y = .number s m e) (hi : (Ieee.single.read (Ieee.single.nearest s m e)).isInfinity = false) : floatToFloatBits .f64 y .f32 = some (Ieee.single.nearest s m e) := by
  unfold floatToFloatBits
  rw [if_neg (by decide)]
  have h' : FloatKind.f64.decode y = .number s m e := h
  rw [h']
  show (if (Ieee.single.read (Ieee.single.nearest s m e)).isInfinity = true then none else some (Ieee.single.nearest s m e)) = _
  rw [hi, if_neg (by decide)]
theorem f2f_inf {y : Nat} {s : Bool} (h : Ieee.double.read y = .infinity s) : floatToFloatBits .f64 y .f32 = some (Ieee.single.word s Ieee.single.infRung) := by
  unfold floatToFloatBits
  rw [if_neg (by decide)]
  have h' : FloatKind.f64.decode y = .infinity s := h
  rw [h']
  rfl
theorem number_not_inf (neg : Bool) {r : Nat} (h : r < Ieee.single.infRung) : (Ieee.single.read (Ieee.single.word neg r)).isInfinity = false := by
  obtain ⟨m, p, e, _⟩ := Fl.read_number Ieee.single neg r h
  rw [e]; rfl
theorem double_small {x : Nat} {neg : Bool} {m : Nat} {p : Int} (h : Ieee.double.read x = .number neg m p) : m < 2 ^ 53 := by
  have hb : Ieee.double.binade = 2 ^ 52 := rfl
  rcases Fl.read_cases Ieee.double x with ⟨n, k, e, hk⟩ | ⟨n, k, q, e, h1, h2, h3⟩ | ⟨n, e⟩ | ⟨n, k, e⟩
  · rw [e] at h; cases h; rw [hb] at hk; exact Nat.lt_trans hk (by decide)
  · rw [e] at h; cases h; rw [hb] at h2; exact Nat.lt_of_lt_of_le h2 (by decide)
  · rw [e] at h; cases h
  · rw [e] at h; cases h

theorem sqrt_narrow : B.SqrtNarrow := by
  intro n x hn hsame
  unfold Ieee.Format.sqrt
  cases hd : Ieee.single.read n with
  | nan s t =>
    rw [hd] at hsame
    cases hx : Ieee.double.read x with
    | nan s' t' => rfl
    | infinity s' => rw [hx] at hsame; exact hsame.elim
    | number s' m' i' => rw [hx] at hsame; exact hsame.elim
  | infinity s =>
    rw [hd] at hsame
    cases hx : Ieee.double.read x with
    | nan s' t' => rw [hx] at hsame; exact hsame.elim
    | number s' m' i' => rw [hx] at hsame; exact hsame.elim
    | infinity s' =>
      rw [hx] at hsame
      obtain rfl : s' = s := hsame
      cases s'
      · show ∃ z, floatToFloatBits .f64 (Ieee.double.word false Ieee.double.infRung) .f32 = some z ∧ some (Ieee.single.word false Ieee.single.infRung) = some z
        exact ⟨_, f2f_inf (Fl.read_word_inf Ieee.double false (by decide)), rfl⟩
      · rfl
  | number s m i =>
    rw [hd] at hsame
    obtain ⟨hm, hi1, hi2⟩ := Fl.single_number hd
    cases hx : Ieee.double.read x with
    | nan s' t' => rw [hx] at hsame; exact hsame.elim
    | infinity s' => rw [hx] at hsame; exact hsame.elim
    | number s' m' i' =>
      rw [hx] at hsame
      obtain ⟨rfl, b, hb1, hb2, hv⟩ := hsame
      have hm' := double_small hx
      have p1 : 0 < 2 ^ (i' - b).toNat := Nat.two_pow_pos _
      have p2 : 0 < 2 ^ (i - b).toNat := Nat.two_pow_pos _
      by_cases h0 : m = 0
      · subst h0
        rw [Nat.zero_mul] at hv
        obtain rfl : m' = 0 := by rcases Nat.mul_eq_zero.1 hv with h | h <;> omega
        simp only [Ieee.Datum.root, if_true, Option.map_some]
        have e1 : Ieee.double.write (.number s' 0 i') = Ieee.double.word s' 0 := by
          show Ieee.double.nearest s' 0 i' = _
          rw [Fl.nearest_rung, Fl.rung_zero]
        have e2 : Ieee.single.write (.number s' 0 i) = Ieee.single.word s' 0 := by
          show Ieee.single.nearest s' 0 i = _
          rw [Fl.nearest_rung, Fl.rung_zero]
        rw [e1, e2]
        refine ⟨Ieee.single.word s' 0, ?_, rfl⟩
        have hr := Fl.read_word_sub Ieee.double s' 0 (by decide)
        have h1 : Ieee.single.nearest s' 0 Ieee.double.leastPlace = Ieee.single.word s' 0 := by rw [Fl.nearest_rung, Fl.rung_zero]
        rw [f2f_number hr (by rw [h1]; exact number_not_inf s' (by decide)), h1]
      · have h0' : m' ≠ 0 := by
          rintro rfl
          rw [Nat.zero_mul] at hv
          rcases Nat.mul_eq_zero.1 hv.symm with h | h <;> omega
        cases s'
        · -- a number above 0
          have hii : (i - i').toNat + 2 ≤ 2 * 100 := by
            by_cases hle : i ≤ i'
            · omega
            · have e1 : (i - b).toNat = (i' - b).toNat + (i - i').toNat := by omega
              rw [e1, Nat.pow_add, Nat.mul_left_comm, Nat.mul_comm m'] at hv
              have hq := Nat.eq_of_mul_eq_mul_left p1 hv
              have h3 : 2 ^ (i - i').toNat < 2 ^ 53 := by
                refine Nat.lt_of_le_of_lt ?_ hm'
                rw [hq]
                exact Nat.le_mul_of_pos_left _ (by omega)
              have := (Nat.pow_lt_pow_iff_right (by decide : 1 < 2)).1 h3
              omega
          have ha : m * 2 ^ (i % 2).toNat ≠ 0 := by
            intro h
            have := Nat.two_pow_pos (i % 2).toNat
            rcases Nat.mul_eq_zero.1 h with h | h <;> omega
          have ha2 : m * 2 ^ (i % 2).toNat < 2 ^ 25 := by
            have h1 : m * 2 ^ (i % 2).toNat ≤ m * 2 ^ 1 := Nat.mul_le_mul_left _ (Nat.pow_le_pow_right (by decide) (by omega))
            omega
          have hR := Fl.root_is (m * 2 ^ (i % 2).toNat * 4 ^ 100)
          generalize Ieee.Datum.rootFrom (m * 2 ^ (i % 2).toNat * 4 ^ 100) _ 0 = R at hR
          obtain ⟨k1, k2, k3, k4⟩ := Fl.narrow_rung (m * 2 ^ (i % 2).toNat) 100 R ((i - i % 2) / 2 - 1 - (100 : Nat)) ha ha2 rfl hR (by omega) (by omega)
          obtain ⟨S1, q1, j1, j2, j3⟩ := Fl.root_rung Ieee.single m i h0
          have j4 := j3 100 R hR (Nat.le_trans (by decide) k4)
          obtain ⟨S2, q2, l1, l2, l3⟩ := Fl.root_same Ieee.double h0 hb2 hb1 hv.symm 100 R hR (Nat.le_trans (by decide) k4) hii
          have e1 : ((Ieee.Datum.number false m' i').root (Ieee.double.fractionBits + 2)).map Ieee.double.write = some (Ieee.double.word false (Fl.rung Ieee.double (Fl.rs (m * 2 ^ (i % 2).toNat * 4 ^ 100) R) ((i - i % 2) / 2 - 1 - (100 : Nat)))) := by
            rw [l1, ← l3, ← Fl.nearest_rung]; rfl
          have e2 : ((Ieee.Datum.number false m i).root (Ieee.single.fractionBits + 2)).map Ieee.single.write = some (Ieee.single.word false (Fl.rung Ieee.single (Fl.rs (m * 2 ^ (i % 2).toNat * 4 ^ 100) R) ((i - i % 2) / 2 - 1 - (100 : Nat)))) := by
            rw [j1, ← j4, ← Fl.nearest_rung]; rfl
          rw [e1, e2]
          refine ⟨_, ?_, rfl⟩
          have hne : Fl.rs (m * 2 ^ (i % 2).toNat * 4 ^ 100) R ≠ 0 := by
            have : 0 < 2 ^ 100 := Nat.two_pow_pos _
            omega
          have hread := Fl.read_rung Ieee.double false hne ((i - i % 2) / 2 - 1 - (100 : Nat)) k1
          generalize Fl.rs (m * 2 ^ (i % 2).toNat * 4 ^ 100) R = S at *
          generalize (i - i % 2) / 2 - 1 - ((100 : Nat) : Int) = Q at *
          obtain ⟨mm, pp, r1, r2, r3, r4, r5⟩ := Fl.read_number Ieee.double false _ k1
          rw [r1] at hread
          obtain ⟨-, c, c1, c2, c3⟩ := hread
          have hz : Ieee.single.nearest false mm pp = Ieee.single.word false (Fl.rung Ieee.single S Q) := by
            rw [Fl.nearest_rung, Fl.rung_same Ieee.single c1 c2 c3, k2]
          show floatToFloatBits .f64 _ .f32 = some _
          rw [f2f_number r1 (by rw [hz]; exact number_not_inf false k3), hz]
        · simp only [Ieee.Datum.root, h0, h0', if_false, if_true, Option.map_none]
end Go.Proofs.YtmoimcblmmcffaaDoor.NC

/-! Powers: both sides compute the same, as contracts. -/
namespace Go.Proofs.YtmoimcblmmcffaaDoor.NC
open Go.RowKit Go.Proofs.YtmoimcblmmcffaaDoor.B Go.Proofs.YtmoimcblmmcffaaDoor.N
set_option linter.unusedSimpArgs false
set_option linter.unusedVariables false

theorem rg_nat {s : Bool} {a : Nat} (h : a < 2 * signN s) : Rg s (a : Int) := ⟨by omega, by rw [top_sgn]; exact_mod_cast h⟩
theorem nat_rg {s : Bool} {a : Nat} (h : Rg s (a : Int)) : a < 2 * signN s := by have := h.2; rw [top_sgn] at this; exact_mod_cast this
theorem mulR_lt {s : Bool} {a b : Nat} (ha : a < 2 * signN s) (hb : b < 2 * signN s) : mulR s a b < 2 * signN s := by
  have := res_rg s .mul a b
  rw [mul_eq ha hb] at this
  exact nat_rg this
theorem divR_lt {s : Bool} {a b : Nat} (ha : a < 2 * signN s) (hb : b < 2 * signN s) : divR s a b < 2 * signN s := by
  have := res_rg s .quo a b
  rw [div_eq ha hb] at this
  exact nat_rg this
theorem fromR_lt (s : Bool) (n : Int) : fromR s n < 2 * signN s := by
  unfold fromR
  rw [round_near]
  have h := (fm s).nearest_lt (decide (n < 0)) n.natAbs 0
  have e : 2 ^ (fm s).width = 2 * signN s := by cases s <;> rfl
  rwa [e] at h

/-- The bits of a size, from the greatest one on. -/
def powL (s : Bool) (size a : Nat) : Nat → Nat → Nat
  | 0, o => o
  | i + 1, o => powL s size a i (if size < 2 ^ i then o else if size / 2 ^ i % 2 = 1 then mulR s (mulR s o o) a else mulR s o o)
def powR (s : Bool) (a : Nat) (n : Int) : Nat := if n < 0 then divR s (fromR s 1) (powL s n.natAbs a 32 (fromR s 1)) else powL s n.natAbs a 32 (fromR s 1)
theorem powL_lt {s : Bool} {size a : Nat} (ha : a < 2 * signN s) : ∀ (i o : Nat), o < 2 * signN s → powL s size a i o < 2 * signN s
  | 0, o, h => h
  | i + 1, o, h => by
    unfold powL
    refine powL_lt ha i _ ?_
    split
    · exact h
    · split
      · exact mulR_lt (mulR_lt h h) ha
      · exact mulR_lt h h

/-- What 'apply' gives for products and quotients. -/
theorem apply_mul (s : Bool) (a b : Nat) (w : World) (ha : a < 2 * signN s) (hb : b < 2 * signN s) : Calls Tryd.prog 45 #[.int .i64 2, .int .i64 (tv s), .int .u64 (a : Int), .int .u64 (b : Int)] w (Ret (.int .u64 (mulR s a b : Int)) w) := by
  have h := apply_c 2 s (a : Int) (b : Int) w (rg_nat ha).u64 (rg_nat hb).u64 (rg_nat ha).2 (rg_nat hb).2 (by decide) (by decide)
  rw [← mul_eq ha hb]
  exact h
theorem apply_quo (s : Bool) (a b : Nat) (w : World) (ha : a < 2 * signN s) (hb : b < 2 * signN s) : Calls Tryd.prog 45 #[.int .i64 3, .int .i64 (tv s), .int .u64 (a : Int), .int .u64 (b : Int)] w (Ret (.int .u64 (divR s a b : Int)) w) := by
  have h := apply_c 3 s (a : Int) (b : Int) w (rg_nat ha).u64 (rg_nat hb).u64 (rg_nat ha).2 (rg_nat hb).2 (by decide) (by decide)
  rw [← div_eq ha hb]
  exact h

theorem nat_and_pow (n i : Nat) : n &&& 2 ^ i = if n / 2 ^ i % 2 = 1 then 2 ^ i else 0 := by
  have hb : n.testBit i = decide (n / 2 ^ i % 2 = 1) := Nat.testBit_eq_decide_div_mod_eq
  refine Nat.eq_of_testBit_eq (fun j => ?_)
  rw [Nat.testBit_and, Nat.testBit_two_pow]
  by_cases hj : i = j
  · subst hj
    rw [hb]
    by_cases h : n / 2 ^ i % 2 = 1
    · simp [h]
    · simp [h]
  · by_cases h : n / 2 ^ i % 2 = 1
    · simp [h, hj, Nat.testBit_two_pow]
    · simp [h, hj]
theorem and_bit (n i : Nat) (hn : n < 18446744073709551616) (hi : i < 64) : (bits .and .u64 (n : Int) ((2 ^ i : Nat) : Int) != 0) = decide (n / 2 ^ i % 2 = 1) := by
  have h2 : (2 : Nat) ^ i < 18446744073709551616 := Nat.lt_of_lt_of_le (Nat.pow_lt_pow_right (by decide) hi) (by decide)
  have hk := nat_and_pow n i
  have hp : 0 < 2 ^ i := Nat.two_pow_pos _
  generalize 2 ^ i = B at *
  rw [u64_and _ _ (by omega) (by omega) (by omega) (by omega)]
  show (((n &&& B : Nat) : Int) != 0) = _
  rw [hk]
  by_cases h : n / B % 2 = 1
  · rw [decide_eq_true h, if_pos h]; simp; omega
  · rw [decide_eq_false h, if_neg h]; simp
end Go.Proofs.YtmoimcblmmcffaaDoor.NC

/-! Package reals: powers, as contracts. -/
namespace Go.Proofs.YtmoimcblmmcffaaDoor.NC
open Go.RowKit Go.Proofs.YtmoimcblmmcffaaDoor.B Go.Proofs.YtmoimcblmmcffaaDoor.N
set_option linter.unusedSimpArgs false
set_option linter.unusedVariables false

def powErrV (t a n : Int) : Int := if validV t [a] = 0 then rangedV n (-2147483648) 2147483647 else validV t [a]
theorem PowerOf_bad (t a n : Int) (w : World) (ha : U64 a) (he : powErrV t a n ≠ 0) : Calls Tryd.prog 26 #[.int .i64 t, .int .u64 a, .int .i64 n] w (Ret (orErr (powErrV t a n) 0) w) := by
  have c1 := fun g w => valid1_c t a g w ha
  have c2 := fun w => ranged_c n (-2147483648) 2147483647 w
  have c3 := fun w => either_c (validV t [a]) (rangedV n (-2147483648) 2147483647) w
  have hq : (if validV t [a] = 0 then rangedV n (-2147483648) 2147483647 else validV t [a]) = powErrV t a n := rfl
  rw [hq] at c3
  unfold orErr
  rw [if_neg he]
  clear ha hq
  generalize powErrV t a n = e at *
  generalize validV t [a] = v at *
  generalize rangedV n (-2147483648) 2147483647 = v2 at *
  have he1 : (e != 0) = true := by simpa using he
  clear he
  go_enter Tryd.func26, Tryd.ntmps26
  go_wp2_with (first | (go_at_call 44; refine (c1 _ _ (by go_simp)).mono ?_; rintro e w1 ⟨rfl, hb1⟩; have HE := Ext.next (w0 := w) (W := w) hb1) | (go_at_call 62; refine (c2 _).mono ?_; rintro e w2 ⟨rfl, hb2⟩; have HE2 := HE.call hb2) | (go_at_call 42; refine (c3 _).mono ?_; rintro e w3 ⟨rfl, hb3⟩; have HE3 := HE2.call hb3))
  go_ret2
  exact ⟨rfl, Ext.end HE3⟩

set_option maxRecDepth 100000 in
set_option maxHeartbeats 8000000 in
theorem PowerOf_ok (s : Bool) (a : Nat) (n : Int) (w : World) (ha : a < 2 * signN s) (h0 : -2147483648 ≤ n) (h1 : n ≤ 2147483647) : Calls Tryd.prog 26 #[.int .i64 (tv s), .int .u64 (a : Int), .int .i64 n] w (Ret (orErr 0 (powR s a n : Int)) w) := by
  have c1 := fun g w => valid1_c (tv s) (a : Int) g w (rg_nat ha).u64
  rw [(rg_nat ha).valid1] at c1
  have c2 := fun w => ranged_c n (-2147483648) 2147483647 w
  have hr : rangedV n (-2147483648) 2147483647 = 0 := by unfold rangedV; rw [if_neg (by omega), if_neg (by omega)]
  rw [hr] at c2
  have c3 := fun w => either_c 0 0 w
  rw [if_pos rfl] at c3
  have cf := fun w => fromInteger_c (tv s) 1 w
  rw [tv_eq, from_eq] at cf
  have hf := fromR_lt s 1
  unfold orErr
  rw [if_pos rfl]
  obtain ⟨F, hF⟩ : ∃ F, powR s a n = F := ⟨_, rfl⟩
  rw [hF]
  unfold powR at hF
  generalize fromR s 1 = one at *
  obtain ⟨G, hG⟩ : ∃ G, powL s n.natAbs a 32 one = G := ⟨_, rfl⟩
  rw [hG] at hF
  have hGlt : G < 2 * signN s := by rw [← hG]; exact powL_lt ha 32 one hf
  have hsz : n.natAbs ≤ 2147483648 := by omega
  have ca := fun x y w hx hy => apply_mul s x y w hx hy
  have cq := fun w => apply_quo s one G w hf hGlt
  have HA := Lib.hid ca
  clear ca hr
  have hmn : wrap64 (-n) = -n := wr (by omega) (by omega)
  have hmx : (n ≤ -n ∧ -n = (n.natAbs : Int)) ∨ (-n < n ∧ n = (n.natAbs : Int)) := by omega
  obtain ⟨S, hS⟩ : ∃ S, n.natAbs = S := ⟨_, rfl⟩
  rw [hS] at hG hsz hmx
  clear hS
  have HG := Lib.hid hG
  have HF := Lib.hid hF
  have HLT := Lib.hid hf
  have HAL := Lib.hid ha
  clear hG hF hf ha hGlt
  go_enter Tryd.func26, Tryd.ntmps26
  go_upto_region 5 with (first | (go_at_call 44; refine (c1 _ _ (by go_simp)).mono ?_; rintro e w1 ⟨rfl, hb1⟩; have HE := Ext.next (w0 := w) (W := w) hb1) | (go_at_call 62; refine (c2 _).mono ?_; rintro e w2 ⟨rfl, hb2⟩; have HE2 := HE.call hb2) | (go_at_call 42; refine (c3 _).mono ?_; rintro e w3 ⟨rfl, hb3⟩; have HE3 := HE2.call hb3) | (go_at_call 63; refine (cf _).mono ?_; rintro e w4 ⟨rfl, hb4⟩; have HE4 := HE3.call hb4))
  go_cut [10, 11] (fun v10 v11 wc => v10 = .int .u64 (S : Int) ∧ v11 = .int .u64 (one : Int) ∧ wc = w4)
  case first =>
    have hw : IntKind.u64.wrap (S : Int) = (S : Int) := kuwrap (by omega)
    go_wp2
    all_goals
      go_meet
      refine ⟨?_, rfl, rfl⟩
      congr 1
      omega
  case rest =>
    obtain ⟨rfl, rfl, rfl⟩ := hcut
    generalize wc = V at *
    have hbV := Ext.end HE4
    clear HE HE2 HE3 HE4 hb1 hb2 hb3 hb4 c1 c2 c3 cf hmn
    go_wp2
    go_loopw [11, 12] (fun v11 v12 wr => ∃ i o : Nat, i ≤ 32 ∧ v11 = .int .u64 (o : Int) ∧ v12 = .int .u64 (if i = 0 then 0 else ((2 ^ (i - 1) : Nat) : Int)) ∧ o < 2 * signN s ∧ Hid (powL s S a i o = G) ∧ Below w.heap.size w wr) (fun _ v12 _ => (intOf v12).toNat)
    case atStart => exact ⟨32, one, Nat.le_refl _, rfl, rfl, HLT.out, HG, hbV⟩
    case round =>
      obtain ⟨i, o, hi, rfl, rfl, ho, hG, hb⟩ := hrel
      cases i with
      | zero =>
        have hGo : o = G := by have := hG.out; unfold powL at this; exact this
        subst hGo
        simp only [if_true]
        have hF := HF.out
        clear HG hG HF
        by_cases hn : n < 0
        · rw [if_pos hn] at hF
          subst hF
          have HQ := cq wr
          clear cq HA HLT HAL
          go_wp2_with (go_at_call 45; refine HQ.mono ?_; rintro e w5 ⟨rfl, hb5⟩)
          go_ret2
          exact ⟨rfl, below_call hb hb5⟩
        · rw [if_neg hn] at hF
          subst hF
          clear cq HA HLT HAL
          go_wp2
          go_ret2
          exact ⟨rfl, hb⟩
      | succ j =>
        have hstep := hG.out
        unfold powL at hstep
        have hbit := and_bit S j (by omega) (by omega)
        have hBle : 2 ^ j ≤ 2 ^ 31 := Nat.pow_le_pow_right (by decide) (by omega)
        have hBpos : 0 < 2 ^ j := Nat.two_pow_pos _
        have hhalf : ((2 ^ j : Nat) : Int) / 2 = (if j = 0 then 0 else ((2 ^ (j - 1) : Nat) : Int)) := by
          cases j with
          | zero => decide
          | succ k => rw [if_neg (by omega), Nat.add_sub_cancel, Nat.pow_succ]; omega
        have c1 := HA.out o o wr ho ho
        have hm1 := mulR_lt ho ho
        have c2 := fun w' => HA.out (mulR s o o) a w' hm1 HAL.out
        have hm2 := mulR_lt hm1 HAL.out
        simp only [Nat.add_sub_cancel, if_neg (Nat.succ_ne_zero j)]
        clear hG HG HF cq hmx
        obtain ⟨hd, hhd⟩ : ∃ z, (if j = 0 then (0 : Int) else ((2 ^ (j - 1) : Nat) : Int)) = z := ⟨_, rfl⟩
        rw [hhd] at hhalf
        generalize 2 ^ j = B at *
        have HH := Lib.hid hhalf
        have HD := Lib.hid hhd
        have HS := Lib.hid hstep
        have HM1 := Lib.hid hm1
        have HM2 := Lib.hid hm2
        have HO := Lib.hid ho
        clear hhalf hhd hstep hm1 hm2 ho
        generalize mulR s o o = o2 at *
        generalize mulR s o2 a = o3 at *
        by_cases hlt : S < B
        · clear c1 c2 hbit
          go_wp2
          go_roundw
          case rel => exact ⟨j, o, by omega, rfl, by rw [HD.out, ← HH.out], HO.out, (by have := HS.out; rw [if_pos hlt] at this; exact this), hb⟩
          case measure => simp [intOf]; omega
        · by_cases hbt : S / B % 2 = 1
          · rw [decide_eq_true hbt] at hbit
            go_wp2_with (first | (go_at_call 45; (with_reducible refine (c1).mono ?_); rintro e w5 ⟨rfl, hb5⟩) | (go_at_call 45; (with_reducible refine (c2 _).mono ?_); rintro e w6 ⟨rfl, hb6⟩))
            go_roundw
            case rel => exact ⟨j, o3, by omega, rfl, by rw [HD.out, ← HH.out], HM2.out, (by have := HS.out; rw [if_neg hlt, if_pos hbt] at this; exact this), below_call (below_call hb hb5) hb6⟩
            case measure => simp [intOf]; omega
          · rw [decide_eq_false hbt] at hbit
            go_wp2_with (first | (go_at_call 45; (with_reducible refine (c1).mono ?_); rintro e w5 ⟨rfl, hb5⟩))
            go_roundw
            case rel => exact ⟨j, o2, by omega, rfl, by rw [HD.out, ← HH.out], HM1.out, (by have := HS.out; rw [if_neg hlt, if_neg hbt] at this; exact this), below_call hb hb5⟩
            case measure => simp [intOf]; omega
end Go.Proofs.YtmoimcblmmcffaaDoor.NC

/-! The reference's powers, as a contract. -/
namespace Go.Proofs.YtmoimcblmmcffaaDoor.NC
open Go.RowKit Go.Proofs.YtmoimcblmmcffaaDoor.B Go.Proofs.YtmoimcblmmcffaaDoor.N
set_option linter.unusedSimpArgs false
set_option linter.unusedVariables false

set_option maxRecDepth 100000 in
set_option maxHeartbeats 8000000 in
theorem powerR_c (s : Bool) (a : Nat) (n : Int) (w : World) (ha : a < 2 * signN s) (h0 : -2147483648 ≤ n) (h1 : n ≤ 2147483647) : Calls Tryd.prog 31 #[.int .i64 (tv s), .int .u64 (a : Int), .int .i64 n] w (Ret (.int .u64 (powR s a n : Int)) w) := by
  have hone : roundR s false 1 0 false = fromR s 1 := rfl
  have cr : ∀ (w : World) (A' : Option Addr), Big w A' 1 → Calls Tryd.prog 59 #[.int .i64 (tv s), .bool false, .slice A' 1 1, .int .i64 0, .bool false] w (Ret (.int .u64 (fromR s 1 : Int)) w) := by
    intro w A' h
    have := round_c s false 1 0 false A' 1 w h (by rw [digs_one]; exact Nat.le_refl 1) (by rw [digs_one]; decide) (by decide) (by decide)
    rw [digs_one] at this
    exact this
  have hf := fromR_lt s 1
  obtain ⟨F, hF⟩ : ∃ F, powR s a n = F := ⟨_, rfl⟩
  rw [hF]
  have cs := fun w => size_c w n (by omega) (by omega)
  unfold powR at hF
  generalize fromR s 1 = one at *
  obtain ⟨G, hG⟩ : ∃ G, powL s n.natAbs a 32 one = G := ⟨_, rfl⟩
  rw [hG] at hF
  have hGlt : G < 2 * signN s := by rw [← hG]; exact powL_lt ha 32 one hf
  have hsz : n.natAbs ≤ 2147483648 := by omega
  have ca : ∀ x y w, x < 2 * signN s → y < 2 * signN s → _ := fun x y w hx hy => mul_c s x y w (rg_nat hx).2 (rg_nat hy).2
  have cq := fun w => div_c s one G w (rg_nat hf).2 (rg_nat hGlt).2
  have HA := Lib.hid ca
  have hz0 : n = 0 → G = one := by
    rintro rfl
    rw [← hG]
    show powL s 0 a 32 one = one
    have hz : ∀ i o, powL s 0 a i o = o := by
      intro i
      induction i with
      | zero => intro o; rfl
      | succ i ih => intro o; unfold powL; rw [if_pos (Nat.two_pow_pos _)]; exact ih o
    exact hz 32 one
  clear ca hone
  obtain ⟨S, hS⟩ : ∃ S, n.natAbs = S := ⟨_, rfl⟩
  rw [hS] at hG hsz cs
  clear hS
  have HG := Lib.hid hG
  have HF := Lib.hid hF
  have HLT := Lib.hid hf
  have HAL := Lib.hid ha
  clear hG hF hf ha hGlt
  by_cases hn0 : n = 0
  · have hG1 := hz0 hn0
    have hF := HF.out
    rw [if_neg (by omega)] at hF
    subst hF
    subst hG1
    subst hn0
    clear HA HG HF HLT HAL cs cq hz0
    go_enter Tryd.func31, Tryd.ntmps31
    go_wp2_with (go_at_call 59; refine (cr _ _ (big_lit digs_one)).mono ?_; rintro e w2 ⟨rfl, hb2⟩)
    go_ret
    exact ⟨rfl, below_call (below_alloc0 (Below.refl _ _) _) hb2⟩
  · have f0 : (n == 0) = false := by simpa using hn0
    clear hz0 hn0
    go_enter Tryd.func31, Tryd.ntmps31
    go_wp2_with (first | (go_at_call 59; refine (cr _ _ (big_lit digs_one)).mono ?_; rintro e w2 ⟨rfl, hb2⟩) | (go_at_call 65; refine (cs _).mono ?_; rintro e w3 ⟨rfl, hb3⟩))
    have hbV : Below w.heap.size w w3 := below_call (below_call (below_alloc0 (Below.refl _ _) _) hb2) hb3
    generalize w3 = V at *
    clear hb2 hb3 cr cs
    go_loopw [8, 10] (fun v8 v10 wr => ∃ k o : Nat, ∃ z : Int, k ≤ 32 ∧ v8 = .int .u64 (o : Int) ∧ v10 = .int .i64 z ∧ z = (k : Int) - 1 ∧ o < 2 * signN s ∧ Hid (powL s S a k o = G) ∧ Below w.heap.size w wr) (fun _ v10 _ => (intOf v10 + 1).toNat)
    case atStart => exact ⟨32, one, 31, Nat.le_refl _, rfl, rfl, rfl, HLT.out, HG, hbV⟩
    case round =>
      obtain ⟨k, o, z, hk, rfl, rfl, hz, ho, hG, hb⟩ := hrel
      cases k with
      | zero =>
        have hz' : z < 0 := by omega
        clear hz
        have hGo : o = G := by have := hG.out; unfold powL at this; exact this
        subst hGo
        have hF := HF.out
        clear HG hG HF
        by_cases hn : n < 0
        · rw [if_pos hn] at hF
          subst hF
          have HQ := cq wr
          clear cq HA HLT HAL
          go_wp2_with (go_at_call 50; refine HQ.mono ?_; rintro e w5 ⟨rfl, hb5⟩)
          go_ret
          exact ⟨rfl, below_call hb hb5⟩
        · rw [if_neg hn] at hF
          subst hF
          clear cq HA HLT HAL
          go_wp2
          go_ret
          exact ⟨rfl, hb⟩
      | succ j =>
        obtain rfl : z = (j : Int) := by omega
        have hstep := hG.out
        unfold powL at hstep
        have hBle : 2 ^ j ≤ 2 ^ 31 := Nat.pow_le_pow_right (by decide) (by omega)
        have hBpos : 0 < 2 ^ j := Nat.two_pow_pos _
        have cp := fun w => power_c w (n := j) (by omega)
        have c1 := fun w => HA.out o o w ho ho
        have hm1 := mulR_lt ho ho
        have c2 := fun w' => HA.out (mulR s o o) a w' hm1 HAL.out
        have hm2 := mulR_lt hm1 HAL.out
        clear hG HG HF cq hz
        generalize 2 ^ j = B at *
        have hd1 : ((S : Int) / (B : Int) == 0) = decide (S < B) := by
          rw [← Int.natCast_ediv, Bool.eq_iff_iff]
          simp only [beq_iff_eq, decide_eq_true_eq]
          have := Nat.div_eq_zero_iff (a := S) (b := B)
          omega
        have hw : wrap64 ((S : Int) / (B : Int)) = (S : Int) / (B : Int) := by
          rw [← Int.natCast_ediv]
          have := Nat.div_le_self S B
          exact wr_nat (by omega)
        have hd2 : (((S : Int) / (B : Int)).tmod 2 == 1) = decide (S / B % 2 = 1) := by
          rw [← Int.natCast_ediv, Bool.eq_iff_iff]
          simp only [beq_iff_eq, decide_eq_true_eq]
          generalize S / B = q
          show ((q % 2 : Nat) : Int) = 1 ↔ _
          omega
        have HS := Lib.hid hstep
        have HM1 := Lib.hid hm1
        have HM2 := Lib.hid hm2
        have HO := Lib.hid ho
        clear hstep hm1 hm2 ho
        generalize mulR s o o = o2 at *
        generalize mulR s o2 a = o3 at *
        by_cases hlt : S < B
        · rw [decide_eq_true hlt] at hd1
          clear c1 c2 hd2
          go_wp2_with (first | (go_at_call 61; refine (cp _).mono ?_; rintro e w4 ⟨rfl, hb4⟩))
          go_roundw
          case rel => exact ⟨j, o, _, by omega, rfl, rfl, rfl, HO.out, (by have := HS.out; rw [if_pos hlt] at this; exact this), below_call hb hb4⟩
          case measure => simp [intOf] <;> omega
        · rw [decide_eq_false hlt] at hd1
          by_cases hbt : S / B % 2 = 1
          · rw [decide_eq_true hbt] at hd2
            go_upto_region 10 with (go_at_call 61; refine (cp _).mono ?_; rintro e w4 ⟨rfl, hb4⟩)
            go_upto_region 11 with (go_at_call 49; (with_reducible refine (c1 _).mono ?_); rintro e w5 ⟨rfl, hb5⟩)
            go_upto_region 12 with (go_at_call 61; refine (cp _).mono ?_; rintro e w6 ⟨rfl, hb6⟩)
            go_wp2_with (go_at_call 49; (with_reducible refine (c2 _).mono ?_); rintro e w7 ⟨rfl, hb7⟩)
            go_roundw
            case rel => exact ⟨j, o3, _, by omega, rfl, rfl, rfl, HM2.out, (by have := HS.out; rw [if_neg hlt, if_pos hbt] at this; exact this), below_call (below_call (below_call (below_call hb hb4) hb5) hb6) hb7⟩
            case measure => simp [intOf] <;> omega
          · rw [decide_eq_false hbt] at hd2
            go_upto_region 10 with (go_at_call 61; refine (cp _).mono ?_; rintro e w4 ⟨rfl, hb4⟩)
            go_upto_region 11 with (go_at_call 49; (with_reducible refine (c1 _).mono ?_); rintro e w5 ⟨rfl, hb5⟩)
            go_wp2_with (go_at_call 61; refine (cp _).mono ?_; rintro e w6 ⟨rfl, hb6⟩)
            go_roundw
            case rel => exact ⟨j, o2, _, by omega, rfl, rfl, rfl, HM1.out, (by have := HS.out; rw [if_neg hlt, if_neg hbt] at this; exact this), below_call (below_call (below_call hb hb4) hb5) hb6⟩
            case measure => simp [intOf] <;> omega
end Go.Proofs.YtmoimcblmmcffaaDoor.NC

/-! Package reals: the split product at the document's example, as a contract. -/
namespace Go.Proofs.YtmoimcblmmcffaaDoor.NC
open Go.RowKit Go.Proofs.YtmoimcblmmcffaaDoor.B Go.Proofs.YtmoimcblmmcffaaDoor.N
set_option linter.unusedSimpArgs false
set_option linter.unusedVariables false

def XA : Nat := 4607182419336888320
def XP : Nat := 4607182419873759232
def XQ : Nat := 4607182419873759296
def XL : Nat := 4400016835940974592
theorem conv_a (w : World) : (convert 82 78 (.float .f32 1065353217)).run Tryd.prog w = .ok (.float .f64 XA) w := by kernel_rfl
theorem conv_p (w : World) : (convert 82 78 (.float .f32 1065353218)).run Tryd.prog w = .ok (.float .f64 XP) w := by kernel_rfl
theorem conv_l (w : World) : (convert 78 82 (.float .f64 XL)).run Tryd.prog w = .ok (.float .f32 679477248) w := by kernel_rfl
theorem conv_b (w : World) : (convert 82 78 (.float .f32 679477248)).run Tryd.prog w = .ok (.float .f64 XL) w := by kernel_rfl
theorem mul_k (w : World) : (binOp .mul 78 (.float .f64 XA) (.float .f64 XA)).run Tryd.prog w = .ok (.float .f64 XQ) w := by kernel_rfl
theorem sub_k (w : World) : (binOp .sub 78 (.float .f64 XQ) (.float .f64 XP)).run Tryd.prog w = .ok (.float .f64 XL) w := by kernel_rfl

theorem wide_a (w : World) : Calls Tryd.prog 56 #[.int .i64 1, .int .u64 1065353217] w (Ret (.float .f64 XA) w) := by
  have c1 := fun w => real32_c 1065353217 w (by decide) (by decide)
  have c2 := conv_a
  generalize XA = X at *
  go_enter Tryd.func56, Tryd.ntmps56
  go_wp2_with (go_at_call 95; refine (c1 _).mono ?_; rintro e w1 ⟨rfl, hb1⟩)
  go_ret
  exact ⟨rfl, hb1⟩
theorem wide_p (w : World) : Calls Tryd.prog 56 #[.int .i64 1, .int .u64 1065353218] w (Ret (.float .f64 XP) w) := by
  have c1 := fun w => real32_c 1065353218 w (by decide) (by decide)
  have c2 := conv_p
  generalize XP = X at *
  go_enter Tryd.func56, Tryd.ntmps56
  go_wp2_with (go_at_call 95; refine (c1 _).mono ?_; rintro e w1 ⟨rfl, hb1⟩)
  go_ret
  exact ⟨rfl, hb1⟩

theorem splitErr_k (w : World) : Calls Tryd.prog 82 #[.int .i64 1, .int .u64 1065353217, .int .u64 1065353217] w (Ret (.int .i64 0) w) := by
  have c1 := fun g w => valid2_c 1 1065353217 1065353217 g w (by decide) (by decide)
  have hv : validV 1 [1065353217, 1065353217] = 0 := by decide
  rw [hv] at c1
  have c2 := layoutOf_c 1
  have c3 := sign_c true
  have c4 := infinite_c true
  have ha : bits .andNot .u64 1065353217 2147483648 = 1065353217 := by decide
  simp only [layV, signV, infV, show ((1 : Int) == 1) = true from rfl] at c2 c3 c4
  clear hv
  go_enter Tryd.func82, Tryd.ntmps82
  go_upto_region 5 with (first | (go_at_call 44; refine (c1 _ _ (by go_simp) (by go_simp)).mono ?_; rintro e w1 ⟨rfl, hb1⟩; have HE := Ext.next (w0 := w) (W := w) hb1) | (go_at_call 68; refine (c2 _).mono ?_; rintro e w2 ⟨rfl, hb2⟩; have HE2 := HE.call hb2))
  refine hide1 w (fun W k0 s0 HW => ?_)
  go_region_held3 (fun w' => Ext w W w') (first | exact Ext.drew (by assumption) | exact Ext.next (by assumption)) (first | (go_at_call 70; refine (c3 _).mono ?_; rintro e w1 ⟨rfl, hb1⟩; have HEE : Ext w W w1 := Ext.call (by assumption) hb1) | (go_at_call 81; refine (c4 _).mono ?_; rintro e w1 ⟨rfl, hb1⟩; have HEE : Ext w W w1 := Ext.call (by assumption) hb1))
  all_goals
    go_wp2
    go_ret
    exact ⟨rfl, Ext.end (by assumption)⟩

theorem plain_k (w : World) : Calls Tryd.prog 83 #[layV true, .int .u64 679477248] w (Ret (.int .u64 679477248) w) := by
  have c1 := fun w => isZero_c true 679477248 w
  have hz : zeroV true 679477248 = false := by decide
  rw [hz] at c1
  simp only [layV] at *
  go_enter Tryd.func83, Tryd.ntmps83
  go_upto_region 1 with (fail)
  refine hide1 w (fun W k0 s0 HE => ?_)
  go_wp2_with (go_at_call 79; refine (c1 _).mono ?_; rintro e w1 ⟨rfl, hb1⟩; have HE := Ext.next (w0 := w) (W := W) hb1)
  go_ret
  exact ⟨rfl, Ext.end⟩

set_option maxRecDepth 100000 in
set_option maxHeartbeats 4000000 in
theorem split_k (w : World) : Calls Tryd.prog 41 #[.int .i64 1, .int .u64 1065353217, .int .u64 1065353217] w (Ret (.tuple #[.int .u64 1065353218, .int .u64 679477248, .int .i64 0]) w) := by
  have c1 := splitErr_k
  have c2 := layoutOf_c 1
  have hm : applyV 2 true 1065353217 1065353217 = 1065353218 := by decide +kernel
  have c3 := fun w => apply_c 2 true 1065353217 1065353217 w (by decide) (by decide) (by decide) (by decide) (by decide) (by decide)
  rw [hm] at c3
  simp only [if_true] at c3
  have c4 := fun w => isInfinite_c true 1065353218 w
  have hi : infiniteV true 1065353218 = false := by decide
  rw [hi] at c4
  have c5 := wide_a
  have c6 := wide_p
  have c7 := fun w => bits32_c 679477248 w (by decide)
  have hc : cleanV true ((679477248 : Nat) : Int) = 679477248 := by decide
  rw [hc] at c7
  have c8 := plain_k
  have h1 := mul_k
  have h2 := sub_k
  have h3 := conv_l
  have h4 := conv_b
  have h5 : (FloatKind.f64.format.order XL XL != some .eq) = false := by decide +kernel
  simp only [layV, show ((1 : Int) == 1) = true from rfl] at c2 c4 c8
  generalize XA = xa at *
  generalize XP = xp at *
  generalize XQ = xq at *
  generalize XL = xl at *
  clear hm hi hc
  go_enter Tryd.func41, Tryd.ntmps41
  go_upto_region 5 with (first | (go_at_call 82; refine (c1 _).mono ?_; rintro e w1 ⟨rfl, hb1⟩) | (go_at_call 68; refine (c2 _).mono ?_; rintro e w2 ⟨rfl, hb2⟩))
  refine hide1 w (fun W k0 s0 HW => ?_) (below_call hb1 hb2)
  go_upto_region 9 with (first | (go_at_call 45; refine (c3 _).mono ?_; rintro e w3 ⟨rfl, hb3⟩; have HE3 := HW.call hb3) | (go_at_call 78; refine (c4 _).mono ?_; rintro e w4 ⟨rfl, hb4⟩; have HE4 := HE3.call hb4))
  go_upto_region 12 with (first | (go_at_call 56; (with_reducible refine (c5 _).mono ?_); rintro e w5 ⟨rfl, hb5⟩; have HE4 := HE4.call hb5) | (go_at_call 56; (with_reducible refine (c6 _).mono ?_); rintro e w6 ⟨rfl, hb6⟩; have HE4 := HE4.call hb6))
  go_region_held3 (fun w' => Ext w W w') (first | exact Ext.drew (by assumption) | exact Ext.next (by assumption)) (first | (go_at_call 58; refine (c7 _).mono ?_; rintro e w7 ⟨rfl, hb7⟩; have HE7 : Ext w W w7 := Ext.call (by assumption) hb7) | (go_at_call 83; refine (c8 _).mono ?_; rintro e w8 ⟨rfl, hb8⟩; have HE8 : Ext w W w8 := Ext.call (by assumption) hb8))
  go_wp2
  go_ret3
  exact ⟨rfl, Ext.end HE8⟩
end Go.Proofs.YtmoimcblmmcffaaDoor.NC

/-! The document's examples hold, as a contract. -/
namespace Go.Proofs.YtmoimcblmmcffaaDoor.NC
open Go.RowKit Go.Proofs.YtmoimcblmmcffaaDoor.B Go.Proofs.YtmoimcblmmcffaaDoor.N
set_option linter.unusedSimpArgs false
set_option linter.unusedVariables false

theorem aw1 (w : World) : Calls Tryd.prog 11 #[.int .i64 0, .int .i64 1, .int .u64 1065353217, .int .u64 864026624] w (Ret (.tuple #[.int .u64 1065353218, .int .i64 0]) w) := by
  have h := Apply_c 0 1 1065353217 864026624 w (by decide) (by decide)
  have e : applyErrV 0 1 1065353217 864026624 = 0 := by decide
  have v : applyV 0 ((1 : Int) == 1) 1065353217 864026624 = 1065353218 := by decide +kernel
  rw [e, v] at h
  exact h
theorem aw2 (w : World) : Calls Tryd.prog 11 #[.int .i64 3, .int .i64 1, .int .u64 1065353216, .int .u64 1077936128] w (Ret (.tuple #[.int .u64 1051372203, .int .i64 0]) w) := by
  have h := Apply_c 3 1 1065353216 1077936128 w (by decide) (by decide)
  have e : applyErrV 3 1 1065353216 1077936128 = 0 := by decide
  have v : applyV 3 ((1 : Int) == 1) 1065353216 1077936128 = 1051372203 := by decide +kernel
  rw [e, v] at h
  exact h
theorem aw3 (w : World) : Calls Tryd.prog 23 #[.int .i64 1, .int .u64 1073741824] w (Ret (.tuple #[.int .u64 1068827891, .int .i64 0]) w) := by
  have h := SqrtOf_c sqrt_narrow 1 1073741824 w (by decide)
  have e : validV 1 [1073741824] = 0 := by decide
  have v : sqrtV ((1 : Int) == 1) 1073741824 = 1068827891 := by decide +kernel
  rw [e, v] at h
  exact h
theorem aw4 (w : World) : Calls Tryd.prog 20 #[.int .i64 1, .int .i64 16777219] w (Ret (.tuple #[.int .u64 1266679810, .int .i64 0]) w) := by
  have h := FromInteger_c 1 16777219 w
  have e : fromErrV 1 16777219 = 0 := by decide
  have v : fromIntV ((1 : Int) == 1) 16777219 = 1266679810 := by decide +kernel
  rw [e, v] at h
  exact h
theorem aw6 (w : World) : Calls Tryd.prog 26 #[.int .i64 1, .int .u64 1077936128, .int .i64 (-2)] w (Ret (.tuple #[.int .u64 1038323257, .int .i64 0]) w) := by
  have h := PowerOf_ok true 1077936128 (-2) w (by decide) (by decide) (by decide)
  have v : powR true 1077936128 (-2) = 1038323257 := by decide +kernel
  rw [v] at h
  exact h

set_option maxRecDepth 100000 in
set_option maxHeartbeats 4000000 in
theorem awake_c (w : World) : Calls Tryd.prog 10 #[] w (Ret (.bool true) w) := by
  have c1 := aw1
  have c2 := aw2
  have c3 := aw3
  have c4 := aw4
  have c5 := split_k
  have c6 := aw6
  go_enter Tryd.func10, Tryd.ntmps10
  go_wp2_with (first | (go_at_call 11; (with_reducible refine (c1 _).mono ?_); rintro e w1 ⟨rfl, hb1⟩) | (go_at_call 11; (with_reducible refine (c2 _).mono ?_); rintro e w2 ⟨rfl, hb2⟩) | (go_at_call 23; (with_reducible refine (c3 _).mono ?_); rintro e w3 ⟨rfl, hb3⟩) | (go_at_call 20; (with_reducible refine (c4 _).mono ?_); rintro e w4 ⟨rfl, hb4⟩) | (go_at_call 41; (with_reducible refine (c5 _).mono ?_); rintro e w5 ⟨rfl, hb5⟩) | (go_at_call 26; (with_reducible refine (c6 _).mono ?_); rintro e w6 ⟨rfl, hb6⟩))
  go_ret
  exact ⟨rfl, below_call (below_call (below_call (below_call (below_call hb1 hb2) hb3) hb4) hb5) hb6⟩
end Go.Proofs.YtmoimcblmmcffaaDoor.NC

/-! What chapters 8 and 10 both lean on. -/
namespace Go.Proofs.YtmoimcblmmcffaaDoor.NC
open Go.RowKit Go.Proofs.YtmoimcblmmcffaaDoor.B Go.Proofs.YtmoimcblmmcffaaDoor.N
set_option linter.unusedSimpArgs false
set_option linter.unusedVariables false

def lowI : Bool → Int
  | true => 8388608
  | false => 4503599627370496
def topM : Bool → Int
  | true => 16777215
  | false => 9007199254740991
theorem wrap_i64 {m : Int} (h0 : -9223372036854775808 ≤ m) (h1 : m < 9223372036854775808) : IntKind.i64.wrap m = m := by
  unfold IntKind.wrap
  simp [IntKind.signed, IntKind.bits]
  omega
theorem hideE {P : Program} {c : Code} {Q : Exit → Act → World → Prop} {a : Act} {w W w1 : World} {g0 : Nat} {cs cs' : Array Value} {t' : TypeId} (hE : Ext w W w1) (k0 : ∀ i, W.cell? ⟨g0, i, none⟩ = cs[i]?) (s0 : g0 < W.heap.size)
    (h : ∀ W', (∀ i, W'.cell? ⟨g0, i, none⟩ = cs[i]?) → (∀ i, W'.cell? ⟨w1.heap.size, i, none⟩ = cs'[i]?) → g0 < W'.heap.size → w1.heap.size < W'.heap.size → Ext w W' W' → c.wp P Q a W') :
    c.wp P Q a (w1.alloc (.cells cs' t' (0, 0))) := by
  have hE2 := hE.alloc (.cells cs' t' (0, 0))
  exact h _ (fun i => (hE2.1 _ i s0).trans (k0 i)) (fun i => cell_of_row _ _ i cs' t' (0, 0) (heap_alloc_new w1 _)) (Nat.lt_of_lt_of_le s0 hE2.2.2.1) (by simp) (Ext.refl hE2.2.2.2)

theorem within_c (n lo hi : Int) (w : World) : Calls Tryd.prog 46 #[.int .i64 n, .int .i64 lo, .int .i64 hi] w (Ret (.bool (decide (lo ≤ n ∧ n ≤ hi))) w) := by
  by_cases h1 : n < lo
  · rw [decide_eq_false (by omega)]
    go_enter Tryd.func46, Tryd.ntmps46
    go_wp2
    go_ret
    exact ⟨rfl, below_end⟩
  · by_cases h2 : hi < n
    · rw [decide_eq_false (by omega)]
      have d1 : decide (n < lo) = false := decide_eq_false h1
      have d2 : decide (hi < n) = true := decide_eq_true h2
      go_enter Tryd.func46, Tryd.ntmps46
      go_wp2
      go_ret
      exact ⟨rfl, below_end⟩
    · rw [decide_eq_true (by omega)]
      have d1 : decide (n < lo) = false := decide_eq_false h1
      have d2 : decide (hi < n) = false := decide_eq_false h2
      go_enter Tryd.func46, Tryd.ntmps46
      go_wp2
      go_ret
      exact ⟨rfl, below_end⟩
theorem op_eq {op : Int} {s : Bool} {a b : Nat} (ha : a < 2 * signN s) (hb : b < 2 * signN s) (h0 : 0 ≤ op) (h6 : op ≤ 6) : applyV op s a b = (opR op s a b : Nat) := by
  have ho : op = 0 ∨ op = 1 ∨ op = 2 ∨ op = 3 ∨ op = 4 ∨ op = 5 ∨ op = 6 := by omega
  have k4 := sign_eq ha hb
  have k0 := add_eq ha hb
  have k1 := sub_eq ha hb
  have k2 := mul_eq ha hb
  have k3 := div_eq ha hb
  have k5 := ext_eq (least := true) ha hb
  have k6 := ext_eq (least := false) ha hb
  rcases ho with rfl | rfl | rfl | rfl | rfl | rfl | rfl
  all_goals
    simp only [applyV, opR, opB, Int.reduceEq, if_true, if_false, Int.toNat_natCast, decide_true, decide_false]
  · exact k0
  · exact k1
  · exact k2
  · exact k3
  · exact k4
  · exact k5
  · exact k6
end Go.Proofs.YtmoimcblmmcffaaDoor.NC

/-! The reference's errors of types, bits, operations, numbers, as contracts. -/
namespace Go.Proofs.YtmoimcblmmcffaaDoor.NC
open Go.RowKit Go.Proofs.YtmoimcblmmcffaaDoor.B Go.Proofs.YtmoimcblmmcffaaDoor.N
set_option linter.unusedSimpArgs false
set_option linter.unusedVariables false

theorem opErr_c (n k : Int) (w : World) (h0 : 1 ≤ k) (h1 : k ≤ 1000) : Calls Tryd.prog 12 #[.int .i64 n, .int .i64 k] w (Ret (.int .i64 (kindErrV n k)) w) := by
  have c1 := fun w => within_c n 0 (k - 1) w
  by_cases h : 0 ≤ n ∧ n ≤ k - 1
  · rw [decide_eq_true h] at c1
    have e : kindErrV n k = 0 := by unfold kindErrV; rw [if_neg (by omega), if_neg (by omega)]
    rw [e]
    clear h e
    go_enter Tryd.func12, Tryd.ntmps12
    go_wp2_with (go_at_call 46; refine (c1 _).mono ?_; rintro e w1 ⟨rfl, hb1⟩)
    go_ret
    exact ⟨rfl, hb1⟩
  · rw [decide_eq_false h] at c1
    have e : kindErrV n k = 15 := by
      unfold kindErrV
      by_cases h2 : n < 0
      · rw [if_pos h2]
      · rw [if_neg h2, if_pos (by omega)]
    rw [e]
    clear h e
    go_enter Tryd.func12, Tryd.ntmps12
    go_wp2_with (go_at_call 46; refine (c1 _).mono ?_; rintro e w1 ⟨rfl, hb1⟩)
    go_ret
    exact ⟨rfl, hb1⟩
theorem typeErrR_c (t : Int) (w : World) : Calls Tryd.prog 16 #[.int .i64 t] w (Ret (.int .i64 (typeErrV t)) w) := by
  unfold typeErrV
  by_cases h1 : t = 1
  · subst h1
    go_enter Tryd.func16, Tryd.ntmps16
    go_wp2
    go_ret
    exact ⟨rfl, below_end⟩
  · by_cases h2 : t = 2
    · subst h2
      go_enter Tryd.func16, Tryd.ntmps16
      go_wp2
      go_ret
      exact ⟨rfl, below_end⟩
    · rw [if_neg h1, if_neg h2]
      have b1 : (t != 1) = true := by simpa using h1
      have b2 : (t != 2) = true := by simpa using h2
      go_enter Tryd.func16, Tryd.ntmps16
      go_wp2
      go_ret
      exact ⟨rfl, below_end⟩
theorem bitsErrR_c (t a : Int) (w : World) : Calls Tryd.prog 17 #[.int .i64 t, .int .u64 a] w (Ret (.int .i64 (bitsErrV t [a])) w) := by
  by_cases h1 : t = 1
  · subst h1
    by_cases h2 : 4294967296 ≤ a
    · have e : bitsErrV 1 [a] = 2 := by unfold bitsErrV; rw [if_pos ⟨rfl, by simp; exact h2⟩]
      rw [e]
      go_enter Tryd.func17, Tryd.ntmps17
      go_wp2
      go_ret
      exact ⟨rfl, below_end⟩
    · have e : bitsErrV 1 [a] = 0 := by unfold bitsErrV; rw [if_neg]; rintro ⟨_, h⟩; simp at h; exact h2 h
      rw [e]
      go_enter Tryd.func17, Tryd.ntmps17
      go_wp2
      go_ret
      exact ⟨rfl, below_end⟩
  · have e : bitsErrV t [a] = 0 := by unfold bitsErrV; rw [if_neg]; rintro ⟨h, _⟩; exact h1 h
    rw [e]
    have b : (t == 1) = false := by simpa using h1
    go_enter Tryd.func17, Tryd.ntmps17
    go_wp2
    go_ret
    exact ⟨rfl, below_end⟩
theorem bothErr_c (t a : Int) (w : World) : Calls Tryd.prog 27 #[.int .i64 t, .int .u64 a] w (Ret (.int .i64 (validV t [a])) w) := by
  have c1 := fun w => typeErrR_c t w
  have c2 := fun w => bitsErrR_c t a w
  unfold validV
  generalize bitsErrV t [a] = b at *
  generalize typeErrV t = e at *
  by_cases h : e = 0
  · subst h
    rw [if_pos rfl]
    go_enter Tryd.func27, Tryd.ntmps27
    go_wp2_with (first | (go_at_call 16; refine (c1 _).mono ?_; rintro e w1 ⟨rfl, hb1⟩) | (go_at_call 17; refine (c2 _).mono ?_; rintro e w2 ⟨rfl, hb2⟩))
    go_ret
    exact ⟨rfl, below_call hb1 hb2⟩
  · rw [if_neg h]
    have b : (e != 0) = true := by simpa using h
    go_enter Tryd.func27, Tryd.ntmps27
    go_wp2_with (first | (go_at_call 16; refine (c1 _).mono ?_; rintro e w1 ⟨rfl, hb1⟩))
    go_ret
    exact ⟨rfl, hb1⟩
theorem valid_two (t a b : Int) : validV t [a, b] = if validV t [a] = 0 then bitsErrV t [b] else validV t [a] := by
  unfold validV
  by_cases h : typeErrV t = 0
  · rw [if_pos h, if_pos h]
    unfold bitsErrV
    by_cases ht : t = 1
    · subst ht
      by_cases ha : 4294967296 ≤ a <;> by_cases hb : 4294967296 ≤ b <;> simp [ha, hb]
    · simp [ht]
  · rw [if_neg h, if_neg h, if_neg h]
theorem threeErr_c (t a b : Int) (w : World) : Calls Tryd.prog 13 #[.int .i64 t, .int .u64 a, .int .u64 b] w (Ret (.int .i64 (validV t [a, b])) w) := by
  have c1 := fun w => bothErr_c t a w
  have c2 := fun w => bitsErrR_c t b w
  rw [valid_two]
  generalize bitsErrV t [b] = b' at *
  generalize validV t [a] = e at *
  by_cases h : e = 0
  · subst h
    rw [if_pos rfl]
    go_enter Tryd.func13, Tryd.ntmps13
    go_wp2_with (first | (go_at_call 27; refine (c1 _).mono ?_; rintro e w1 ⟨rfl, hb1⟩) | (go_at_call 17; refine (c2 _).mono ?_; rintro e w2 ⟨rfl, hb2⟩))
    go_ret
    exact ⟨rfl, below_call hb1 hb2⟩
  · rw [if_neg h]
    have b : (e != 0) = true := by simpa using h
    go_enter Tryd.func13, Tryd.ntmps13
    go_wp2_with (first | (go_at_call 27; refine (c1 _).mono ?_; rintro e w1 ⟨rfl, hb1⟩))
    go_ret
    exact ⟨rfl, hb1⟩
theorem isInteger_c (n : Int) (w : World) : Calls Tryd.prog 64 #[.int .i64 n] w (Ret (.bool (decide (-2147483648 ≤ n ∧ n ≤ 2147483647))) w) := by
  have c1 := fun w => within_c n (-2147483648) 2147483647 w
  generalize decide (-2147483648 ≤ n ∧ n ≤ 2147483647) = b at *
  go_enter Tryd.func64, Tryd.ntmps64
  go_wp2_with (go_at_call 46; refine (c1 _).mono ?_; rintro e w1 ⟨rfl, hb1⟩)
  go_ret
  exact ⟨rfl, hb1⟩
theorem numberErr_c (n : Int) (w : World) : Calls Tryd.prog 21 #[.int .i64 n] w (Ret (.int .i64 (rangedV n (-2147483648) 2147483647)) w) := by
  have c1 := fun w => isInteger_c n w
  unfold rangedV
  by_cases h : -2147483648 ≤ n ∧ n ≤ 2147483647
  · rw [decide_eq_true h] at c1
    rw [if_neg (by omega), if_neg (by omega)]
    clear h
    go_enter Tryd.func21, Tryd.ntmps21
    go_wp2_with (go_at_call 64; refine (c1 _).mono ?_; rintro e w1 ⟨rfl, hb1⟩)
    go_ret
    exact ⟨rfl, hb1⟩
  · rw [decide_eq_false h] at c1
    have e : (if n < -2147483648 then (2 : Int) else if 2147483647 < n then 2 else 0) = 2 := by
      by_cases h2 : n < -2147483648
      · rw [if_pos h2]
      · rw [if_neg h2, if_pos (by omega)]
    rw [e]
    clear h e
    go_enter Tryd.func21, Tryd.ntmps21
    go_wp2_with (go_at_call 64; refine (c1 _).mono ?_; rintro e w1 ⟨rfl, hb1⟩)
    go_ret
    exact ⟨rfl, hb1⟩
end Go.Proofs.YtmoimcblmmcffaaDoor.NC
