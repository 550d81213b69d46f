/- Contracts and plain laws that the law ComplexesRoots leans on (texts joined by program; what it does not come to is left out). -/
import Derived.Test.YtmoimcblmmcffaaGreatQComplexesRootsD
import Derived.Test.YtmoimcblmmcffaaGreatQComplexesRootsB
import Derived.Test.YtmoimcblmmcffaaGreatQComplexesRootsC

namespace Go.Proofs.YtmoimcblmmcffaaGreat.N
open Go.RowKit Go.Proofs.YtmoimcblmmcffaaGreatW.PrintWords Go.Proofs.YtmoimcblmmcffaaGreatW.PrintLast Go.Proofs.YtmoimcblmmcffaaGreatW.PrintMore Go.Proofs.YtmoimcblmmcffaaGreat.PN
set_option linter.unusedSimpArgs false
set_option linter.unusedVariables false
theorem val_drop_nil {l : List Int} {i : Nat} (h : l.length ≤ i) : val (l.drop i) = 0 := by rw [List.drop_eq_nil_of_le h]; rfl
theorem mx_nat (a b : Nat) : mx (a : Int) (b : Int) = ((max a b : Nat) : Int) := by
 unfold mx
 by_cases h : a < b
 ·rw [if_pos (by omega), Nat.max_eq_right (by omega)]
 ·rw [if_neg (by omega), Nat.max_eq_left (by omega)]
theorem mn_nat (a b : Nat) : mn (a : Int) (b : Int) = ((min a b : Nat) : Int) := by
 unfold mn
 by_cases h : b < a
 ·rw [if_pos (by omega), Nat.min_eq_right (by omega)]
 ·rw [if_neg (by omega), Nat.min_eq_left (by omega)]
def Lim : Nat := 100000
theorem val_push (x : List Int) (d : Nat) : val (x ++ [(d : Int)]) = val x + 65536 ^ x.length * d := by
 rw [val_append]; simp [val]
theorem Dig.push {x : List Int} (hx : Dig x) {d : Nat} (h : d < 65536) : Dig (x ++ [(d : Int)]) :=
 hx.append (fun e he => by simp at he; subst he; omega)
theorem plus_l0 (a b : List Int) (ha : Dig a) (hb : Dig b) (la : a.length ≤ Lim) (lb : b.length ≤ Lim) (S : Nat) :
  ∀ m k x (c i : Nat), Dig x → x.length = i → c ≤ 1 → 2 * (max a.length b.length - i) + c ≤ m → i + m ≤ 4 * Lim → 3 * m + i + 5 ≤ k →
   val x + 65536 ^ i * (c + val (a.drop i) + val (b.drop i)) = S → r8_Plus.l0 k a b x (c : Int) (i : Int) = some (digs S) := by
 unfold Lim at *
 intro m
 induction m with
 | zero =>
  intro k x c i hx hl hc hm him hk hs
  obtain ⟨k, rfl⟩ : ∃ k', k = k' + 2 := ⟨k - 2, by omega⟩
  rw [r8_Plus.l0, mx_nat, if_neg (by omega), show decide ((c : Int) > 0) = false from by simp; omega, r8_Plus.j1, if_neg (by decide), trim_k hx (by omega) (by omega)]
  rw [val_drop_nil (by omega), val_drop_nil (by omega), show c = 0 from by omega] at hs
  simp at hs
  simp [hs]
 | succ m ih =>
  intro k x c i hx hl hc hm him hk hs
  obtain ⟨k, rfl⟩ : ∃ k', k = k' + 2 := ⟨k - 2, by omega⟩
  by_cases hend : ¬ (i < max a.length b.length) ∧ c = 0
  ·obtain ⟨h1, rfl⟩ := hend
   rw [r8_Plus.l0, mx_nat, if_neg (by omega), show decide (((0 : Nat) : Int) > 0) = false from by decide, r8_Plus.j1, if_neg (by decide), trim_k hx (by omega) (by omega)]
   rw [val_drop_nil (by omega), val_drop_nil (by omega)] at hs
   simp at hs
   simp [hs]
  ·have hj : r8_Plus.l0 (k + 2) a b x (c : Int) (i : Int) = r8_Plus.j1 (k + 1) a b x (c : Int) (i : Int) true := by
    rw [r8_Plus.l0, mx_nat]
    by_cases h1 : i < max a.length b.length
    ·rw [if_pos (by omega)]
    ·rw [if_neg (by omega), show decide ((c : Int) > 0) = true from by simp; omega]
   obtain ⟨d, hd1, hd2⟩ := ha.nat i
   obtain ⟨e, he1, he2⟩ := hb.nat i
   have va := val_drop a i
   have vb := val_drop b i
   rw [hd1, Int.toNat_natCast] at va
   rw [he1, Int.toNat_natCast] at vb
   rw [hj, r8_Plus.j1, if_pos rfl, digit_f, digit_f, hd1, he1]
   simp only [Option.bind_some]
   rw [if_pos (by omega), wr (n := (d : Int) + e) (by omega) (by omega), wr (n := (d : Int) + e + c) (by omega) (by omega), wr (n := (i : Int) + 1) (by omega) (by omega)]
   have e1 : Int.tmod ((d : Int) + e + c) 65536 = (((d + e + c) % 65536 : Nat) : Int) := by
    rw [show (d : Int) + e + c = ((d + e + c : Nat) : Int) from by omega]; rfl
   have e2 : Int.tdiv ((d : Int) + e + c) 65536 = (((d + e + c) / 65536 : Nat) : Int) := by
    rw [show (d : Int) + e + c = ((d + e + c : Nat) : Int) from by omega]; rfl
   rw [e1, e2, wr (by omega) (by omega)]
   have hd0 : ¬ i < a.length → d = 0 := fun h => by
    rw [List.getD_eq_getElem?_getD, List.getElem?_eq_none (by omega)] at hd1
    simp at hd1; omega
   have he0 : ¬ i < b.length → e = 0 := fun h => by
    rw [List.getD_eq_getElem?_getD, List.getElem?_eq_none (by omega)] at he1
    simp at he1; omega
   refine ih k _ ((d + e + c) / 65536) (i + 1) (hx.push (Nat.mod_lt _ (by decide))) (by simp [hl]) ?_ ?_ (by omega) (by omega) ?_
   ·by_cases h1 : i < max a.length b.length
    ·omega
    ·omega
   ·by_cases h1 : i < max a.length b.length
    ·omega
    ·have := hd0 (by omega)
     have := he0 (by omega)
     omega
   ·rw [val_push, hl, ← hs, va, vb, Nat.pow_succ, Nat.mul_assoc, Nat.add_assoc, ← Nat.mul_add]
    congr 2
    omega
theorem plus_ev (a b : Nat) (la : (digs a).length ≤ Lim) (lb : (digs b).length ≤ Lim) : Ev (fun k => r8_Plus.f k (digs a) (digs b)) (digs (a + b)) := by
 refine ⟨8 * Lim, fun k hk => ?_⟩
 show r8_Plus.f k (digs a) (digs b) = _
 unfold r8_Plus.f
 have e := plus_l0 (digs a) (digs b) (dig_digs a) (dig_digs b) la lb (a + b) (2 * Lim) k [] 0 0 (fun _ h => by cases h) rfl (by decide) (by unfold Lim at *; omega) (by unfold Lim; omega) (by unfold Lim at *; omega)
  (by simp [val, val_digs])
 exact e
theorem minus_l0 (a b : List Int) (ha : Dig a) (hb : Dig b) (la : a.length ≤ Lim) (S : Nat) :
  ∀ m k x (c i : Nat), Dig x → x.length = i → c ≤ 1 → i + m = a.length → m + a.length + 3 ≤ k →
   val x + 65536 ^ i * val (a.drop i) = S + 65536 ^ i * (c + val (b.drop i)) → r8_Minus.l0 k a b x (c : Int) (i : Int) = some (digs S) := by
 unfold Lim at *
 intro m
 induction m with
 | zero =>
  intro k x c i hx hl hc hi hk hs
  obtain ⟨k, rfl⟩ : ∃ k', k = k' + 1 := ⟨k - 1, by omega⟩
  rw [r8_Minus.l0, if_neg (by omega), trim_k hx (by omega) (by omega)]
  have hv := val_lt hx
  rw [hl] at hv
  rw [val_drop_nil (l := a) (by omega)] at hs
  have : c + val (b.drop i) = 0 := by
   by_cases h0 : c + val (b.drop i) = 0
   ·exact h0
   ·have := Nat.mul_le_mul_left (65536 ^ i) (show 1 ≤ c + val (b.drop i) from by omega)
    omega
  rw [this] at hs
  simp at hs
  simp [hs]
 | succ m ih =>
  intro k x c i hx hl hc hi hk hs
  obtain ⟨k, rfl⟩ : ∃ k', k = k' + 1 := ⟨k - 1, by omega⟩
  obtain ⟨d, hd1, hd2⟩ := ha.nat i
  obtain ⟨e, he1, he2⟩ := hb.nat i
  have va := val_drop a i
  have vb := val_drop b i
  rw [hd1, Int.toNat_natCast] at va
  rw [he1, Int.toNat_natCast] at vb
  rw [r8_Minus.l0, if_pos (by omega), if_pos (by omega), digit_f, rd_nat, hd1, he1]
  simp only [Option.bind_some]
  rw [wr (n := (d : Int) - e) (by omega) (by omega), wr (n := (d : Int) - e - c) (by omega) (by omega), wr (n := (i : Int) + 1) (by omega) (by omega), bit_f]
  simp only [Option.bind_some]
  rw [if_pos (by omega)]
  by_cases hlt : (d : Int) - e - c < 0
  ·rw [decide_eq_true hlt, if_pos rfl, wr (n := 65536 * 1) (by decide) (by decide), wr (by omega) (by omega), show (d : Int) - e - c + 65536 * 1 = ((d + 65536 - e - c : Nat) : Int) from by omega]
   refine ih k _ 1 (i + 1) (hx.push (by omega)) (by simp [hl]) (by decide) (by omega) (by omega) ?_
   rw [val_push, hl, Nat.pow_succ, Nat.mul_assoc, Nat.mul_assoc]
   rw [va, vb, ← Nat.add_assoc] at hs
   obtain ⟨t, ht⟩ : ∃ t, d + 65536 - e - c = t := ⟨_, rfl⟩
   rw [ht]
   have h1 : d + 65536 = t + (c + e) := by omega
   have h2 : 65536 ^ i * (d + 65536) = 65536 ^ i * (t + (c + e)) := by rw [h1]
   simp only [Nat.mul_add, Nat.mul_one] at hs h2 ⊢
   omega
  ·rw [decide_eq_false hlt, if_neg (by decide), wr (n := 65536 * 0) (by decide) (by decide), wr (by omega) (by omega), show (d : Int) - e - c + 65536 * 0 = ((d - e - c : Nat) : Int) from by omega]
   refine ih k _ 0 (i + 1) (hx.push (by omega)) (by simp [hl]) (by decide) (by omega) (by omega) ?_
   rw [val_push, hl, Nat.pow_succ, Nat.mul_assoc, Nat.mul_assoc]
   rw [va, vb, ← Nat.add_assoc] at hs
   obtain ⟨t, ht⟩ : ∃ t, d - e - c = t := ⟨_, rfl⟩
   rw [ht]
   have h1 : d = t + (c + e) := by omega
   have h2 : 65536 ^ i * d = 65536 ^ i * (t + (c + e)) := by rw [← h1]
   simp only [Nat.mul_add, Nat.mul_one, Nat.mul_zero, Nat.zero_add, Nat.add_zero] at hs h2 ⊢
   omega
theorem minus_ev (a b : Nat) (la : (digs a).length ≤ Lim) (h : b ≤ a) : Ev (fun k => r8_Minus.f k (digs a) (digs b)) (digs (a - b)) := by
 refine ⟨8 * Lim, fun k hk => ?_⟩
 show r8_Minus.f k (digs a) (digs b) = _
 unfold r8_Minus.f
 have e := minus_l0 (digs a) (digs b) (dig_digs a) (dig_digs b) la (a - b) (digs a).length k [] 0 0 (fun _ h => by cases h) rfl (by decide) (by omega) (by unfold Lim at *; omega)
  (by simp [val, val_digs]; omega)
 exact e
theorem length_l0 (a : Nat) (h0 : a ≠ 0) (la : (digs a).length ≤ Lim) : ∀ m n k, n + m = 17 → m + 70 ≤ k → 2 ^ (16 * ((digs a).length - 1) + n) ≤ 2 * a → r8_Length.l0 k (digs a) (n : Int) = some ((a.log2 + 1 : Nat) : Int) := by
 unfold Lim at *
 have hp : 0 < (digs a).length := by rw [digs_pos h0]; simp
 obtain ⟨j, hj⟩ : ∃ j, (digs a).length = j + 1 := ⟨_, (Nat.sub_add_cancel hp).symm⟩
 have hs := val_split (digs a) j (by omega)
 rw [val_digs, val_drop (digs a) j, val_drop_nil (i := j + 1) (by omega), Nat.mul_zero, Nat.add_zero] at hs
 obtain ⟨d, hd1, hd2⟩ := (dig_digs a).nat j
 have hlt := val_lt ((dig_digs a).take j)
 rw [List.length_take, Nat.min_eq_left (by omega), show (65536 : Nat) = 2 ^ 16 from rfl, ← Nat.pow_mul] at hlt
 rw [hd1, Int.toNat_natCast, show 65536 ^ j = 2 ^ (16 * j) from by rw [show (65536 : Nat) = 2 ^ 16 from rfl, ← Nat.pow_mul]] at hs
 intro m
 induction m with
 | zero =>
  intro n k hn hk hle
  exfalso
  rw [hj, Nat.add_sub_cancel, Nat.pow_add, show n = 17 from by omega] at hle
  have : 2 ^ (16 * j) * d ≤ 2 ^ (16 * j) * 65535 := Nat.mul_le_mul_left _ (by omega)
  omega
 | succ m ih =>
  intro n k hn hk hle
  obtain ⟨k, rfl⟩ : ∃ k', k = k' + 1 := ⟨k - 1, by omega⟩
  have hpw : bs_Power.f k (n : Int) = some ((2 ^ n : Nat) : Int) := power_l0 n (by omega) n 0 k (by omega) (by omega)
  rw [r8_Length.l0, hj, wr (n := ((j + 1 : Nat) : Int) - 1) (by omega) (by omega), show ((j + 1 : Nat) : Int) - 1 = (j : Int) from by omega, if_pos (by omega), if_pos (by omega), hpw, rd_nat, hd1]
  simp only [Option.bind_some]
  rw [hj, Nat.add_sub_cancel, Nat.pow_add] at hle
  by_cases hge : 2 ^ n ≤ d
  ·rw [if_pos (by omega), wr (by omega) (by omega)]
   refine ih (n + 1) k (by omega) (by omega) ?_
   rw [hj, Nat.add_sub_cancel, ← Nat.add_assoc, Nat.pow_succ, Nat.pow_add, Nat.mul_comm]
   refine Nat.mul_le_mul_left _ ?_
   have := Nat.mul_le_mul_left (2 ^ (16 * j)) hge
   omega
  ·rw [if_neg (by omega), wr (n := 16 * (j : Int)) (by omega) (by omega), wr (by omega) (by omega)]
   congr 1
   have hn0 : n ≠ 0 := by
    rintro rfl
    have : d = 0 := by simpa using hge
    subst this
    simp at hs
    have := digs_low h0
    rw [hj, Nat.add_sub_cancel, show (65536 : Nat) = 2 ^ 16 from rfl, ← Nat.pow_mul] at this
    omega
   obtain ⟨n, rfl⟩ : ∃ q, n = q + 1 := ⟨n - 1, by omega⟩
   have hlog : a.log2 = 16 * j + n := by
    refine (Nat.log2_eq_iff h0).2 ⟨?_, ?_⟩
    ·rw [Nat.pow_add]
     rw [Nat.pow_succ, ← Nat.mul_assoc] at hle
     omega
    ·rw [show 16 * j + n + 1 = 16 * j + (n + 1) from by omega, Nat.pow_add]
     have := Nat.mul_le_mul_left (2 ^ (16 * j)) (show d + 1 ≤ 2 ^ (n + 1) from by omega)
     rw [Nat.mul_add] at this
     omega
   rw [hlog]
   omega
def bits (a : Nat) : Nat := if a = 0 then 0 else a.log2 + 1
theorem length_ev (a : Nat) (la : (digs a).length ≤ Lim) : Ev (fun k => r8_Length.f k (digs a)) (bits a : Int) := by
 refine ⟨100, fun k hk => ?_⟩
 show r8_Length.f k (digs a) = _
 unfold r8_Length.f bits
 by_cases h0 : a = 0
 ·subst h0; simp [digs_zero]
 ·have := (not_congr digs_nil).2 h0
  rw [if_neg (by omega), if_neg h0]
  refine length_l0 a h0 la 17 0 k rfl (by omega) ?_
  have := digs_low h0
  rw [show (65536 : Nat) = 2 ^ 16 from rfl, ← Nat.pow_mul] at this
  rw [Nat.add_zero]
  omega
end Go.Proofs.YtmoimcblmmcffaaGreat.N

namespace Go.Proofs.YtmoimcblmmcffaaGreat.N
open Go.RowKit Go.Proofs.YtmoimcblmmcffaaGreatW.PrintWords Go.Proofs.YtmoimcblmmcffaaGreatW.PrintLast Go.Proofs.YtmoimcblmmcffaaGreatW.PrintMore Go.Proofs.YtmoimcblmmcffaaGreat.PN
set_option linter.unusedSimpArgs false
set_option linter.unusedVariables false
theorem wr_nat {n : Nat} (h : n ≤ 9223372036854775807) : wrap64 (n : Int) = (n : Int) := wr (by omega) (by omega)
theorem wr_add {i q : Nat} (h : i + q ≤ 9223372036854775807) : wrap64 ((i : Int) + (q : Int)) = ((i + q : Nat) : Int) := wr_nat h
theorem wr_succ {q : Nat} (h : q + 1 ≤ 9223372036854775807) : wrap64 ((q : Int) + 1) = ((q + 1 : Nat) : Int) := wr_nat h
theorem wr_sub {i q : Nat} (h : i ≤ 9223372036854775807) (h2 : q ≤ i) : wrap64 ((i : Int) - (q : Int)) = ((i - q : Nat) : Int) := by
 rw [show (i : Int) - (q : Int) = ((i - q : Nat) : Int) from by omega]; exact wr_nat (by omega)
theorem wr_pred {q : Nat} (h : q ≤ 9223372036854775807) : wrap64 ((q : Int) - 1) = (q : Int) - 1 := wr (by omega) (by omega)
theorem tdiv_nat (n : Nat) : Int.tdiv (n : Int) 65536 = ((n / 65536 : Nat) : Int) := rfl
theorem tmod_nat (n : Nat) : Int.tmod (n : Int) 65536 = ((n % 65536 : Nat) : Int) := rfl
theorem mul_nat (c : Nat) : (c : Int) * 65536 = ((c * 65536 : Nat) : Int) := by omega
theorem tdivp (n p : Nat) : Int.tdiv (n : Int) (p : Int) = ((n / p : Nat) : Int) := rfl
theorem tmodp (n p : Nat) : Int.tmod (n : Int) (p : Int) = ((n % p : Nat) : Int) := rfl
theorem bound2 (c d p : Nat) (h : c < p) (h2 : p ≤ 65536) (h3 : d < 65536) : c * 65536 + d ≤ 9223372036854775807 := by omega
theorem bne_nat (c : Nat) : ((c : Int) != 0) = (c != 0) := by rw [Bool.eq_iff_iff]; simp
theorem bne_mul (P d : Nat) (h : P ≠ 0) : (P * d != 0) = (d != 0) := by rw [Bool.eq_iff_iff]; simp [Nat.mul_eq_zero, h]
theorem bne_both (P u v : Nat) (h : P ≠ 0) : (u + P * v != 0) = (u != 0 || v != 0) := by
 rw [Bool.eq_iff_iff]
 by_cases hu : u = 0
 ·subst hu; simp [Nat.mul_eq_zero, h]
 ·simp [hu]
theorem times_step (a b x : List Int) (ha : Dig a) (hb : Dig b) (hx : Dig x) (i q c k : Nat) (la : a.length ≤ Lim) (lb : b.length ≤ Lim) (lx : x.length ≤ 2 * Lim) (hi : i < a.length) (hq : i + q < x.length) (hc : c < 65536) (hr : q < b.length ∨ 0 < c)
  (d e f : Nat) (hd : a.getD i 0 = (d : Int)) (he : b.getD q 0 = (e : Int)) (hf : x.getD (i + q) 0 = (f : Int)) (hd2 : d < 65536) (he2 : e < 65536) (hf2 : f < 65536) :
  r8_Times.l1 (k + 1) a b x (i : Int) (c : Int) (q : Int) = r8_Times.l1 k a b (x.set (i + q) (((f + d * e + c) % 65536 : Nat) : Int)) (i : Int) (((f + d * e + c) / 65536 : Nat) : Int) ((q + 1 : Nat) : Int) := by
 unfold Lim at *
 have hde : d * e ≤ 65535 * 65535 := Nat.mul_le_mul (by omega) (by omega)
 have b1 : i + q ≤ 9223372036854775807 := by omega
 have b2 : d * e ≤ 9223372036854775807 := by omega
 have b3 : f + d * e ≤ 9223372036854775807 := by omega
 have b4 : f + d * e + c ≤ 9223372036854775807 := by omega
 have b5 : (f + d * e + c) / 65536 ≤ 9223372036854775807 := by omega
 have b6 : q + 1 ≤ 9223372036854775807 := by omega
 have hm : (d : Int) * (e : Int) = ((d * e : Nat) : Int) := (Int.natCast_mul d e).symm
 simp only [r8_Times.l1, wr_add b1, rd_nat, digit_f, Option.bind_some, hd, he, hf, hm, wr_nat b2, wr_add b3, wr_add b4, tmod_nat, tdiv_nat, wr_nat b5, wr_succ b6, Int.toNat_natCast]
 by_cases h1 : q < b.length
 ·rw [if_pos (by omega), if_pos (by omega), if_pos (by omega), if_pos (by omega), if_pos (by omega)]
 ·rw [if_neg (by omega), if_pos (by omega), if_pos (by omega), if_pos (by omega), if_pos (by omega), if_pos (by omega)]
theorem times_l1 (a b : List Int) (ha : Dig a) (hb : Dig b) (i : Nat) (la : a.length ≤ Lim) (lb : b.length ≤ Lim) (hi : i < a.length) (V K : Nat) (R : List Int) (hV : V < 65536 ^ (a.length + b.length))
  (hout : ∀ k x, K ≤ k → Dig x → x.length = a.length + b.length → val x = V → r8_Times.l0 k a b x ((i + 1 : Nat) : Int) = some R) :
  ∀ m k x (c q : Nat), Dig x → x.length = a.length + b.length → c < 65536 → i + q + m = a.length + b.length → K + m + 1 ≤ k → val x + 65536 ^ (i + q) * (c + (a.getD i 0).toNat * val (b.drop q)) = V →
   r8_Times.l1 k a b x (i : Int) (c : Int) (q : Int) = some R := by
 obtain ⟨d, hd, hd2⟩ := ha.nat i
 rw [hd, Int.toNat_natCast]
 have done : ∀ k x (c q : Nat), Dig x → x.length = a.length + b.length → K + 1 ≤ k → ¬ q < b.length → c = 0 → val x + 65536 ^ (i + q) * (c + d * val (b.drop q)) = V → r8_Times.l1 k a b x (i : Int) (c : Int) (q : Int) = some R := by
  intro k x c q hx hl hk h1 h2 hs
  obtain ⟨k, rfl⟩ : ∃ k', k = k' + 1 := ⟨k - 1, by omega⟩
  subst h2
  rw [val_drop_nil (by omega)] at hs
  simp at hs
  have b1 : i + 1 ≤ 9223372036854775807 := by unfold Lim at *; omega
  rw [r8_Times.l1, if_neg (by omega), if_neg (by omega), wr_succ b1]
  exact hout k x (by omega) hx hl hs
 intro m
 induction m with
 | zero =>
  intro k x c q hx hl hc hm hk hs
  refine done k x c q hx hl (by omega) (by omega) ?_ hs
  by_cases h0 : c = 0
  ·exact h0
  ·exfalso
   have := Nat.mul_le_mul_left (65536 ^ (i + q)) (show 1 ≤ c + d * val (b.drop q) from by omega)
   rw [show i + q = a.length + b.length from by omega] at this hs
   omega
 | succ m ih =>
  intro k x c q hx hl hc hm hk hs
  by_cases hr : q < b.length ∨ 0 < c
  ·obtain ⟨k, rfl⟩ : ∃ k', k = k' + 1 := ⟨k - 1, by omega⟩
   obtain ⟨e, he, he2⟩ := hb.nat q
   obtain ⟨f, hf, hf2⟩ := hx.nat (i + q)
   rw [times_step a b x ha hb hx i q c k la lb (by unfold Lim at *; omega) hi (by omega) hc hr d e f hd he hf hd2 he2 hf2]
   have hde : d * e ≤ 65535 * 65535 := Nat.mul_le_mul (by omega) (by omega)
   refine ih k _ _ (q + 1) (hx.set _ (by omega) (by omega)) (by simp [hl]) (by omega) (by omega) (by omega) ?_
   have h1 := val_set x (i + q) (((f + d * e + c) % 65536 : Nat) : Int) (by omega)
   rw [hf, Int.toNat_natCast, Int.toNat_natCast] at h1
   have h2 := val_drop b q
   rw [he, Int.toNat_natCast] at h2
   rw [h2] at hs
   rw [← hs]
   rw [show i + (q + 1) = (i + q) + 1 from by omega, Nat.pow_succ, Nat.mul_assoc (65536 ^ (i + q))]
   generalize 65536 ^ (i + q) = P at *
   generalize val (x.set (i + q) (((f + d * e + c) % 65536 : Nat) : Int)) = Y at *
   generalize val (b.drop (q + 1)) = B at *
   have h3 : (f + d * e + c) = (f + d * e + c) % 65536 + 65536 * ((f + d * e + c) / 65536) := (Nat.mod_add_div _ _).symm
   have h4 := congrArg (P * ·) h3
   simp only [Nat.mul_add] at h4 hs h1 ⊢
   rw [show d * (65536 * B) = 65536 * (d * B) from by rw [Nat.mul_left_comm]] at *
   omega
  ·exact done k x c q hx hl (by omega) (by omega) (by omega) hs
theorem times_l0 (a b : List Int) (ha : Dig a) (hb : Dig b) (la : a.length ≤ Lim) (lb : b.length ≤ Lim) (S : Nat) (hS : S < 65536 ^ (a.length + b.length)) :
  ∀ r k x (i : Nat), i + r = a.length → (r + 1) * (a.length + b.length + 3) ≤ k → Dig x → x.length = a.length + b.length → val x + 65536 ^ i * (val (a.drop i) * val b) = S →
   r8_Times.l0 k a b x (i : Int) = some (digs S) := by
 intro r
 induction r with
 | zero =>
  intro k x i hi hk hx hl hs
  obtain ⟨k, rfl⟩ : ∃ k', k = k' + 1 := ⟨k - 1, by omega⟩
  rw [r8_Times.l0, if_neg (by omega), trim_k hx (by omega) (by unfold Lim at *; omega)]
  rw [val_drop_nil (by omega)] at hs
  simp at hs
  simp [hs]
 | succ r ih =>
  intro k x i hi hk hx hl hs
  rw [Nat.add_mul] at hk
  obtain ⟨k, rfl⟩ : ∃ k', k = k' + 1 := ⟨k - 1, by omega⟩
  rw [r8_Times.l0, if_pos (by omega)]
  have h2 := val_drop a i
  have e1 : val (a.drop i) * val b = (a.getD i 0).toNat * val b + 65536 * (val (a.drop (i + 1)) * val b) := by rw [h2, Nat.add_mul, Nat.mul_assoc]
  rw [e1, Nat.mul_add, ← Nat.add_assoc] at hs
  refine times_l1 a b ha hb i la lb (by omega) (val x + 65536 ^ i * ((a.getD i 0).toNat * val b)) ((r + 1) * (a.length + b.length + 3)) _ (by omega) ?_ (a.length + b.length - i) k x 0 0 hx hl (by decide) (by omega) (by omega) ?_
  ·intro k y hk2 hy hly hv
   refine ih k y (i + 1) (by omega) hk2 hy hly ?_
   rw [hv, ← hs, Nat.pow_succ, Nat.mul_assoc (65536 ^ i) 65536]
  ·simp
theorem times_ev (a b : Nat) (la : (digs a).length ≤ Lim) (lb : (digs b).length ≤ Lim) : Ev (fun k => r8_Times.f k (digs a) (digs b)) (digs (a * b)) := by
 refine ⟨((digs a).length + 1) * ((digs a).length + (digs b).length + 3), fun k hk => ?_⟩
 show r8_Times.f k (digs a) (digs b) = _
 unfold r8_Times.f
 have b1 : (digs a).length + (digs b).length ≤ 9223372036854775807 := by unfold Lim at *; omega
 rw [wr_add b1, if_pos (by omega), if_pos (by unfold Lim at *; simp; omega), Int.toNat_natCast]
 refine times_l0 (digs a) (digs b) (dig_digs a) (dig_digs b) la lb (a * b) ?_ (digs a).length k _ 0 (by omega) hk (dig_zeros _) (by simp) ?_
 ·rw [Nat.pow_add]
  have h1 := val_lt (dig_digs a)
  have h2 := val_lt (dig_digs b)
  rw [val_digs] at h1 h2
  exact Nat.mul_lt_mul'' h1 h2
 ·simp [val_zeros, val_digs]
theorem digs_single {n : Nat} (h0 : n ≠ 0) (h : n < 65536) : digs n = [(n : Int)] := by
 rw [digs_pos h0, Nat.mod_eq_of_lt h, Nat.div_eq_of_lt h, digs_zero]
theorem pow16 (s : Nat) : 2 ^ (s % 16) * 65536 ^ (s / 16) = 2 ^ s := by
 rw [show (65536 : Nat) = 2 ^ 16 from rfl, ← Nat.pow_mul, ← Nat.pow_add]
 congr 1
 omega
theorem pow15 (s : Nat) : 2 ^ (s % 16) < 65536 := Nat.lt_of_le_of_lt (Nat.pow_le_pow_right (i := s % 16) (j := 15) (by decide) (by omega)) (by decide)
theorem left_aux (a s : Nat) : (digs (a * 2 ^ (s % 16))).length ≤ (digs a).length + 1 := by
 have hla := val_lt (dig_digs a)
 rw [val_digs] at hla
 refine digs_len ?_
 rw [Nat.pow_succ]
 exact Nat.mul_lt_mul'' hla (pow15 s)
theorem left_dig (s : Nat) : digs (2 ^ (s % 16)) = [((2 ^ (s % 16) : Nat) : Int)] := digs_single (Nat.pos_iff_ne_zero.1 (Nat.two_pow_pos _)) (pow15 s)
theorem left_ev (a s : Nat) (la : (digs a).length ≤ 20000) (hs : s ≤ 100000) : Ev (fun k => r8_Left.f k (digs a) (s : Int)) (digs (a * 2 ^ s)) := by
 have hd := left_dig s
 have hlt := left_aux a s
 have b1 : s / 16 ≤ 9223372036854775807 := by omega
 have e1 : Int.tdiv (s : Int) 16 = ((s / 16 : Nat) : Int) := rfl
 have e2 : Int.tmod (s : Int) 16 = ((s % 16 : Nat) : Int) := rfl
 obtain ⟨K1, h1⟩ := power_ev (s % 16) (by omega)
 obtain ⟨K2, h2⟩ := times_ev a (2 ^ (s % 16)) (by unfold Lim; omega) (by rw [hd]; unfold Lim; simp)
 have hz : ((List.replicate (s / 16) (0 : Int)) ++ digs (a * 2 ^ (s % 16))).length ≤ 40000 := by simp; omega
 refine ⟨max (max K1 K2) 1000000, fun k hk => ?_⟩
 have h1' : bs_Power.f k ((s % 16 : Nat) : Int) = _ := h1 k (by omega)
 have h2' : r8_Times.f k (digs a) (digs (2 ^ (s % 16))) = _ := h2 k (by omega)
 rw [hd] at h2'
 have h3 : r8_trim.f k ((List.replicate (s / 16) (0 : Int)) ++ digs (a * 2 ^ (s % 16))) = some (digs (a * 2 ^ s)) := by
  rw [trim_k ((dig_zeros _).append (dig_digs _)) (by omega) (by omega), val_append, val_zeros, val_digs, List.length_replicate, Nat.zero_add, Nat.mul_comm, Nat.mul_assoc, pow16]
 have h4 : (List.replicate (s / 16) (0 : Int)).length + (digs (a * 2 ^ (s % 16))).length < 17592186044416 := by
  rw [List.length_append] at hz
  omega
 show r8_Left.f k (digs a) (s : Int) = _
 unfold r8_Left.f
 rw [e1, e2, wr_nat b1, if_pos (by omega), if_pos (by omega)]
 rw [Option.bind_some, h1', Option.bind_some, h2', Option.bind_some, Int.toNat_natCast, if_pos h4, h3, Option.bind_some]
theorem right_l1 (a : List Int) (ha : Dig a) (la : a.length ≤ Lim) (n : Nat) (hn : n ≤ a.length) (rest : Bool) (p : Nat) (hp : 0 < p) (hp2 : p ≤ 65536) :
  ∀ j k x (c : Nat), j + n ≤ a.length → Dig x → x.length = a.length - n → c < p → (∀ q, q < j → x.getD q 0 = 0) → 65536 ^ j * val (a.drop (n + j)) = val x * p + 65536 ^ j * c → j + a.length + 3 ≤ k →
   r8_Right.l1 k a (n : Int) rest x (c : Int) (p : Int) (((n + j : Nat) : Int) - 1) = some (digs (val (a.drop n) / p), rest || val (a.drop n) % p != 0) := by
 unfold Lim at *
 intro j
 induction j with
 | zero =>
  intro k x c hj hx hl hc hz hs hk
  obtain ⟨k, rfl⟩ : ∃ k', k = k' + 1 := ⟨k - 1, by omega⟩
  rw [r8_Right.l1, if_neg (by omega), trim_k hx (by omega) (by omega)]
  simp only [Nat.pow_zero, Nat.one_mul, Nat.add_zero] at hs
  have h1 : val (a.drop n) / p = val x := by
   rw [hs, Nat.mul_comm, Nat.mul_add_div hp, Nat.div_eq_of_lt hc, Nat.add_zero]
  have h2 : val (a.drop n) % p = c := by
   rw [hs, Nat.mul_comm, Nat.mul_add_mod, Nat.mod_eq_of_lt hc]
  rw [h1, h2]
  cases rest <;> simp [bne_nat]
 | succ j ih =>
  intro k x c hj hx hl hc hz hs hk
  obtain ⟨k, rfl⟩ : ∃ k', k = k' + 1 := ⟨k - 1, by omega⟩
  obtain ⟨d, hd, hd2⟩ := ha.nat (n + j)
  have b0 : n + j ≤ 9223372036854775807 := by omega
  have b1 : c * 65536 ≤ 9223372036854775807 := by omega
  have b2 : c * 65536 + d ≤ 9223372036854775807 := bound2 c d p hc hp2 hd2
  have hm : (c : Int) * 65536 = ((c * 65536 : Nat) : Int) := mul_nat c
  have e2 : Int.tdiv ((c * 65536 + d : Nat) : Int) (p : Int) = (((c * 65536 + d) / p : Nat) : Int) := tdivp _ _
  have e3 : Int.tmod ((c * 65536 + d : Nat) : Int) (p : Int) = (((c * 65536 + d) % p : Nat) : Int) := tmodp _ _
  have hq : (c * 65536 + d) / p < 65536 := by
   refine Nat.div_lt_of_lt_mul ?_
   have := Nat.mul_le_mul_right 65536 (show c + 1 ≤ p from hc)
   omega
  rw [show ((n + (j + 1) : Nat) : Int) - 1 = ((n + j : Nat) : Int) from by omega, r8_Right.l1, if_pos (by omega), if_pos (by omega), if_pos (by omega), if_neg (by omega), wr_sub b0 (Nat.le_add_right n j), Nat.add_sub_cancel_left, if_pos (by omega), if_pos (by omega), rd_nat, hd, hm, wr_nat b1, wr_add b2, e2, e3, Int.toNat_natCast, wr_nat (n := (c * 65536 + d) / p) (by omega), wr_pred b0]
  refine ih k _ _ (by omega) (hx.set _ (Int.natCast_nonneg _) (Int.ofNat_lt.2 hq)) (by simp [hl]) (Nat.mod_lt _ hp) ?_ ?_ (by omega)
  ·intro q hq2
   have := hz q (by omega)
   rw [List.getD_eq_getElem?_getD] at this ⊢
   rw [List.getElem?_set_ne (by omega)]
   exact this
  ·have h1 := val_set x j (((c * 65536 + d) / p : Nat) : Int) (by omega)
   rw [hz j (by omega), Int.toNat_natCast] at h1
   simp only [Int.toNat_zero, Nat.mul_zero, Nat.add_zero] at h1
   rw [h1, val_drop a (n + j), hd, Int.toNat_natCast]
   rw [Nat.pow_succ, Nat.mul_assoc, Nat.mul_assoc, ← Nat.add_assoc] at hs
   have h3 : c * 65536 + d = p * ((c * 65536 + d) / p) + (c * 65536 + d) % p := (Nat.div_add_mod _ _).symm
   have h4 := congrArg (65536 ^ j * ·) h3
   rw [show n + j + 1 = n + (j + 1) from by omega] at *
   generalize val (a.drop (n + (j + 1))) = B at *
   generalize (c * 65536 + d) / p = q at *
   generalize (c * 65536 + d) % p = r at *
   generalize 65536 ^ j = P at *
   simp only [Nat.mul_add, Nat.add_mul] at h4 hs ⊢
   rw [show P * (c * 65536) = P * (65536 * c) from by rw [Nat.mul_comm c]] at h4
   rw [show P * q * p = P * (p * q) from by rw [Nat.mul_assoc, Nat.mul_comm q]]
   omega
theorem right_l0 (a : List Int) (ha : Dig a) (la : a.length ≤ Lim) (n : Nat) (hn : n ≤ a.length) (s : Nat) :
  ∀ m k (rest : Bool) (j : Nat), j + m = n → m + 2 * a.length + 40 ≤ k → rest = (val (a.take j) != 0) →
   r8_Right.l0 k a (s : Int) (n : Int) rest (j : Int) = some (digs (val (a.drop n) / 2 ^ (s % 16)), (val (a.take n) != 0) || val (a.drop n) % 2 ^ (s % 16) != 0) := by
 intro m
 induction m with
 | zero =>
  intro k rest j hj hk hr
  obtain ⟨k, rfl⟩ : ∃ k', k = k' + 1 := ⟨k - 1, by omega⟩
  have b1 : a.length ≤ 9223372036854775807 := by unfold Lim at *; omega
  have e2 : Int.tmod (s : Int) 16 = ((s % 16 : Nat) : Int) := rfl
  have hpw : bs_Power.f k ((s % 16 : Nat) : Int) = some ((2 ^ (s % 16) : Nat) : Int) := power_l0 (s % 16) (by omega) _ 0 k (Nat.add_zero _) (by omega)
  have hp : 2 ^ (s % 16) ≤ 2 ^ 15 := Nat.pow_le_pow_right (by decide) (by omega)
  rw [r8_Right.l0, if_neg (by omega), wr_sub b1 hn, if_pos (by omega), if_pos (by unfold Lim at *; omega), e2, hpw]
  simp only [Option.bind_some, Int.toNat_natCast]
  have := right_l1 a ha la n hn rest (2 ^ (s % 16)) (Nat.two_pow_pos _) (by omega) (a.length - n) k (List.replicate (a.length - n) 0) 0 (by omega) (dig_zeros _) (by simp) (Nat.two_pow_pos _) (fun q _ => by
   rw [List.getD_eq_getElem?_getD]
   by_cases h : q < a.length - n
   ·rw [List.getElem?_replicate, if_pos h]; rfl
   ·rw [List.getElem?_replicate, if_neg h]; rfl) (by rw [val_drop_nil (by omega), val_zeros]; simp) (by omega)
  rw [show n + (a.length - n) = a.length from by omega] at this
  rw [wr_pred b1]
  rw [hr, show j = n from by omega] at *
  exact this
 | succ m ih =>
  intro k rest j hj hk hr
  obtain ⟨k, rfl⟩ : ∃ k', k = k' + 1 := ⟨k - 1, by omega⟩
  have b1 : j + 1 ≤ 9223372036854775807 := by unfold Lim at *; omega
  rw [r8_Right.l0, if_pos (by omega), wr_succ b1]
  have ht := val_take_succ a j (by omega)
  obtain ⟨d, hd, hd2⟩ := ha.nat j
  rw [hd, Int.toNat_natCast] at ht
  have hP : 0 < 65536 ^ j := Nat.pow_pos (by decide)
  cases rest with
  | true =>
   rw [if_pos rfl]
   refine ih k true (j + 1) (by omega) (by omega) ?_
   have h0 : val (a.take j) ≠ 0 := by simpa using hr.symm
   symm
   simp [ht]
   omega
  | false =>
   rw [if_neg (by decide), if_pos (by omega), if_pos (by omega), rd_nat, hd]
   refine ih k _ (j + 1) (by omega) (by omega) ?_
   have h0 : val (a.take j) = 0 := by simpa using hr.symm
   rw [ht, h0, Nat.zero_add]
   rw [bne_nat, bne_mul _ _ (Nat.pos_iff_ne_zero.1 hP)]
theorem right_ev (a s : Nat) (la : (digs a).length ≤ Lim) (hs : s ≤ 1000000) : Ev (fun k => r8_Right.f k (digs a) (s : Int)) (digs (a / 2 ^ s), a % 2 ^ s != 0) := by
 have b1 : s / 16 ≤ 9223372036854775807 := by omega
 have e1 : Int.tdiv (s : Int) 16 = ((s / 16 : Nat) : Int) := rfl
 refine ⟨3 * (digs a).length + 50, fun k hk => ?_⟩
 show r8_Right.f k (digs a) (s : Int) = _
 unfold r8_Right.f
 rw [e1, wr_nat b1, mn_nat]
 have h := right_l0 (digs a) (dig_digs a) la (min (s / 16) (digs a).length) (Nat.min_le_right _ _) s (min (s / 16) (digs a).length) k false 0 (by omega) (by omega) (by simp [val])
 refine h.trans ?_
 have hsp := val_split (digs a) (min (s / 16) (digs a).length) (Nat.min_le_right _ _)
 have hlt := val_lt ((dig_digs a).take (min (s / 16) (digs a).length))
 rw [List.length_take, Nat.min_eq_left (Nat.min_le_right _ _)] at hlt
 rw [val_digs] at hsp
 have hpw := pow16 s
 by_cases hc : s / 16 ≤ (digs a).length
 ·rw [Nat.min_eq_left hc] at *
  have hP : 0 < 65536 ^ (s / 16) := Nat.pow_pos (by decide)
  have hdiv : val ((digs a).drop (s / 16)) = a / 65536 ^ (s / 16) := by
   conv => rhs; rw [hsp, Nat.add_comm, Nat.mul_add_div hP, Nat.div_eq_of_lt hlt, Nat.add_zero]
  have hmod : val ((digs a).take (s / 16)) = a % 65536 ^ (s / 16) := by
   conv => rhs; rw [hsp, Nat.add_comm, Nat.mul_add_mod, Nat.mod_eq_of_lt hlt]
  have h1 : a / 2 ^ s = val ((digs a).drop (s / 16)) / 2 ^ (s % 16) := by
   rw [hdiv, Nat.div_div_eq_div_mul, ← hpw, Nat.mul_comm]
  have h2 : a % 2 ^ s = val ((digs a).take (s / 16)) + 65536 ^ (s / 16) * (val ((digs a).drop (s / 16)) % 2 ^ (s % 16)) := by
   rw [hdiv, hmod, ← hpw, Nat.mul_comm (2 ^ (s % 16)), Nat.mod_mul]
  rw [h1, h2]
  rw [bne_both _ _ _ (Nat.pos_iff_ne_zero.1 hP)]
 ·rw [Nat.min_eq_right (by omega)] at *
  rw [val_drop_nil (Nat.le_refl _), List.take_length, val_digs]
  rw [List.take_length, val_digs] at hlt
  have hle : 65536 ^ (digs a).length ≤ 2 ^ s := by
   rw [← hpw]
   have h1 : 65536 ^ (digs a).length ≤ 65536 ^ (s / 16) := Nat.pow_le_pow_right (by decide) (by omega)
   have h2 : 1 * 65536 ^ (s / 16) ≤ 2 ^ (s % 16) * 65536 ^ (s / 16) := Nat.mul_le_mul_right _ (Nat.two_pow_pos _)
   omega
  rw [Nat.div_eq_of_lt (by omega : a < 2 ^ s), Nat.mod_eq_of_lt (by omega : a < 2 ^ s)]
  simp
end Go.Proofs.YtmoimcblmmcffaaGreat.N

namespace Go.Proofs.YtmoimcblmmcffaaGreat.N
open Go.RowKit Go.Proofs.YtmoimcblmmcffaaGreatW.PrintWords Go.Proofs.YtmoimcblmmcffaaGreatW.PrintLast Go.Proofs.YtmoimcblmmcffaaGreatW.PrintMore Go.Proofs.YtmoimcblmmcffaaGreat.PN
set_option linter.unusedSimpArgs false
set_option linter.unusedVariables false
theorem dig_at {x : List Int} (hx : Dig x) (j : Nat) (h : j < x.length) : x.getD j 0 = ((val x / 65536 ^ j % 65536 : Nat) : Int) := by
 obtain ⟨d, hd, hd2⟩ := hx.nat j
 have hs := val_split x j (by omega)
 have hlt := val_lt (hx.take j)
 rw [List.length_take, Nat.min_eq_left (by omega)] at hlt
 rw [val_drop x j, hd, Int.toNat_natCast] at hs
 have hP : 0 < 65536 ^ j := Nat.pow_pos (by decide)
 rw [hs, Nat.add_comm, Nat.mul_add_div hP, Nat.div_eq_of_lt hlt, Nat.add_zero, Nat.add_mul_mod_self_left, Nat.mod_eq_of_lt hd2, hd]
theorem bit_of (x s : Nat) (hs : s < 16) : x % 65536 / 2 ^ s % 2 = x / 2 ^ s % 2 := by
 have : 65536 = 2 ^ s * 2 ^ (16 - s) := by rw [← Nat.pow_add, show s + (16 - s) = 16 from by omega]
 rw [this, Nat.mod_mul_right_div_self, show 16 - s = (15 - s) + 1 from by omega, Nat.pow_succ, Nat.mul_comm (2 ^ (15 - s)), Nat.mod_mul_right_mod]
theorem room_of (Q s : Nat) (hs : s < 16) : Q * 2 ^ (s + 1) % 65536 + 2 ^ s < 65536 := by
 have e : 65536 = 2 ^ (s + 1) * 2 ^ (15 - s) := by rw [← Nat.pow_add, show s + 1 + (15 - s) = 16 from by omega]
 have h1 : Q * 2 ^ (s + 1) % 65536 = 2 ^ (s + 1) * (Q % 2 ^ (15 - s)) := by
  conv => lhs; rw [e, Nat.mul_comm Q]
  rw [Nat.mul_mod_mul_left]
 rw [h1]
 have h2 := Nat.mul_le_mul_left (2 ^ (s + 1)) (show Q % 2 ^ (15 - s) + 1 ≤ 2 ^ (15 - s) from Nat.mod_lt _ (Nat.two_pow_pos _))
 rw [← e, Nat.mul_add, Nat.mul_one] at h2
 have h3 : 2 ^ (s + 1) = 2 * 2 ^ s := by rw [Nat.pow_succ]; omega
 have h4 := Nat.two_pow_pos s
 omega
theorem log_lt (a : Nat) : a < 2 ^ bits a := by
 unfold bits
 by_cases h : a = 0
 ·subst h; simp
 ·rw [if_neg h]
  exact Nat.lt_log2_self
theorem bits_le {a n : Nat} (h : a < 2 ^ n) : bits a ≤ n := by
 unfold bits
 by_cases h0 : a = 0
 ·rw [if_pos h0]; omega
 ·rw [if_neg h0]
  exact (Nat.log2_lt h0).2 h
theorem bits_len (a : Nat) : bits a ≤ 16 * (digs a).length := by
 refine bits_le ?_
 have := val_lt (dig_digs a)
 rw [val_digs, show (65536 : Nat) = 2 ^ 16 from rfl, ← Nat.pow_mul] at this
 exact this
theorem len_bits {a n : Nat} (h : a < 2 ^ n) : (digs a).length ≤ n / 16 + 1 := by
 refine digs_len (Nat.lt_of_lt_of_le h ?_)
 rw [show (65536 : Nat) = 2 ^ 16 from rfl, ← Nat.pow_mul]
 exact Nat.pow_le_pow_right (by decide) (by omega)
theorem ordN_neg {a b : Nat} : ordN a b < 0 ↔ a < b := by
 unfold ordN
 by_cases h : a < b
 ·simp [h]
 ·rw [if_neg h]; by_cases h2 : a = b <;> simp [h2, h]
theorem ordN_nonneg {a b : Nat} : ordN a b ≥ 0 ↔ b ≤ a := by
 have := ordN_neg (a := a) (b := b)
 omega
theorem ordN_le {a b : Nat} : ordN a b ≤ 0 ↔ a ≤ b := by
 unfold ordN
 by_cases h : a < b
 ·simp [h]; omega
 ·rw [if_neg h]
  by_cases h2 : a = b
  ·simp [h2]
  ·simp [h2]; omega
theorem ordN_zero {a b : Nat} : ordN a b = 0 ↔ a = b := by
 unfold ordN
 by_cases h : a < b
 ·simp [h]; omega
 ·rw [if_neg h]; by_cases h2 : a = b <;> simp [h2]
theorem Ev.ite_pos {α : Type} {c : Prop} [Decidable c] {f g : Nat → Option α} {r : α} (hc : c) (h : Ev f r) : Ev (fun k => if c then f k else g k) r := h.congr (fun k => if_pos hc)
theorem Ev.ite_neg {α : Type} {c : Prop} [Decidable c] {f g : Nat → Option α} {r : α} (hc : ¬ c) (h : Ev g r) : Ev (fun k => if c then f k else g k) r := h.congr (fun k => if_neg hc)
theorem tdiv16 (n : Nat) : Int.tdiv (n : Int) 16 = ((n / 16 : Nat) : Int) := rfl
theorem tmod16 (n : Nat) : Int.tmod (n : Int) 16 = ((n % 16 : Nat) : Int) := rfl
theorem tmod2 (n : Nat) : Int.tmod (n : Int) 2 = ((n % 2 : Nat) : Int) := rfl
theorem tdiv2 (n : Nat) : Int.tdiv (n : Int) 2 = ((n / 2 : Nat) : Int) := rfl
theorem divide_l0 (a b : Nat) (hb : b ≠ 0) (la : (digs a).length ≤ 1000) (lb : (digs b).length ≤ 1000) :
  ∀ i x, i ≤ bits a → Dig x → x.length = (digs a).length → val x = a / 2 ^ i / b * 2 ^ i →
   Ev (fun k => r8_Divide.l0 k (digs a) (digs b) x (digs (a / 2 ^ i % b)) ((i : Int) - 1)) (digs (a / b), digs (a % b)) := by
 intro i
 induction i with
 | zero =>
  intro x _ hx hl hv
  refine ⟨5000, fun k hk => ?_⟩
  obtain ⟨k, rfl⟩ : ∃ k', k = k' + 1 := ⟨k - 1, by omega⟩
  have h0 : ¬ (((0 : Nat) : Int) - 1 ≥ 0) := by decide
  show r8_Divide.l0 (k + 1) _ _ _ _ _ = _
  rw [r8_Divide.l0, if_neg h0, trim_k hx (by omega) (by omega), Option.bind_some, hv]
  simp
 | succ i ih =>
  intro x hi hx hl hv
  have hbits := bits_len a
  have hj : i / 16 < (digs a).length := by omega
  have hr : a / 2 ^ (i + 1) % b < b := Nat.mod_lt _ (by omega)
  have hblt := val_lt (dig_digs b)
  rw [val_digs] at hblt
  have hA : a / 2 ^ i = 2 * (a / 2 ^ (i + 1)) + a / 2 ^ i % 2 := by
   rw [Nat.pow_succ, ← Nat.div_div_eq_div_mul]; omega
  have hdm := Nat.div_add_mod (a / 2 ^ (i + 1)) b
  generalize hQ : a / 2 ^ (i + 1) / b = Q at *
  generalize hR : a / 2 ^ (i + 1) % b = r at *
  have lr : (digs r).length ≤ 20000 := by
   have : (digs r).length ≤ (digs b).length := digs_len (by omega)
   omega
  have hs : i % 16 < 16 := Nat.mod_lt _ (by decide)
  have e16 : 65536 ^ (i / 16) * 2 ^ (i % 16) = 2 ^ i := by rw [Nat.mul_comm]; exact pow16 i
  obtain ⟨bit, hbit⟩ : ∃ bit, a / 2 ^ i % 2 = bit := ⟨_, rfl⟩
  rw [hbit] at hA
  have hbit1 : bit ≤ 1 := by omega
  have hdig : (digs a).getD (i / 16) 0 = ((a / 65536 ^ (i / 16) % 65536 : Nat) : Int) := by rw [dig_at (dig_digs a) _ hj, val_digs]
  have hbit2 : a / 65536 ^ (i / 16) % 65536 / 2 ^ (i % 16) % 2 = bit := by
   rw [bit_of _ _ hs, Nat.div_div_eq_div_mul, e16, hbit]
  generalize a / 65536 ^ (i / 16) % 65536 = D at *
  have hr2 : r * 2 ^ 1 + bit < 2 * b := by omega
  have lr2 : ∀ t, t ≤ 2 * b → (digs t).length ≤ Lim := by
   intro t ht
   have : (digs t).length ≤ (digs b).length + 1 := digs_len (by rw [Nat.pow_succ]; omega)
   unfold Lim
   omega
  have hqr : a / 2 ^ i = b * (2 * Q) + (r * 2 ^ 1 + bit) := by
   rw [Nat.mul_left_comm]; omega
  have b1 : i ≤ 9223372036854775807 := by omega
  have b2 : i / 16 ≤ 9223372036854775807 := by omega
  have hstep : Ev (fun k => r8_Divide.j1 k (digs a) (digs b) x (digs (r * 2 ^ 1 + bit)) (i : Int)) (digs (a / b), digs (a % b)) := by
   have l2 := lr2 (r * 2 ^ 1 + bit) (by omega)
   refine Ev.step (g := fun k => (r8_Order.f k (digs (r * 2 ^ 1 + bit)) (digs b)).bind fun t200 => _) ?_ (fun k => by rw [r8_Divide.j1])
   refine Ev.bind (order_ev _ b (by unfold Lim at l2; omega)) ?_
   by_cases hge : b ≤ r * 2 ^ 1 + bit
   ·refine Ev.ite_pos (ordN_nonneg.2 hge) ?_
    refine Ev.bind (minus_ev _ b l2 hge) ?_
    have hx6 := dig_at hx (i / 16) (by omega)
    have hd6 : val x / 65536 ^ (i / 16) = Q * 2 ^ (i % 16 + 1) := by
     rw [hv, show 2 ^ (i + 1) = 65536 ^ (i / 16) * 2 ^ (i % 16 + 1) from by rw [Nat.pow_succ, Nat.pow_succ, ← Nat.mul_assoc, e16]]
     rw [Nat.mul_left_comm, Nat.mul_div_cancel_left _ (Nat.pow_pos (by decide))]
    rw [hd6] at hx6
    have hroom := room_of Q (i % 16) hs
    generalize Q * 2 ^ (i % 16 + 1) % 65536 = D6 at *
    have hset := val_set x (i / 16) ((D6 + 2 ^ (i % 16) : Nat) : Int) (by omega)
    rw [hx6, Int.toNat_natCast, Int.toNat_natCast, Nat.mul_add, e16] at hset
    have hQ' : a / 2 ^ i / b = 2 * Q + 1 := by
     rw [hqr]
     refine Nat.div_eq_of_lt_le ?_ ?_
     ·rw [Nat.mul_comm (2 * Q + 1), Nat.mul_add]; omega
     ·rw [Nat.add_mul, Nat.mul_comm (2 * Q + 1), Nat.mul_add]; omega
    have hR' : a / 2 ^ i % b = r * 2 ^ 1 + bit - b := by
     have := Nat.div_add_mod (a / 2 ^ i) b
     rw [hQ', Nat.mul_add] at this
     omega
    have h := ih (x.set (i / 16) ((D6 + 2 ^ (i % 16) : Nat) : Int)) (by omega) (hx.set _ (Int.natCast_nonneg _) (Int.ofNat_lt.2 hroom)) (by simp [hl]) (by
     rw [hQ', Nat.add_mul, Nat.one_mul, Nat.mul_comm 2, Nat.mul_assoc, show 2 * 2 ^ i = 2 ^ (i + 1) from by rw [Nat.pow_succ]; omega, ← hv]
     omega)
    rw [hR'] at h
    rw [tdiv16, wr_nat b2, tmod16]
    refine Ev.ite_pos (Int.natCast_nonneg _) (Ev.ite_pos (by omega) (Ev.bind (power_ev (i % 16) (by omega)) ?_))
    rw [rd_nat, hx6, wr_add (by omega), wr_pred b1, Int.toNat_natCast]
    exact h
   ·refine Ev.ite_neg (fun h => hge (ordN_nonneg.1 h)) ?_
    have hQ' : a / 2 ^ i / b = 2 * Q := by
     rw [hqr, Nat.mul_add_div (by omega), Nat.div_eq_of_lt (by omega), Nat.add_zero]
    have hR' : a / 2 ^ i % b = r * 2 ^ 1 + bit := by
     rw [hqr, Nat.mul_add_mod, Nat.mod_eq_of_lt (by omega)]
    have h := ih x (by omega) hx hl (by rw [hv, hQ', Nat.pow_succ, Nat.mul_comm (2 ^ i), ← Nat.mul_assoc, Nat.mul_comm Q 2])
    rw [hR'] at h
    rw [wr_pred b1]
    exact h
  refine Ev.step (g := fun k => _) ?_ (fun k => by rw [show ((i + 1 : Nat) : Int) - 1 = (i : Int) from by omega, r8_Divide.l0])
  refine Ev.ite_pos (Int.natCast_nonneg _) (Ev.bind (left_ev r 1 lr (by omega)) ?_)
  rw [tdiv16, wr_nat b2, tmod16]
  refine Ev.ite_pos (Int.natCast_nonneg _) (Ev.ite_pos (by omega) (Ev.bind (power_ev (i % 16) (by omega)) ?_))
  have hp := Nat.two_pow_pos (i % 16)
  refine Ev.ite_neg (by omega) ?_
  have hD : D / 2 ^ (i % 16) ≤ D := Nat.div_le_self _ _
  have hDl : D < 65536 := by
   have := (dig_digs a).getD (i / 16)
   rw [hdig] at this
   omega
  rw [rd_nat, hdig, tdivp, wr_nat (by omega), tmod2, hbit2]
  by_cases h1 : bit = 1
  ·subst h1
   refine Ev.ite_pos rfl ?_
   have hp2 := plus_ev (r * 2 ^ 1) 1 (lr2 _ (by omega)) (lr2 _ (by omega))
   rw [digs_one] at hp2
   exact Ev.bind hp2 hstep
  ·have h0 : bit = 0 := by omega
   subst h0
   refine Ev.ite_neg (by decide) ?_
   exact hstep
theorem divide_ev (a b : Nat) (hb : b ≠ 0) (la : (digs a).length ≤ 1000) (lb : (digs b).length ≤ 1000) : Ev (fun k => r8_Divide.f k (digs a) (digs b)) (digs (a / b), digs (a % b)) := by
 unfold r8_Divide.f
 have h2 : ((digs a).length : Int).toNat ≤ 35184372088832 := by rw [Int.toNat_natCast]; omega
 refine Ev.ite_pos (Int.natCast_nonneg _) (Ev.ite_pos h2 (Ev.bind (length_ev a (by unfold Lim; omega)) ?_))
 have hb2 := bits_len a
 rw [wr_pred (by omega), Int.toNat_natCast]
 have hz : a / 2 ^ bits a = 0 := Nat.div_eq_of_lt (log_lt a)
 have := divide_l0 a b hb la lb (bits a) (List.replicate (digs a).length 0) (Nat.le_refl _) (dig_zeros _) (by simp) (by rw [hz, val_zeros]; simp)
 rw [hz, Nat.zero_mod, digs_zero] at this
 exact this
theorem root_l0 (a : Nat) (la : (digs a).length ≤ 1000) : ∀ (i r : Nat), i ≤ 9000 → (digs r).length ≤ 2000 → r * r ≤ a → a < (r + 2 ^ i) * (r + 2 ^ i) →
  ∃ q, q * q ≤ a ∧ a < (q + 1) * (q + 1) ∧ Ev (fun k => r8_Root.l0 k (digs a) (digs r) ((i : Int) - 1)) (digs q, q * q != a) := by
 have lsq : ∀ r, r * r ≤ a → (digs r).length ≤ (digs a).length + 1 := by
  intro r h
  by_cases h0 : r = 0
  ·subst h0; simp [digs_zero]
  ·have h2 : r ≤ r * r := Nat.le_mul_of_pos_left r (by omega)
   have h3 := val_lt (dig_digs a)
   rw [val_digs] at h3
   have := digs_len (n := r) (m := (digs a).length) (by omega)
   omega
 intro i
 induction i with
 | zero =>
  intro r _ lr h1 h2
  refine ⟨r, h1, h2, ?_⟩
  have h0 : ¬ (((0 : Nat) : Int) - 1 ≥ 0) := by decide
  refine Ev.step (g := fun k => _) ?_ (fun k => by rw [r8_Root.l0])
  refine Ev.ite_neg h0 (Ev.bind (times_ev r r (by unfold Lim; omega) (by unfold Lim; omega)) ?_)
  have hl : (digs (r * r)).length ≤ (digs a).length := digs_len (by have h3 := val_lt (dig_digs a); rw [val_digs] at h3; omega)
  refine Ev.bind (order_ev (r * r) a (by omega)) ?_
  have : (ordN (r * r) a != 0) = (r * r != a) := by
   rw [Bool.eq_iff_iff]
   simp [ordN_zero]
  rw [this]
  exact Ev.pure _
 | succ i ih =>
  intro r hi lr h1 h2
  have b1 : i ≤ 9223372036854775807 := by omega
  have l1 : (digs 1).length ≤ 20000 := by rw [digs_one]; simp
  have lp : (digs (2 ^ i)).length ≤ 1000 := by
   have := len_bits (a := 2 ^ i) (n := i + 1) (Nat.pow_lt_pow_right (by decide) (by omega))
   omega
  have ln : (digs (r + 2 ^ i)).length ≤ 3000 := by
   have h3 := val_lt (dig_digs r)
   have h4 := val_lt (dig_digs (2 ^ i))
   rw [val_digs] at h3 h4
   obtain ⟨M, hM⟩ : ∃ M : Nat, M = 2000 := ⟨_, rfl⟩
   have h5 : 65536 ^ (digs r).length ≤ 65536 ^ M := Nat.pow_le_pow_right (by decide) (by omega)
   have h6 : 65536 ^ (digs (2 ^ i)).length ≤ 65536 ^ M := Nat.pow_le_pow_right (by decide) (by omega)
   have := digs_len (n := r + 2 ^ i) (m := M + 1) (by rw [Nat.pow_succ]; generalize 65536 ^ M = P at *; omega)
   omega
  have lnn : (digs ((r + 2 ^ i) * (r + 2 ^ i))).length ≤ 6000 := by
   have h3 := val_lt (dig_digs (r + 2 ^ i))
   rw [val_digs] at h3
   have := digs_len (n := (r + 2 ^ i) * (r + 2 ^ i)) (m := (digs (r + 2 ^ i)).length + (digs (r + 2 ^ i)).length) (by rw [Nat.pow_add]; exact Nat.mul_lt_mul'' h3 h3)
   omega
  have hl : Ev (fun k => r8_Left.f k [1] (i : Int)) (digs (2 ^ i)) := by
   have := left_ev 1 i l1 (by omega)
   rwa [digs_one, Nat.one_mul] at this
  by_cases hle : (r + 2 ^ i) * (r + 2 ^ i) ≤ a
  ·obtain ⟨q, hq1, hq2, hq3⟩ := ih (r + 2 ^ i) (by omega) (by have := lsq _ hle; omega) hle (by rw [Nat.pow_succ] at h2; rw [show r + 2 ^ i + 2 ^ i = r + 2 ^ i * 2 from by omega]; exact h2)
   refine ⟨q, hq1, hq2, ?_⟩
   refine Ev.step (g := fun k => _) ?_ (fun k => by rw [show ((i + 1 : Nat) : Int) - 1 = (i : Int) from by omega, r8_Root.l0])
   refine Ev.ite_pos (Int.natCast_nonneg _) (Ev.bind hl (Ev.bind (plus_ev r (2 ^ i) (by unfold Lim; omega) (by unfold Lim; omega)) (Ev.bind (times_ev _ _ (by unfold Lim; omega) (by unfold Lim; omega)) (Ev.bind (order_ev _ a (by omega)) ?_))))
   rw [wr_pred b1]
   exact Ev.ite_pos (ordN_le.2 hle) hq3
  ·obtain ⟨q, hq1, hq2, hq3⟩ := ih r (by omega) lr h1 (by omega)
   refine ⟨q, hq1, hq2, ?_⟩
   refine Ev.step (g := fun k => _) ?_ (fun k => by rw [show ((i + 1 : Nat) : Int) - 1 = (i : Int) from by omega, r8_Root.l0])
   refine Ev.ite_pos (Int.natCast_nonneg _) (Ev.bind hl (Ev.bind (plus_ev r (2 ^ i) (by unfold Lim; omega) (by unfold Lim; omega)) (Ev.bind (times_ev _ _ (by unfold Lim; omega) (by unfold Lim; omega)) (Ev.bind (order_ev _ a (by omega)) ?_))))
   rw [wr_pred b1]
   exact Ev.ite_neg (fun h => hle (ordN_le.1 h)) hq3
theorem root_ev (a : Nat) (la : (digs a).length ≤ 1000) : ∃ q, q * q ≤ a ∧ a < (q + 1) * (q + 1) ∧ Ev (fun k => r8_Root.f k (digs a)) (digs q, q * q != a) := by
 have hb2 := bits_len a
 have h2 : a < (0 + 2 ^ (bits a / 2 + 2)) * (0 + 2 ^ (bits a / 2 + 2)) := by
  rw [Nat.zero_add, ← Nat.pow_add]
  exact Nat.lt_of_lt_of_le (log_lt a) (Nat.pow_le_pow_right (by decide) (by omega))
 obtain ⟨q, h1, h2, h3⟩ := root_l0 a la (bits a / 2 + 2) 0 (by omega) (by simp [digs_zero]) (by omega) h2
 refine ⟨q, h1, h2, ?_⟩
 unfold r8_Root.f
 refine Ev.bind (length_ev a (by unfold Lim; omega)) ?_
 rw [tdiv2, wr_nat (by omega), wr_succ (by omega)]
 rw [digs_zero, show (((bits a / 2 + 2 : Nat) : Int) - 1) = ((bits a / 2 + 1 : Nat) : Int) from by omega] at h3
 exact h3
end Go.Proofs.YtmoimcblmmcffaaGreat.N

namespace Go.Proofs.YtmoimcblmmcffaaGreat.B
open Go.RowKit
set_option linter.unusedSimpArgs false
set_option linter.unusedVariables false
def cellOf (w : World) (g i : Nat) : Value := (w.cell? ⟨g, i, none⟩).getD undef
abbrev Own (w : World) (g k : Nat) : Prop := (∀ i, i < k → w.cell? ⟨g, i, none⟩ = some (cellOf w g i)) ∧ (∀ i, w.frozen? ⟨g, i, none⟩ = false) ∧ g < w.heap.size
abbrev ExtN (N : Nat) (w0 W w : World) : Prop := (∀ b o, b < N → w.cell? ⟨b, o, none⟩ = W.cell? ⟨b, o, none⟩) ∧ N ≤ w.heap.size ∧ Below w0.heap.size w0 w
theorem cellOf_eq {w : World} {g i : Nat} {v : Value} (h : w.cell? ⟨g, i, none⟩ = some v) : w.cell? ⟨g, i, none⟩ = some (cellOf w g i) := by
 unfold cellOf; rw [h]; rfl
theorem ExtN.refl {N : Nat} {w0 W : World} (hN : N ≤ W.heap.size) (h : Below w0.heap.size w0 W) : ExtN N w0 W W := ⟨fun _ _ _ => rfl, hN, h⟩
theorem ExtN.call {N : Nat} {w0 W w1 w2 : World} (h : ExtN N w0 W w1) (hb : Below w1.heap.size w1 w2) : ExtN N w0 W w2 :=
 ⟨fun b o hlt => ((bcell hb).1 b o (Nat.lt_of_lt_of_le hlt h.2.1)).trans (h.1 b o hlt), Nat.le_trans h.2.1 hb.size, h.2.2.trans (hb.mono h.2.2.size)⟩
theorem ExtN.drew {N : Nat} {w0 W w1 : World} (h : ExtN N w0 W w1) : ExtN N w0 W w1.drew := h.call (Below.refl _ _).drew
theorem ExtN.alloc {N : Nat} {w0 W w1 : World} (h : ExtN N w0 W w1) (o : Obj) : ExtN N w0 W (w1.alloc o) := h.call (below_alloc0 (Below.refl _ _) o)
theorem ExtN.set {N : Nat} {w0 W w1 : World} (h : ExtN N w0 W w1) {p : Addr} (hp : N ≤ p.block) (hw : w0.heap.size ≤ p.block) (v : Value) : ExtN N w0 W (w1.setCell p v) := by
 refine ⟨fun b o hlt => ?_, by simpa [World.setCell] using h.2.1, h.2.2.setCell hw v⟩
 have hne : p ≠ ⟨b, o, none⟩ := by
  intro he
  rw [he] at hp
  exact absurd hlt (Nat.not_lt.2 hp)
 exact (World.cell?_setCell_other w1 p ⟨b, o, none⟩ v hne).trans (h.1 b o hlt)
theorem Own.call {w w1 : World} {g k : Nat} (h : Own w g k) (hb : Below w.heap.size w w1) : Own w1 g k :=
 ⟨fun i hi => cellOf_eq (((bcell hb).1 g i h.2.2).trans (h.1 i hi)), fun i => ((bcell hb).2 g i h.2.2).trans (h.2.1 i), Nat.lt_of_lt_of_le h.2.2 hb.size⟩
theorem Own.drew {w : World} {g k : Nat} (h : Own w g k) : Own w.drew g k := h.call (Below.refl _ _).drew
theorem Own.alloc {w : World} {g k : Nat} (h : Own w g k) (o : Obj) : Own (w.alloc o) g k := h.call (below_alloc0 (Below.refl _ _) o)
theorem Own.set {w : World} {g k : Nat} (h : Own w g k) (p : Addr) (v : Value) : Own (w.setCell p v) g k := by
 refine ⟨fun i hi => ?_, fun i => ?_, ?_⟩
 ·by_cases he : p = ⟨g, i, none⟩
  ·subst he
   exact cellOf_eq (World.cell?_setCell_same _ _ _ (h.1 i hi))
  ·have := World.cell?_setCell_other w _ _ v he
   exact cellOf_eq (this.trans (h.1 i hi))
 ·rw [← h.2.1 i]; simp
 ·simpa [World.setCell] using h.2.2
theorem cell_put {w : World} {g i : Nat} {v u : Value} (h : (w.setCell ⟨g, i, none⟩ v).cell? ⟨g, i, none⟩ = some u) : u = v := by
 cases h0 : w.cell? ⟨g, i, none⟩ with
 | some x => rw [World.cell?_setCell_same _ _ _ h0] at h; exact (Option.some.inj h).symm
 | none =>
  exfalso
  unfold World.cell? at h h0
  unfold World.setCell at h
  simp only [Array.getElem?_modify] at h
  simp only [if_true] at h
  cases hb : w.heap[g]? with
  | none => rw [hb] at h; simp at h
  | some o =>
   rw [hb] at h h0
   cases o <;> simp at h h0
   rw [Array.getElem?_eq_none (by simpa using h0)] at h
   cases h
theorem cell_put_ne {w : World} {g i j : Nat} {v : Value} (h : i ≠ j) : (w.setCell ⟨g, i, none⟩ v).cell? ⟨g, j, none⟩ = w.cell? ⟨g, j, none⟩ :=
 World.cell?_setCell_other _ _ _ _ (by intro e; injection e with _ e _; exact h e)
theorem Own.read2 {w : World} {g n : Nat} {a b : Value} (h : Own ((w.setCell ⟨g, 0, none⟩ a).setCell ⟨g, 1, none⟩ b) g (n + 2)) :
  ((w.setCell ⟨g, 0, none⟩ a).setCell ⟨g, 1, none⟩ b).cell? ⟨g, 0, none⟩ = some a ∧ ((w.setCell ⟨g, 0, none⟩ a).setCell ⟨g, 1, none⟩ b).cell? ⟨g, 1, none⟩ = some b := by
 have e0 := h.1 0 (by omega)
 have e1 := h.1 1 (by omega)
 refine ⟨?_, ?_⟩
 ·rw [e0]; rw [cell_put_ne (by decide)] at e0; rw [cell_put e0]
 ·rw [e1]; rw [cell_put e1]
theorem Own.read4 {w : World} {g n : Nat} {a b c d : Value} (h : Own ((((w.setCell ⟨g, 0, none⟩ a).setCell ⟨g, 1, none⟩ b).setCell ⟨g, 2, none⟩ c).setCell ⟨g, 3, none⟩ d) g (n + 4)) :
  ((((w.setCell ⟨g, 0, none⟩ a).setCell ⟨g, 1, none⟩ b).setCell ⟨g, 2, none⟩ c).setCell ⟨g, 3, none⟩ d).cell? ⟨g, 0, none⟩ = some a ∧ ((((w.setCell ⟨g, 0, none⟩ a).setCell ⟨g, 1, none⟩ b).setCell ⟨g, 2, none⟩ c).setCell ⟨g, 3, none⟩ d).cell? ⟨g, 1, none⟩ = some b ∧
  ((((w.setCell ⟨g, 0, none⟩ a).setCell ⟨g, 1, none⟩ b).setCell ⟨g, 2, none⟩ c).setCell ⟨g, 3, none⟩ d).cell? ⟨g, 2, none⟩ = some c ∧ ((((w.setCell ⟨g, 0, none⟩ a).setCell ⟨g, 1, none⟩ b).setCell ⟨g, 2, none⟩ c).setCell ⟨g, 3, none⟩ d).cell? ⟨g, 3, none⟩ = some d := by
 have e0 := h.1 0 (by omega)
 have e1 := h.1 1 (by omega)
 have e2 := h.1 2 (by omega)
 have e3 := h.1 3 (by omega)
 refine ⟨?_, ?_, ?_, ?_⟩
 ·rw [e0]; rw [cell_put_ne (by decide), cell_put_ne (by decide), cell_put_ne (by decide)] at e0; rw [cell_put e0]
 ·rw [e1]; rw [cell_put_ne (by decide), cell_put_ne (by decide)] at e1; rw [cell_put e1]
 ·rw [e2]; rw [cell_put_ne (by decide)] at e2; rw [cell_put e2]
 ·rw [e3]; rw [cell_put e3]
theorem own_new (w : World) (cs : Array Value) (t : TypeId) : Own (w.alloc (.cells cs t (0, 0))) w.heap.size cs.size :=
 ⟨fun i hi => cellOf_eq (by rw [cell_of_row _ _ i cs t (0, 0) (heap_alloc_new w _), Array.getElem?_eq_getElem hi]), fun i => by
  unfold World.frozen?
  rw [heap_alloc_new w (.cells cs t (0, 0))]
  simp, by simp⟩
abbrev ExO (N : Nat) (w0 W : World) (g k : Nat) (w : World) : Prop := ExtN N w0 W w ∧ Own w g k
theorem ExO.drew {N g k : Nat} {w0 W w1 : World} (h : ExO N w0 W g k w1) : ExO N w0 W g k w1.drew := ⟨h.1.drew, h.2.drew⟩
theorem ExO.call {N g k : Nat} {w0 W w1 w2 : World} (h : ExO N w0 W g k w1) (hb : Below w1.heap.size w1 w2) : ExO N w0 W g k w2 := ⟨h.1.call hb, h.2.call hb⟩
theorem ExO.alloc {N g k : Nat} {w0 W w1 : World} (h : ExO N w0 W g k w1) (o : Obj) : ExO N w0 W g k (w1.alloc o) := ⟨h.1.alloc o, h.2.alloc o⟩
theorem ExO.set {N g k : Nat} {w0 W w1 : World} (h : ExO N w0 W g k w1) {p : Addr} (hp : N ≤ p.block) (hw : w0.heap.size ≤ p.block) (v : Value) : ExO N w0 W g k (w1.setCell p v) := ⟨h.1.set hp hw v, h.2.set p v⟩
theorem ExO.put {k n : Nat} {w0 W w1 : World} (h : ExO (w0.heap.size + k) w0 W (w0.heap.size + k) n w1) (j : Nat) (v : Value) : ExO (w0.heap.size + k) w0 W (w0.heap.size + k) n (w1.setCell ⟨w0.heap.size + k, j, none⟩ v) :=
 h.set (Nat.le_refl _) (Nat.le_add_right _ _) v
theorem ExO.keep {k n : Nat} {w0 W w1 : World} (h : ExO (w0.heap.size + k) w0 W (w0.heap.size + k) n w1 := by repeat (first | assumption | exact ExO.call (by assumption) (by assumption) | refine ExO.drew ?_ | refine ExO.put ?_ _ _ | refine ExO.alloc ?_ _)) : ExO (w0.heap.size + k) w0 W (w0.heap.size + k) n w1 := h
theorem ExO.end {k n : Nat} {w0 W w1 : World} (h : ExO (w0.heap.size + k) w0 W (w0.heap.size + k) n w1) : Below w0.heap.size w0 w1 := h.1.2.2
theorem hide2own {P : Program} {c : Code} {Q : Exit → Act → World → Prop} {a : Act} {w : World} {cs cs' cs'' : Array Value} {t t' t'' : TypeId} (w0 : World)
  (h : ∀ W, (∀ i, W.cell? ⟨w.heap.size, i, none⟩ = cs[i]?) → (∀ i, W.cell? ⟨w.heap.size + 1, i, none⟩ = cs'[i]?) → Own W (w.heap.size + 2) cs''.size → ExtN (w.heap.size + 2) w0 W W → c.wp P Q a W)
  (hb : Below w0.heap.size w0 w := by exact below_end) : c.wp P Q a (((w.alloc (.cells cs t (0, 0))).alloc (.cells cs' t' (0, 0))).alloc (.cells cs'' t'' (0, 0))) := by
 have e1 : (w.alloc (.cells cs t (0, 0))).heap.size = w.heap.size + 1 := by simp
 have e2 : ((w.alloc (.cells cs t (0, 0))).alloc (.cells cs' t' (0, 0))).heap.size = w.heap.size + 2 := by simp
 refine h _ (fun i => ?_) (fun i => ?_) ?_ ?_
 ·rw [cell_of_row _ _ i cs t (0, 0) ((Below.heap_alloc _ _ _ (by rw [e2]; omega)).trans ((Below.heap_alloc _ _ _ (by rw [e1]; omega)).trans (heap_alloc_new w _)))]
 ·have k := heap_alloc_new (w.alloc (.cells cs t (0, 0))) (.cells cs' t' (0, 0))
  rw [e1] at k
  rw [cell_of_row _ _ i cs' t' (0, 0) ((Below.heap_alloc _ _ _ (by rw [e2]; omega)).trans k)]
 ·have k := own_new ((w.alloc (.cells cs t (0, 0))).alloc (.cells cs' t' (0, 0))) cs'' t''
  rw [e2] at k
  exact k
 ·exact ExtN.refl (by simp) (below_alloc0 (below_alloc0 (below_alloc0 hb _) _) _)
theorem hide1own {P : Program} {c : Code} {Q : Exit → Act → World → Prop} {a : Act} {w : World} {cs cs' : Array Value} {t t' : TypeId} (w0 : World)
  (h : ∀ W, (∀ i, W.cell? ⟨w.heap.size, i, none⟩ = cs[i]?) → Own W (w.heap.size + 1) cs'.size → ExtN (w.heap.size + 1) w0 W W → c.wp P Q a W)
  (hb : Below w0.heap.size w0 w := by exact below_end) : c.wp P Q a ((w.alloc (.cells cs t (0, 0))).alloc (.cells cs' t' (0, 0))) := by
 have e1 : (w.alloc (.cells cs t (0, 0))).heap.size = w.heap.size + 1 := by simp
 refine h _ (fun i => ?_) ?_ ?_
 ·rw [cell_of_row _ _ i cs t (0, 0) ((Below.heap_alloc _ _ _ (by rw [e1]; omega)).trans (heap_alloc_new w _))]
 ·have k := own_new (w.alloc (.cells cs t (0, 0))) cs' t'
  rw [e1] at k
  exact k
 ·exact ExtN.refl (by simp) (below_alloc0 (below_alloc0 hb _) _)
end Go.Proofs.YtmoimcblmmcffaaGreat.B

namespace Go.Proofs.YtmoimcblmmcffaaGreat.NC
open Go.RowKit Go.Proofs.YtmoimcblmmcffaaGreat.B Go.Proofs.YtmoimcblmmcffaaGreat.N
open Go.Proofs.YtmoimcblmmcffaaGreatW.PrintWords Go.Proofs.YtmoimcblmmcffaaGreatW.PrintLast Go.Proofs.YtmoimcblmmcffaaGreatW.PrintMore Go.Proofs.YtmoimcblmmcffaaGreat.PN
set_option linter.unusedSimpArgs false
set_option linter.unusedVariables false
def Big (w : World) (A : Option Addr) (n : Nat) : Prop :=
 (digs n).length ≤ 9223372036854775807 ∧ (A = none ∧ n = 0 ∨ ∃ g, A = some ⟨g, 0, none⟩ ∧ g < w.heap.size ∧ ∀ i d, (digs n)[i]? = some d → w.cell? ⟨g, i, none⟩ = some (.int .i64 d))
theorem Big.of_cells {w w1 : World} {A : Option Addr} {n : Nat} (h : Big w A n) (hc : ∀ b o, b < w.heap.size → w1.cell? ⟨b, o, none⟩ = w.cell? ⟨b, o, none⟩) (hs : w.heap.size ≤ w1.heap.size) : Big w1 A n := by
 refine ⟨h.1, h.2.imp id ?_⟩
 rintro ⟨g, e, hg, hr⟩
 exact ⟨g, e, Nat.lt_of_lt_of_le hg hs, fun i d hd => (hc g i hg).trans (hr i d hd)⟩
theorem Big.below {w w1 : World} {A : Option Addr} {n : Nat} (h : Big w A n) (hb : Below w.heap.size w w1) : Big w1 A n := h.of_cells (bcell hb).1 hb.size
theorem Big.ext {w0 W w1 : World} {A : Option Addr} {n : Nat} (h : Big W A n) (he : Ext w0 W w1) : Big w1 A n := h.of_cells he.1 he.2.2.1
theorem Big.alloc {w : World} {A : Option Addr} {n : Nat} (h : Big w A n) (o : Obj) : Big (w.alloc o) A n := h.below (below_alloc0 (Below.refl _ _) o)
theorem Big.set {w : World} {A : Option Addr} {n : Nat} (h : Big w A n) {p : Addr} (hp : w.cell? p ≠ some undef → ∀ g, A = some ⟨g, 0, none⟩ → p.block ≠ g) (v : Value) (hq : ∀ g, A = some ⟨g, 0, none⟩ → p.block ≠ g) : Big (w.setCell p v) A n := by
 refine ⟨h.1, h.2.imp id ?_⟩
 rintro ⟨g, e, hg, hr⟩
 refine ⟨g, e, by simpa [World.setCell] using hg, fun i d hd => ?_⟩
 have hne : p ≠ ⟨g, i, none⟩ := by
  rintro rfl
  exact hq g e rfl
 exact (World.cell?_setCell_other w p ⟨g, i, none⟩ v hne).trans (hr i d hd)
theorem Big.c {w : World} {A : Option Addr} {n : Nat} (h : Big w A n) : Kd.C (Kd.int .i64) w A (digs n).length (digs n) := by
 refine ⟨rfl, h.1, fun hp => ?_⟩
 rcases h.2 with ⟨_, h0⟩ | ⟨g, e, hg, hr⟩
 ·subst h0; simp [digs_zero] at hp
 ·refine ⟨_, e, fun j p hj => ⟨[.int .i64 p], rfl, rfl, fun i u hu => ?_⟩⟩
  cases i with
  | zero =>
   have := hr j p hj
   have hu' : u = .int .i64 p := by simpa using hu.symm
   subst hu'
   show w.cell? (Addr.add ⟨g, 0, none⟩ (j * 1 + 0)) = _
   rw [← this]
   unfold Addr.add
   by_cases h0 : j = 0
   ·subst h0; rfl
   ·simp [h0]
  | succ i => simp at hu
theorem Big.of_R {e : Nat} {w : World} {base : Nat} {ok : Nat → Prop} {v : Value} {n : Nat} (h : Kd.R (Kd.int .i64) e w base ok v (digs n)) :
  ∃ A c, v = .slice A (digs n).length c ∧ (digs n).length ≤ c ∧ Big w A n := by
 obtain ⟨A, c, rfl, hc, hC⟩ := Kd.R_reads h
 refine ⟨A, c, rfl, hc, hC.2.1, ?_⟩
 obtain ⟨inner, ho⟩ := Kd.R_own h
 rcases ho.2 with ⟨e1, e2⟩ | ⟨g, cap, cur, e1, hb, hh, r⟩
 ·left
  injection e1 with e1
  exact ⟨e1, digs_nil.1 e2⟩
 ·right
  injection e1 with e1
  subst e1
  refine ⟨g, rfl, ?_, fun i d hd => ?_⟩
  ·exact Nat.lt_of_not_le (fun hle => by rw [Array.getElem?_eq_none hle] at hh; cases hh)
  ·have hp : 0 < (digs n).length := by
    cases hl : digs n with
    | nil => rw [hl] at hd; simp at hd
    | cons => simp
   obtain ⟨ad, ead, hr⟩ := hC.2.2 hp
   injection ead with ead
   subst ead
   obtain ⟨cs, _, hk, hcell⟩ := hr i d hd
   have hk' : cs = [.int .i64 d] := hk
   subst hk'
   have := hcell 0 _ rfl
   rw [← this]
   show _ = w.cell? (Addr.add ⟨g, 0, none⟩ (i * 1 + 0))
   unfold Addr.add
   by_cases h0 : i = 0
   ·subst h0; rfl
   ·simp [h0]
theorem Big.of_Rf {e : Nat} {w : World} {base : Nat} {ok : Nat → Prop} {v : Value} {n : Nat} (h : Kd.R (Kd.int .i64) e w base ok v (digs n)) :
  ∃ A c, v = .slice A (digs n).length c ∧ (digs n).length ≤ c ∧ Big w A n ∧ ∀ g, A = some ⟨g, 0, none⟩ → base ≤ g := by
 obtain ⟨A, c, rfl, hc, hB⟩ := Big.of_R h
 refine ⟨A, c, rfl, hc, hB, ?_⟩
 rintro g rfl
 exact Kd.R_base h g rfl
theorem Big.put {w : World} {A : Option Addr} {n : Nat} (h : Big w A n) {p : Addr} (hq : ∀ g, A = some ⟨g, 0, none⟩ → p.block < g) (v : Value) : Big (w.setCell p v) A n :=
 h.set (fun _ g e => Nat.ne_of_lt (hq g e)) v (fun g e => Nat.ne_of_lt (hq g e))
theorem big_lit {w : World} {d : Int} {n t : Nat} (h : digs n = [d]) : Big (w.alloc (.cells #[.int .i64 d] t (0, 0))) (some ⟨w.heap.size, 0, none⟩) n := by
 refine ⟨by rw [h]; simp, .inr ⟨_, rfl, by simp, fun i e he => ?_⟩⟩
 rw [cell_of_row _ _ i #[.int .i64 d] t (0, 0) (heap_alloc_new w _)]
 rw [h] at he
 cases i with
 | zero => simp at he; subst he; rfl
 | succ i => simp at he
def RetBig (n : Nat) (w : World) : Ending → World → Prop := fun e w' => ∃ A c, e = .returned (.slice A (digs n).length c) ∧ (digs n).length ≤ c ∧ Big w' A n ∧ Below w.heap.size w w'
def RetNew (n : Nat) (w : World) : Ending → World → Prop := fun e w' => ∃ A c, e = .returned (.slice A (digs n).length c) ∧ (digs n).length ≤ c ∧ Big w' A n ∧ (∀ g, A = some ⟨g, 0, none⟩ → w.heap.size ≤ g) ∧ Below w.heap.size w w'
theorem drawn_below {w w' : World} (h : Drawn0 w w') : Below w.heap.size w w' := by
 obtain ⟨n, rfl⟩ := h.out
 exact below_drewN (Below.refl _ _) n
theorem plus_c (w : World) {A0 : Option Addr} {c0 n0 : Nat} {A1 : Option Addr} {c1 n1 : Nat}  (h0 : Big w A0 n0) (k0 : (digs n0).length ≤ c0) (h1 : Big w A1 n1) (k1 : (digs n1).length ≤ c1) (l0 : (digs n0).length ≤ Lim) (l1 : (digs n1).length ≤ Lim) :
  Calls Tryz.prog 112 #[.slice A0 (digs n0).length c0, .slice A1 (digs n1).length c1] w (RetBig (n0 + n1) w) := by
 obtain ⟨k, hk⟩ := Ev.some (plus_ev n0 n1 l0 l1)
 refine (r8_Plus.calls k A0 c0 (digs n0) A1 c1 (digs n1)  _ w h0.c k0 h1.c k1 hk).mono ?_
 rintro e w' ⟨v, rfl, hR, hb⟩
 obtain ⟨A, c, rfl, hc, hB⟩ := Big.of_R hR
 exact ⟨A, c, rfl, hc, hB, hb⟩
theorem minus_c (w : World) {A0 : Option Addr} {c0 n0 : Nat} {A1 : Option Addr} {c1 n1 : Nat}  (h0 : Big w A0 n0) (k0 : (digs n0).length ≤ c0) (h1 : Big w A1 n1) (k1 : (digs n1).length ≤ c1) (l0 : (digs n0).length ≤ Lim) (hle : n1 ≤ n0) :
  Calls Tryz.prog 115 #[.slice A0 (digs n0).length c0, .slice A1 (digs n1).length c1] w (RetBig (n0 - n1) w) := by
 obtain ⟨k, hk⟩ := Ev.some (minus_ev n0 n1 l0 hle)
 refine (r8_Minus.calls k A0 c0 (digs n0) A1 c1 (digs n1)  _ w h0.c k0 h1.c k1 hk).mono ?_
 rintro e w' ⟨v, rfl, hR, hb⟩
 obtain ⟨A, c, rfl, hc, hB⟩ := Big.of_R hR
 exact ⟨A, c, rfl, hc, hB, hb⟩
theorem plus_n (w : World) {A0 : Option Addr} {c0 n0 : Nat} {A1 : Option Addr} {c1 n1 : Nat}  (h0 : Big w A0 n0) (k0 : (digs n0).length ≤ c0) (h1 : Big w A1 n1) (k1 : (digs n1).length ≤ c1) (l0 : (digs n0).length ≤ Lim) (l1 : (digs n1).length ≤ Lim) :
  Calls Tryz.prog 112 #[.slice A0 (digs n0).length c0, .slice A1 (digs n1).length c1] w (RetNew (n0 + n1) w) := by
 obtain ⟨k, hk⟩ := Ev.some (plus_ev n0 n1 l0 l1)
 refine (r8_Plus.calls k A0 c0 (digs n0) A1 c1 (digs n1)  _ w h0.c k0 h1.c k1 hk).mono ?_
 rintro e w' ⟨v, rfl, hR, hb⟩
 obtain ⟨A, c, rfl, hc, hB, hf⟩ := Big.of_Rf hR
 exact ⟨A, c, rfl, hc, hB, hf, hb⟩
theorem minus_n (w : World) {A0 : Option Addr} {c0 n0 : Nat} {A1 : Option Addr} {c1 n1 : Nat}  (h0 : Big w A0 n0) (k0 : (digs n0).length ≤ c0) (h1 : Big w A1 n1) (k1 : (digs n1).length ≤ c1) (l0 : (digs n0).length ≤ Lim) (hle : n1 ≤ n0) :
  Calls Tryz.prog 115 #[.slice A0 (digs n0).length c0, .slice A1 (digs n1).length c1] w (RetNew (n0 - n1) w) := by
 obtain ⟨k, hk⟩ := Ev.some (minus_ev n0 n1 l0 hle)
 refine (r8_Minus.calls k A0 c0 (digs n0) A1 c1 (digs n1)  _ w h0.c k0 h1.c k1 hk).mono ?_
 rintro e w' ⟨v, rfl, hR, hb⟩
 obtain ⟨A, c, rfl, hc, hB, hf⟩ := Big.of_Rf hR
 exact ⟨A, c, rfl, hc, hB, hf, hb⟩
theorem times_c (w : World) {A0 : Option Addr} {c0 n0 : Nat} {A1 : Option Addr} {c1 n1 : Nat}  (h0 : Big w A0 n0) (k0 : (digs n0).length ≤ c0) (h1 : Big w A1 n1) (k1 : (digs n1).length ≤ c1) (l0 : (digs n0).length ≤ Lim) (l1 : (digs n1).length ≤ Lim) :
  Calls Tryz.prog 108 #[.slice A0 (digs n0).length c0, .slice A1 (digs n1).length c1] w (RetBig (n0 * n1) w) := by
 obtain ⟨k, hk⟩ := Ev.some (times_ev n0 n1 l0 l1)
 refine (r8_Times.calls k A0 c0 (digs n0) A1 c1 (digs n1)  _ w h0.c k0 h1.c k1 hk).mono ?_
 rintro e w' ⟨v, rfl, hR, hb⟩
 obtain ⟨A, c, rfl, hc, hB⟩ := Big.of_R hR
 exact ⟨A, c, rfl, hc, hB, hb⟩
theorem left_c (w : World) {A0 : Option Addr} {c0 n0 : Nat} {s : Nat} (h0 : Big w A0 n0) (k0 : (digs n0).length ≤ c0) (l0 : (digs n0).length ≤ 20000) (l1 : s ≤ 100000) :
  Calls Tryz.prog 110 #[.slice A0 (digs n0).length c0, .int .i64 (s : Int)] w (RetBig (n0 * 2 ^ s) w) := by
 obtain ⟨k, hk⟩ := Ev.some (left_ev n0 s l0 l1)
 refine (r8_Left.calls k A0 c0 (digs n0) (s : Int) _ w h0.c k0 hk).mono ?_
 rintro e w' ⟨v, rfl, hR, hb⟩
 obtain ⟨A, c, rfl, hc, hB⟩ := Big.of_R hR
 exact ⟨A, c, rfl, hc, hB, hb⟩
theorem nat_c (w : World) {n : Nat} (h : n ≤ 9223372036854775807) : Calls Tryz.prog 75 #[.int .i64 (n : Int)] w (RetBig n w) := by
 obtain ⟨k, hk⟩ := Ev.some (nat_ev n h)
 refine (r8_Nat.calls k (n : Int) _ w hk).mono ?_
 rintro e w' ⟨v, rfl, hR, hb⟩
 obtain ⟨A, c, rfl, hc, hB⟩ := Big.of_R hR
 exact ⟨A, c, rfl, hc, hB, hb⟩
theorem nat_n (w : World) {n : Nat} (h : n ≤ 9223372036854775807) : Calls Tryz.prog 75 #[.int .i64 (n : Int)] w (RetNew n w) := by
 obtain ⟨k, hk⟩ := Ev.some (nat_ev n h)
 refine (r8_Nat.calls k (n : Int) _ w hk).mono ?_
 rintro e w' ⟨v, rfl, hR, hb⟩
 obtain ⟨A, c, rfl, hc, hB, hf⟩ := Big.of_Rf hR
 exact ⟨A, c, rfl, hc, hB, hf, hb⟩
theorem right_c (w : World) {A0 : Option Addr} {c0 n0 : Nat} {s : Nat} (h0 : Big w A0 n0) (k0 : (digs n0).length ≤ c0) (l0 : (digs n0).length ≤ Lim) (l1 : s ≤ 1000000) :
  Calls Tryz.prog 114 #[.slice A0 (digs n0).length c0, .int .i64 (s : Int)] w fun e w' => ∃ A c, e = .returned (.tuple #[.slice A (digs (n0 / 2 ^ s)).length c, .bool (n0 % 2 ^ s != 0)]) ∧ (digs (n0 / 2 ^ s)).length ≤ c ∧ Big w' A (n0 / 2 ^ s) ∧ Below w.heap.size w w' := by
 obtain ⟨k, hk⟩ := Ev.some (right_ev n0 s l0 l1)
 refine (r8_Right.calls k A0 c0 (digs n0) (s : Int) _ _ w h0.c k0 hk).mono ?_
 rintro e w' ⟨v, rfl, hR, hb⟩
 obtain ⟨A, c, rfl, hc, hB⟩ := Big.of_R hR
 exact ⟨A, c, rfl, hc, hB, hb⟩
theorem divide_c (w : World) {A0 A1 : Option Addr} {c0 n0 c1 n1 : Nat} (h0 : Big w A0 n0) (k0 : (digs n0).length ≤ c0) (h1 : Big w A1 n1) (k1 : (digs n1).length ≤ c1) (hz : n1 ≠ 0) (l0 : (digs n0).length ≤ 1000) (l1 : (digs n1).length ≤ 1000) :
  Calls Tryz.prog 109 #[.slice A0 (digs n0).length c0, .slice A1 (digs n1).length c1] w fun e w' => ∃ A c A' c', e = .returned (.tuple #[.slice A (digs (n0 / n1)).length c, .slice A' (digs (n0 % n1)).length c']) ∧ (digs (n0 / n1)).length ≤ c ∧ Big w' A (n0 / n1) ∧ (digs (n0 % n1)).length ≤ c' ∧ Big w' A' (n0 % n1) ∧ Below w.heap.size w w' := by
 obtain ⟨k, hk⟩ := Ev.some (divide_ev n0 n1 hz l0 l1)
 refine (r8_Divide.calls k A0 c0 (digs n0) A1 c1 (digs n1) _ _ w h0.c k0 h1.c k1 hk).mono ?_
 rintro e w' ⟨v, v', rfl, hR, hR', hb⟩
 obtain ⟨A, c, rfl, hc, hB⟩ := Big.of_R hR
 obtain ⟨A', c', rfl, hc', hB'⟩ := Big.of_R hR'
 exact ⟨A, c, A', c', rfl, hc, hB, hc', hB', hb⟩
def IsRoot (a q : Nat) : Prop := q * q ≤ a ∧ a < (q + 1) * (q + 1)
theorem root_c (w : World) {A0 : Option Addr} {c0 n0 : Nat} (h0 : Big w A0 n0) (k0 : (digs n0).length ≤ c0) (l0 : (digs n0).length ≤ 1000) :
  Calls Tryz.prog 125 #[.slice A0 (digs n0).length c0] w fun e w' => ∃ q A c, IsRoot n0 q ∧ e = .returned (.tuple #[.slice A (digs q).length c, .bool (q * q != n0)]) ∧ (digs q).length ≤ c ∧ Big w' A q ∧ Below w.heap.size w w' := by
 obtain ⟨q, q1, q2, hev⟩ := root_ev n0 l0
 obtain ⟨k, hk⟩ := Ev.some hev
 refine (r8_Root.calls k A0 c0 (digs n0) _ _ w h0.c k0 hk).mono ?_
 rintro e w' ⟨v, rfl, hR, hb⟩
 obtain ⟨A, c, rfl, hc, hB⟩ := Big.of_R hR
 exact ⟨q, A, c, ⟨q1, q2⟩, rfl, hc, hB, hb⟩
theorem order_c (w : World) {A0 A1 : Option Addr} {c0 n0 c1 n1 : Nat} (h0 : Big w A0 n0) (k0 : (digs n0).length ≤ c0) (h1 : Big w A1 n1) (k1 : (digs n1).length ≤ c1) (l0 : (digs n0).length ≤ Lim) :
  Calls Tryz.prog 116 #[.slice A0 (digs n0).length c0, .slice A1 (digs n1).length c1] w (Ret (.int .i64 (ordN n0 n1)) w) := by
 obtain ⟨k, hk⟩ := Ev.some (order_ev n0 n1 (by unfold Lim at l0; omega))
 refine (r8_Order.calls k A0 c0 (digs n0) A1 c1 (digs n1) _ w h0.c k0 h1.c k1 hk).mono ?_
 rintro e w' ⟨rfl, hd⟩
 exact ⟨rfl, drawn_below hd⟩
theorem length_c (w : World) {A0 : Option Addr} {c0 n0 : Nat} (h0 : Big w A0 n0) (k0 : (digs n0).length ≤ c0) (l0 : (digs n0).length ≤ Lim) :
  Calls Tryz.prog 113 #[.slice A0 (digs n0).length c0] w (Ret (.int .i64 (N.bits n0 : Int)) w) := by
 obtain ⟨k, hk⟩ := Ev.some (length_ev n0 l0)
 refine (r8_Length.calls k A0 c0 (digs n0) _ w h0.c k0 hk).mono ?_
 rintro e w' ⟨rfl, hd⟩
 exact ⟨rfl, drawn_below hd⟩
theorem int_c (w : World) {A0 : Option Addr} {c0 n0 : Nat} (h0 : Big w A0 n0) (k0 : (digs n0).length ≤ c0) (l0 : n0 ≤ 9223372036854775807) :
  Calls Tryz.prog 118 #[.slice A0 (digs n0).length c0] w (Ret (.int .i64 (n0 : Int)) w) := by
 obtain ⟨k, hk⟩ := Ev.some (int_ev n0 l0)
 refine (r8_Int.calls k A0 c0 (digs n0) _ w h0.c k0 hk).mono ?_
 rintro e w' ⟨rfl, hd⟩
 exact ⟨rfl, drawn_below hd⟩
theorem digit0 (n : Nat) : (digs n).getD 0 0 = ((n % 65536 : Nat) : Int) := by
 by_cases h : n = 0
 ·subst h; simp [digs_zero]
 ·rw [digs_pos h]; rfl
theorem digit_c (w : World) {A0 : Option Addr} {c0 n0 : Nat} (h0 : Big w A0 n0) (k0 : (digs n0).length ≤ c0) :
  Calls Tryz.prog 117 #[.slice A0 (digs n0).length c0, .int .i64 0] w (Ret (.int .i64 ((n0 % 65536 : Nat) : Int)) w) := by
 have hk := digit_f (digs n0) 0
 rw [digit0] at hk
 refine (r8_digit.calls A0 c0 (digs n0) _ _ w h0.c k0 hk).mono ?_
 rintro e w' ⟨rfl, hd⟩
 exact ⟨rfl, drawn_below hd⟩
theorem power_c (w : World) {n : Nat} (h : n ≤ 62) : Calls Tryz.prog 71 #[.int .i64 (n : Int)] w (Ret (.int .i64 ((2 ^ n : Nat) : Int)) w) := by
 obtain ⟨k, hk⟩ := Ev.some (power_ev n h)
 refine (bs_Power.calls k _ _ w hk).mono ?_
 rintro e w' ⟨rfl, hd⟩
 exact ⟨rfl, drawn_below hd⟩
theorem bit_c (w : World) (b : Bool) : Calls Tryz.prog 103 #[.bool b] w (Ret (.int .i64 (if b then 1 else 0)) w) := by
 refine (bs_Bit.calls b _ w (bit_f b)).mono ?_
 rintro e w' ⟨rfl, hd⟩
 exact ⟨rfl, drawn_below hd⟩
theorem size_c (w : World) (n : Int) (h0 : -9223372036854775807 ≤ n) (h1 : n ≤ 9223372036854775807) : Calls Tryz.prog 76 #[.int .i64 n] w (Ret (.int .i64 (n.natAbs : Int)) w) := by
 refine (bs_Size.calls n _ w (size_f n h0 h1)).mono ?_
 rintro e w' ⟨rfl, hd⟩
 exact ⟨rfl, drawn_below hd⟩
theorem tmod_two (n : Int) : (0 ≤ n ∧ Int.tmod n 2 = n % 2) ∨ (n < 0 ∧ Int.tmod n 2 = -((-n) % 2)) := by
 by_cases h : 0 ≤ n
 ·exact .inl ⟨h, Int.tmod_eq_emod_of_nonneg h⟩
 ·refine .inr ⟨by omega, ?_⟩
  have := Int.tmod_eq_emod_of_nonneg (a := -n) (b := 2) (by omega)
  rw [Int.neg_tmod] at this
  omega
theorem mod2_c (w : World) (n : Int) : Calls Tryz.prog 124 #[.int .i64 n, .int .i64 2] w (Ret (.int .i64 (n % 2)) w) := by
 have hk : bs_Mod.f n 2 = some (n % 2) := by
  unfold bs_Mod.f
  rw [if_neg (by decide), bit_f, Option.bind_some]
  have ht := tmod_two n
  generalize Int.tmod n 2 = t at *
  by_cases h : t < 0
  ·rw [decide_eq_true h, if_pos rfl]
   have e : n % 2 = t + 2 := by omega
   rw [wr (n := 2 * 1) (by decide) (by decide), wr (by omega) (by omega), e]
   rfl
  ·rw [decide_eq_false h, if_neg (by decide)]
   have e : n % 2 = t := by omega
   rw [wr (n := 2 * 0) (by decide) (by decide), wr (by omega) (by omega), e]
   simp
 refine (bs_Mod.calls n 2 _ w hk).mono ?_
 rintro e w' ⟨rfl, hd⟩
 exact ⟨rfl, drawn_below hd⟩
end Go.Proofs.YtmoimcblmmcffaaGreat.NC

namespace Go.Proofs.YtmoimcblmmcffaaGreat.NC
open Go.RowKit Go.Proofs.YtmoimcblmmcffaaGreat.B
set_option linter.unusedSimpArgs false
set_option linter.unusedVariables false
def fmtV : Bool → Value
 | true => .agg #[.int .i64 24, .int .i64 8, .int .i64 (-149), .int .i64 104]
 | false => .agg #[.int .i64 53, .int .i64 11, .int .i64 (-1074), .int .i64 971]
theorem formatOf_c (s : Bool) (w : World) : Calls Tryz.prog 68 #[.int .i64 (tv s)] w (Ret (fmtV s) w) := by
 cases s
 ·show Calls Tryz.prog 68 #[.int .i64 2] w _
  go_enter Tryz.func68, Tryz.ntmps68
  go_wp2
  exact bodyPost_ret (v := fmtV false) (by simp [results, Tryz.results68, go_sem, fmtV]) rfl ⟨rfl, below_end⟩
 ·show Calls Tryz.prog 68 #[.int .i64 1] w _
  go_enter Tryz.func68, Tryz.ntmps68
  go_wp2
  exact bodyPost_ret (v := fmtV true) (by simp [results, Tryz.results68, go_sem, fmtV]) rfl ⟨rfl, below_end⟩
theorem nanR_c (s : Bool) (w : World) : Calls Tryz.prog 67 #[.int .i64 (tv s)] w (Ret (.int .u64 (nanV s)) w) := by
 cases s
 ·show Calls Tryz.prog 67 #[.int .i64 2] w _
  go_enter Tryz.func67, Tryz.ntmps67
  go_wp2
  go_ret
  exact ⟨rfl, below_end⟩
 ·show Calls Tryz.prog 67 #[.int .i64 1] w _
  go_enter Tryz.func67, Tryz.ntmps67
  go_wp2
  go_ret
  exact ⟨rfl, below_end⟩
end Go.Proofs.YtmoimcblmmcffaaGreat.NC

namespace Go.Proofs.YtmoimcblmmcffaaGreat.NC
open Go.RowKit Go.Proofs.YtmoimcblmmcffaaGreat.B
set_option linter.unusedSimpArgs false
set_option linter.unusedVariables false
theorem hide_res {P : Program} {c : Code} {Q : Exit → Act → World → Prop} {a : Act} {w w1 : World} {cs cs' : Array Value} {t t' : TypeId}
  (hb : Below (w.alloc (.cells cs t (0, 0))).heap.size (w.alloc (.cells cs t (0, 0))) w1)
  (h : ∀ W, (∀ i, W.cell? ⟨w1.heap.size, i, none⟩ = cs'[i]?) → w1.heap.size < W.heap.size → Own W w.heap.size cs.size → Ext w W W → c.wp P Q a W) :
  c.wp P Q a (w1.alloc (.cells cs' t' (0, 0))) := by
 have e1 : (w.alloc (.cells cs t (0, 0))).heap.size = w.heap.size + 1 := by simp
 refine h _ (fun i => ?_) (by simp) ?_ ?_
 ·rw [cell_of_row _ _ i cs' t' (0, 0) (heap_alloc_new w1 _)]
 ·exact ((own_new w cs t).call hb).alloc _
 ·refine Ext.refl ?_
  exact below_alloc0 ((below_alloc0 (Below.refl _ _) _).trans (hb.mono (by rw [e1]; omega))) _
theorem Own.ext {w0 W w1 : World} {g k : Nat} (h : Own W g k) (he : Ext w0 W w1) : Own w1 g k :=
 ⟨fun i hi => cellOf_eq ((he.1 g i h.2.2).trans (h.1 i hi)), fun i => (he.2.1 g i h.2.2).trans (h.2.1 i), Nat.lt_of_lt_of_le h.2.2 he.2.2.1⟩
theorem fin4 {w0 W w1 : World} (ho : Own W w0.heap.size 4) (he : Ext w0 W w1) (a b c d : Value) :
  ∃ w', w' = ((((w1.setCell ⟨w0.heap.size, 0, none⟩ a).setCell ⟨w0.heap.size, 1, none⟩ b).setCell ⟨w0.heap.size, 2, none⟩ c).setCell ⟨w0.heap.size, 3, none⟩ d) ∧ w'.cell? ⟨w0.heap.size, 0, none⟩ = some a ∧ w'.cell? ⟨w0.heap.size, 1, none⟩ = some b ∧ w'.cell? ⟨w0.heap.size, 2, none⟩ = some c ∧ w'.cell? ⟨w0.heap.size, 3, none⟩ = some d ∧ Below w0.heap.size w0 w' := by
 have h1 := Own.ext ho he
 have h2 : ExO (w0.heap.size + 0) w0 w1 (w0.heap.size + 0) 4 w1 := ⟨ExtN.refl he.2.2.2.size he.2.2.2, h1⟩
 have h3 := (((h2.put 0 a).put 1 b).put 2 c).put 3 d
 obtain ⟨e0, e1, e2, e3⟩ := Own.read4 (n := 0) h3.2
 exact ⟨_, rfl, e0, e1, e2, e3, h3.end⟩
structure PP where
 kind : Int
 neg : Bool
 sig : Nat
 exp : Int
def PP.v (p : PP) : Value := .agg #[.int .i64 p.kind, .bool p.neg, .int .i64 (p.sig : Int), .int .i64 p.exp]
def lowN : Bool → Nat
 | true => 8388608
 | false => 4503599627370496
def fieldN : Bool → Nat
 | true => 256
 | false => 2048
def leastN : Bool → Int
 | true => -149
 | false => -1074
def partsOf (s : Bool) (f r : Nat) (neg : Bool) : PP :=
 if f + 1 = fieldN s then (if r = 0 then ⟨2, neg, 0, 0⟩ else ⟨3, false, 0, 0⟩)
 else if f = 0 then (if r = 0 then ⟨0, neg, 0, 0⟩ else ⟨1, neg, r, leastN s⟩)
 else ⟨1, neg, r + lowN s, (f : Int) - 1 + leastN s⟩
def partsR (s : Bool) (a : Nat) : PP := partsOf s (a / lowN s % fieldN s) (a % lowN s) (decide (a / lowN s / fieldN s = 1))
theorem kuwrap {n : Nat} (h : n < 18446744073709551616) : IntKind.u64.wrap (n : Int) = (n : Int) := by
 unfold IntKind.wrap
 simp [IntKind.signed, IntKind.bits]
 omega
theorem parts_leaf {s : Bool} {f r : Nat} {neg : Bool} {R : PP} (h : partsOf s f r neg = R) : (f + 1 = fieldN s ∧ r = 0 ∧ R = ⟨2, neg, 0, 0⟩) ∨ (f + 1 = fieldN s ∧ r ≠ 0 ∧ R = ⟨3, false, 0, 0⟩) ∨ (f + 1 ≠ fieldN s ∧ f = 0 ∧ r = 0 ∧ R = ⟨0, neg, 0, 0⟩) ∨ (f + 1 ≠ fieldN s ∧ f = 0 ∧ r ≠ 0 ∧ R = ⟨1, neg, r, leastN s⟩) ∨ (f + 1 ≠ fieldN s ∧ f ≠ 0 ∧ R = ⟨1, neg, r + lowN s, (f : Int) - 1 + leastN s⟩) := by
 subst h
 unfold partsOf
 by_cases h1 : f + 1 = fieldN s
 ·by_cases h2 : r = 0 <;> simp [h1, h2]
 ·by_cases h2 : f = 0
  ·by_cases h3 : r = 0 <;> simp_all
  ·simp [h1, h2]
set_option maxHeartbeats 8000000 in
theorem parts_c (s : Bool) (a : Nat) (w : World) (ha : (a : Int) < topV s) : Calls Tryz.prog 21 #[.int .i64 (tv s), .int .u64 (a : Int)] w (Ret (partsR s a).v w) := by
 have c1 := formatOf_c s
 have c2 := fun w => power_c (n := 8) w (by decide)
 have c3 := fun w => power_c (n := 11) w (by decide)
 obtain ⟨R, hR⟩ : ∃ R, partsR s a = R := ⟨_, rfl⟩
 rw [hR]
 cases s
 ·unfold fmtV at c1
  show Calls Tryz.prog 21 #[.int .i64 2, .int .u64 (a : Int)] w _
  replace c1 : ∀ w, Calls Tryz.prog 68 #[.int .i64 2] w _ := c1
  replace c3 : ∀ w, Calls Tryz.prog 71 #[.int .i64 11] w (Ret (.int .i64 2048) w) := c3
  go_enter Tryz.func21, Tryz.ntmps21
  go_upto_region 2 with (go_at_call 68; refine (c1 _).mono ?_; rintro e w1 ⟨rfl, hb1⟩)
  refine hide_res hb1 (fun W kf hs ho HE => ?_)
  clear hb1 c1
  generalize w1.heap.size = g at *
  go_upto_region 4 with (fail)
  go_region
  go_upto_region 5 with (fail)
  go_region
  go_upto_region 6 with (fail)
  have h1 : IntKind.u64.wrap ((a : Int) / 4503599627370496) = ((a / 4503599627370496 : Nat) : Int) := by
   have : a < 18446744073709551616 := by have : (a : Int) < 18446744073709551616 := ha; omega
   exact kuwrap (n := a / 4503599627370496) (by omega)
  have h2 : wrap64 (((a / 4503599627370496 : Nat) : Int).tmod 2048) = ((a / 4503599627370496 % 2048 : Nat) : Int) := N.wr_nat (n := a / 4503599627370496 % 2048) (by omega)
  have h3 : (a : Int) % 4503599627370496 = ((a % 4503599627370496 : Nat) : Int) := rfl
  have h4 : (((a / 4503599627370496 : Nat) : Int) / 2048 == 1) = decide (a / 4503599627370496 / 2048 = 1) := by
   rw [Bool.eq_iff_iff]; simp; omega
  have hf : a / 4503599627370496 % 2048 < 2048 := Nat.mod_lt _ (by decide)
  have hr : a % 4503599627370496 < 4503599627370496 := Nat.mod_lt _ (by decide)
  rw [h1, h2, h3, h4]
  clear h1 h2 h3 h4 ha
  replace hR : partsOf false (a / 4503599627370496 % 2048) (a % 4503599627370496) (decide (a / 4503599627370496 / 2048 = 1)) = R := hR
  generalize a / 4503599627370496 % 2048 = f at *
  generalize a % 4503599627370496 = r at *
  generalize decide (a / 4503599627370496 / 2048 = 1) = neg at *
  have hL := parts_leaf hR
  clear hR
  simp only [fieldN, lowN, leastN] at hL
  have HE2 : Ext w W W.drew.drew := HE.drew.drew
  have kf2 : ∀ i, W.drew.drew.cell? ⟨g, i, none⟩ = _ := kf
  generalize W.drew.drew = W2 at *
  rcases hL with ⟨hf1, rfl, rfl⟩ | ⟨hf1, hr1, rfl⟩ | ⟨hf1, rfl, rfl, rfl⟩ | ⟨hf1, rfl, hr1, rfl⟩ | ⟨hf1, hf2, rfl⟩
  ·obtain rfl : f = 2047 := by omega
   go_wp2_with (go_at_call 71; refine (c3 _).mono ?_; rintro e w1 ⟨rfl, hb1⟩; have HE1 := Ext.next (w0 := w) (W := W) hb1)
   obtain ⟨w', hw', e0, e1, e2, e3, hb⟩ := fin4 ho HE1 _ _ _ _
   rw [← hw']
   exact bodyPost_ret (v := PP.v ⟨2, neg, 0, 0⟩) (by simp [results, Tryz.results21, go_sem, e0, e1, e2, e3, PP.v]) rfl ⟨rfl, hb⟩
  ·obtain rfl : f = 2047 := by omega
   have hr2 : ((r : Int) != 0) = true := by simp [hr1]
   have hr3 : (r : Int) ≠ 0 := by omega
   go_wp2_with (go_at_call 71; refine (c3 _).mono ?_; rintro e w1 ⟨rfl, hb1⟩; have HE1 := Ext.next (w0 := w) (W := W) hb1)
   obtain ⟨w', hw', e0, e1, e2, e3, hb⟩ := fin4 ho HE1 _ _ _ _
   rw [← hw']
   exact bodyPost_ret (v := PP.v ⟨3, false, 0, 0⟩) (by simp [results, Tryz.results21, go_sem, e0, e1, e2, e3, PP.v]) rfl ⟨rfl, hb⟩
  ·go_wp2_with (go_at_call 71; refine (c3 _).mono ?_; rintro e w1 ⟨rfl, hb1⟩; have HE1 := Ext.next (w0 := w) (W := W) hb1)
   obtain ⟨w', hw', e0, e1, e2, e3, hb⟩ := fin4 ho HE1 _ _ _ _
   rw [← hw']
   exact bodyPost_ret (v := PP.v ⟨0, neg, 0, 0⟩) (by simp [results, Tryz.results21, go_sem, e0, e1, e2, e3, PP.v]) rfl ⟨rfl, hb⟩
  ·have hr2 : ((r : Int) == 0) = false := by simp [hr1]
   have hr3 : (r : Int) ≠ 0 := by omega
   go_wp2_with (go_at_call 71; refine (c3 _).mono ?_; rintro e w1 ⟨rfl, hb1⟩; have HE1 := Ext.next (w0 := w) (W := W) hb1)
   obtain ⟨w', hw', e0, e1, e2, e3, hb⟩ := fin4 ho HE1 _ _ _ _
   rw [← hw']
   exact bodyPost_ret (v := PP.v ⟨1, neg, r, -1074⟩) (by simp [results, Tryz.results21, go_sem, e0, e1, e2, e3, PP.v]) rfl ⟨rfl, hb⟩
  ·have hf3 : (f : Int) ≠ 2047 := by omega
   have hf4 : (f : Int) ≠ 0 := by omega
   have b1 : wrap64 ((r : Int) + 4503599627370496) = ((r + 4503599627370496 : Nat) : Int) := N.wr (by omega) (by omega)
   have b2 : wrap64 ((f : Int) - 1) = (f : Int) - 1 := N.wr (by omega) (by omega)
   have b3 : wrap64 ((f : Int) - 1 + (-1074)) = (f : Int) - 1 + (-1074) := N.wr (by omega) (by omega)
   go_wp2_with (go_at_call 71; refine (c3 _).mono ?_; rintro e w1 ⟨rfl, hb1⟩; have HE1 := Ext.next (w0 := w) (W := W) hb1)
   obtain ⟨w', hw', e0, e1, e2, e3, hb⟩ := fin4 ho HE1 _ _ _ _
   rw [← hw']
   exact bodyPost_ret (v := PP.v ⟨1, neg, r + 4503599627370496, (f : Int) - 1 + (-1074)⟩) (by simp [results, Tryz.results21, go_sem, e0, e1, e2, e3, PP.v]) rfl ⟨rfl, hb⟩
 ·unfold fmtV at c1
  show Calls Tryz.prog 21 #[.int .i64 1, .int .u64 (a : Int)] w _
  replace c1 : ∀ w, Calls Tryz.prog 68 #[.int .i64 1] w _ := c1
  replace c2 : ∀ w, Calls Tryz.prog 71 #[.int .i64 8] w (Ret (.int .i64 256) w) := c2
  go_enter Tryz.func21, Tryz.ntmps21
  go_upto_region 2 with (go_at_call 68; refine (c1 _).mono ?_; rintro e w1 ⟨rfl, hb1⟩)
  refine hide_res hb1 (fun W kf hs ho HE => ?_)
  clear hb1 c1
  generalize w1.heap.size = g at *
  go_upto_region 4 with (fail)
  go_region
  go_upto_region 5 with (fail)
  go_region
  go_upto_region 6 with (fail)
  have h1 : IntKind.u64.wrap ((a : Int) / 8388608) = ((a / 8388608 : Nat) : Int) := by
   have : a < 18446744073709551616 := by have : (a : Int) < 4294967296 := ha; omega
   exact kuwrap (n := a / 8388608) (by omega)
  have h2 : wrap64 (((a / 8388608 : Nat) : Int).tmod 256) = ((a / 8388608 % 256 : Nat) : Int) := N.wr_nat (n := a / 8388608 % 256) (by omega)
  have h3 : (a : Int) % 8388608 = ((a % 8388608 : Nat) : Int) := rfl
  have h4 : (((a / 8388608 : Nat) : Int) / 256 == 1) = decide (a / 8388608 / 256 = 1) := by
   rw [Bool.eq_iff_iff]; simp; omega
  have hf : a / 8388608 % 256 < 256 := Nat.mod_lt _ (by decide)
  have hr : a % 8388608 < 8388608 := Nat.mod_lt _ (by decide)
  rw [h1, h2, h3, h4]
  clear h1 h2 h3 h4 ha
  replace hR : partsOf true (a / 8388608 % 256) (a % 8388608) (decide (a / 8388608 / 256 = 1)) = R := hR
  generalize a / 8388608 % 256 = f at *
  generalize a % 8388608 = r at *
  generalize decide (a / 8388608 / 256 = 1) = neg at *
  have hL := parts_leaf hR
  clear hR
  simp only [fieldN, lowN, leastN] at hL
  have HE2 : Ext w W W.drew.drew := HE.drew.drew
  have kf2 : ∀ i, W.drew.drew.cell? ⟨g, i, none⟩ = _ := kf
  generalize W.drew.drew = W2 at *
  rcases hL with ⟨hf1, rfl, rfl⟩ | ⟨hf1, hr1, rfl⟩ | ⟨hf1, rfl, rfl, rfl⟩ | ⟨hf1, rfl, hr1, rfl⟩ | ⟨hf1, hf2, rfl⟩
  ·obtain rfl : f = 255 := by omega
   go_wp2_with (go_at_call 71; refine (c2 _).mono ?_; rintro e w1 ⟨rfl, hb1⟩; have HE1 := Ext.next (w0 := w) (W := W) hb1)
   obtain ⟨w', hw', e0, e1, e2, e3, hb⟩ := fin4 ho HE1 _ _ _ _
   rw [← hw']
   exact bodyPost_ret (v := PP.v ⟨2, neg, 0, 0⟩) (by simp [results, Tryz.results21, go_sem, e0, e1, e2, e3, PP.v]) rfl ⟨rfl, hb⟩
  ·obtain rfl : f = 255 := by omega
   have hr2 : ((r : Int) != 0) = true := by simp [hr1]
   have hr3 : (r : Int) ≠ 0 := by omega
   go_wp2_with (go_at_call 71; refine (c2 _).mono ?_; rintro e w1 ⟨rfl, hb1⟩; have HE1 := Ext.next (w0 := w) (W := W) hb1)
   obtain ⟨w', hw', e0, e1, e2, e3, hb⟩ := fin4 ho HE1 _ _ _ _
   rw [← hw']
   exact bodyPost_ret (v := PP.v ⟨3, false, 0, 0⟩) (by simp [results, Tryz.results21, go_sem, e0, e1, e2, e3, PP.v]) rfl ⟨rfl, hb⟩
  ·go_wp2_with (go_at_call 71; refine (c2 _).mono ?_; rintro e w1 ⟨rfl, hb1⟩; have HE1 := Ext.next (w0 := w) (W := W) hb1)
   obtain ⟨w', hw', e0, e1, e2, e3, hb⟩ := fin4 ho HE1 _ _ _ _
   rw [← hw']
   exact bodyPost_ret (v := PP.v ⟨0, neg, 0, 0⟩) (by simp [results, Tryz.results21, go_sem, e0, e1, e2, e3, PP.v]) rfl ⟨rfl, hb⟩
  ·have hr2 : ((r : Int) == 0) = false := by simp [hr1]
   have hr3 : (r : Int) ≠ 0 := by omega
   go_wp2_with (go_at_call 71; refine (c2 _).mono ?_; rintro e w1 ⟨rfl, hb1⟩; have HE1 := Ext.next (w0 := w) (W := W) hb1)
   obtain ⟨w', hw', e0, e1, e2, e3, hb⟩ := fin4 ho HE1 _ _ _ _
   rw [← hw']
   exact bodyPost_ret (v := PP.v ⟨1, neg, r, -149⟩) (by simp [results, Tryz.results21, go_sem, e0, e1, e2, e3, PP.v]) rfl ⟨rfl, hb⟩
  ·have hf3 : (f : Int) ≠ 255 := by omega
   have hf4 : (f : Int) ≠ 0 := by omega
   have b1 : wrap64 ((r : Int) + 8388608) = ((r + 8388608 : Nat) : Int) := N.wr (by omega) (by omega)
   have b2 : wrap64 ((f : Int) - 1) = (f : Int) - 1 := N.wr (by omega) (by omega)
   have b3 : wrap64 ((f : Int) - 1 + (-149)) = (f : Int) - 1 + (-149) := N.wr (by omega) (by omega)
   go_wp2_with (go_at_call 71; refine (c2 _).mono ?_; rintro e w1 ⟨rfl, hb1⟩; have HE1 := Ext.next (w0 := w) (W := W) hb1)
   obtain ⟨w', hw', e0, e1, e2, e3, hb⟩ := fin4 ho HE1 _ _ _ _
   rw [← hw']
   exact bodyPost_ret (v := PP.v ⟨1, neg, r + 8388608, (f : Int) - 1 + (-149)⟩) (by simp [results, Tryz.results21, go_sem, e0, e1, e2, e3, PP.v]) rfl ⟨rfl, hb⟩
end Go.Proofs.YtmoimcblmmcffaaGreat.NC

namespace Go.Proofs.YtmoimcblmmcffaaGreat.NC
open Go.RowKit Go.Proofs.YtmoimcblmmcffaaGreat.B
set_option linter.unusedSimpArgs false
set_option linter.unusedVariables false
theorem hide_arg {P : Program} {c : Code} {Q : Exit → Act → World → Prop} {a : Act} {w w1 : World} {cs cs' : Array Value} {t t' : TypeId}
  (hb : Below (w.alloc (.cells cs t (0, 0))).heap.size (w.alloc (.cells cs t (0, 0))) w1)
  (h : ∀ W, (∀ i, W.cell? ⟨w.heap.size, i, none⟩ = cs[i]?) → (∀ i, W.cell? ⟨w1.heap.size, i, none⟩ = cs'[i]?) → w.heap.size < W.heap.size → w1.heap.size < W.heap.size → Ext w W W → c.wp P Q a W) :
  c.wp P Q a (w1.alloc (.cells cs' t' (0, 0))) := by
 have e1 : (w.alloc (.cells cs t (0, 0))).heap.size = w.heap.size + 1 := by simp
 have e2 : w.heap.size + 1 ≤ w1.heap.size := by have := hb.size; rw [e1] at this; exact this
 refine h _ (fun i => ?_) (fun i => ?_) (by simp; omega) (by simp) ?_
 ·have h1 := (bcell hb).1 w.heap.size i (by rw [e1]; omega)
  have h2 := cell_of_row (w.alloc (.cells cs t (0, 0))) _ i cs t (0, 0) (heap_alloc_new w _)
  rw [h2] at h1
  rw [← h1]
  exact (bcell (Below.refl w1.heap.size w1 |> fun hb => below_alloc0 hb _)).1 w.heap.size i (by omega)
 ·rw [cell_of_row _ _ i cs' t' (0, 0) (heap_alloc_new w1 _)]
 ·refine Ext.refl ?_
  exact below_alloc0 ((below_alloc0 (Below.refl _ _) _).trans (hb.mono (by rw [e1]; omega))) _
def mostN : Bool → Int
 | true => 104
 | false => 971
def signN : Bool → Nat
 | true => 2147483648
 | false => 9223372036854775808
def nanN : Bool → Nat
 | true => 2143289344
 | false => 9221120237041090560
def PP.ok (s : Bool) (p : PP) : Prop := p.kind = 0 ∨ p.kind = 2 ∨ p.kind = 3 ∨ p.kind = 1 ∧ p.sig < 2 * lowN s ∧ (lowN s ≤ p.sig → leastN s ≤ p.exp ∧ p.exp ≤ mostN s)
def bitsR (s : Bool) (p : PP) : Nat :=
 if p.kind = 3 then nanN s else (if p.neg then signN s else 0) + (if p.kind = 0 then 0 else if p.kind = 2 then lowN s * (fieldN s - 1) else if p.sig < lowN s then p.sig else lowN s * (p.exp - leastN s + 1).toNat + p.sig - lowN s)
theorem ret_eq {x y : Int} (h : x = y) : Ending.returned (.int .u64 x) = .returned (.int .u64 y) := by rw [h]
def sgnN (s neg : Bool) : Nat := if neg then signN s else 0
theorem bits_leaf {s : Bool} {p : PP} (hp : p.ok s) : (p.kind = 0 ∧ bitsR s p = sgnN s p.neg) ∨ (p.kind = 2 ∧ bitsR s p = sgnN s p.neg + lowN s * (fieldN s - 1)) ∨ (p.kind = 3 ∧ bitsR s p = nanN s) ∨ (p.kind = 1 ∧ p.sig < lowN s ∧ bitsR s p = sgnN s p.neg + p.sig) ∨
  (p.kind = 1 ∧ lowN s ≤ p.sig ∧ p.sig < 2 * lowN s ∧ ∃ q : Nat, p.exp = (q : Int) + leastN s ∧ (q : Int) ≤ mostN s - leastN s ∧ bitsR s p = sgnN s p.neg + (lowN s * (q + 1) + p.sig - lowN s)) := by
 unfold bitsR sgnN
 rcases hp with h | h | h | ⟨h, h1, h2⟩
 ·left; simp [h]
 ·right; left; simp [h]
 ·right; right; left; simp [h]
 ·right; right; right
  by_cases hlt : p.sig < lowN s
  ·left; simp [h, hlt]
  ·right
   obtain ⟨h3, h4⟩ := h2 (by omega)
   refine ⟨h, by omega, h1, (p.exp - leastN s).toNat, by omega, by omega, ?_⟩
   simp only [h, hlt, if_false]
   rw [show (p.exp - leastN s + 1).toNat = (p.exp - leastN s).toNat + 1 from by omega]
   simp
set_option maxHeartbeats 8000000 in
theorem bits_c (s : Bool) (p : PP) (w : World) (hp : p.ok s) : Calls Tryz.prog 69 #[.int .i64 (tv s), p.v] w (Ret (.int .u64 (bitsR s p : Int)) w) := by
 have c1 := formatOf_c s
 have c2 := nanR_c s
 have hL := bits_leaf hp
 clear hp
 obtain ⟨R, hR⟩ : ∃ R : Nat, bitsR s p = R := ⟨_, rfl⟩
 rw [hR]
 rw [hR] at hL
 clear hR
 obtain ⟨kind, neg, sig, exp⟩ := p
 unfold PP.v
 simp only at hL ⊢
 cases s
 ·unfold fmtV at c1
  replace c1 : ∀ w, Calls Tryz.prog 68 #[.int .i64 2] w _ := c1
  replace c2 : ∀ w, Calls Tryz.prog 67 #[.int .i64 2] w (Ret (.int .u64 9221120237041090560) w) := c2
  simp only [lowN, fieldN, leastN, mostN, signN, nanN, sgnN] at hL
  show Calls Tryz.prog 69 #[.int .i64 2, _] w _
  go_enter Tryz.func69, Tryz.ntmps69
  go_upto_region 2 with (go_at_call 68; refine (c1 _).mono ?_; rintro e w1 ⟨rfl, hb1⟩)
  refine hide_arg hb1 (fun W kp kf hs0 hs HE => ?_)
  clear hb1 c1
  generalize w1.heap.size = g at *
  rcases hL with ⟨rfl, hR⟩ | ⟨rfl, hR⟩ | ⟨rfl, hR⟩ | ⟨rfl, h1, hR⟩ | ⟨rfl, h1, h2, q, rfl, h3, hR⟩
  ·cases neg
   ·replace hR : R = 0 := by first | exact hR | (rw [hR]; rfl)
    go_wp2_with (go_at_call 67; refine (c2 _).mono ?_; rintro e w1 ⟨rfl, hb1⟩; have HE1 := Ext.next (w0 := w) (W := W) hb1)
    go_ret
    refine ⟨?_, Ext.end⟩
    clear kp kf hs0 hs
    refine ret_eq ?_
    subst hR; rfl
   ·replace hR : R = 9223372036854775808 := by first | exact hR | (rw [hR]; rfl)
    go_wp2_with (go_at_call 67; refine (c2 _).mono ?_; rintro e w1 ⟨rfl, hb1⟩; have HE1 := Ext.next (w0 := w) (W := W) hb1)
    go_ret
    refine ⟨?_, Ext.end⟩
    clear kp kf hs0 hs
    refine ret_eq ?_
    subst hR; rfl
  ·cases neg
   ·replace hR : R = 9218868437227405312 := by first | exact hR | (rw [hR]; rfl)
    go_wp2_with (go_at_call 67; refine (c2 _).mono ?_; rintro e w1 ⟨rfl, hb1⟩; have HE1 := Ext.next (w0 := w) (W := W) hb1)
    go_ret
    refine ⟨?_, Ext.end⟩
    clear kp kf hs0 hs
    refine ret_eq ?_
    subst hR; rfl
   ·replace hR : R = 18442240474082181120 := by first | exact hR | (rw [hR]; rfl)
    go_wp2_with (go_at_call 67; refine (c2 _).mono ?_; rintro e w1 ⟨rfl, hb1⟩; have HE1 := Ext.next (w0 := w) (W := W) hb1)
    go_ret
    refine ⟨?_, Ext.end⟩
    clear kp kf hs0 hs
    refine ret_eq ?_
    subst hR; rfl
  ·cases neg
   ·replace hR : R = 9221120237041090560 := by first | exact hR | (rw [hR]; rfl)
    go_wp2_with (go_at_call 67; refine (c2 _).mono ?_; rintro e w1 ⟨rfl, hb1⟩; have HE1 := Ext.next (w0 := w) (W := W) hb1)
    go_ret
    refine ⟨?_, Ext.end⟩
    clear kp kf hs0 hs
    refine ret_eq ?_
    subst hR; rfl
   ·replace hR : R = 9221120237041090560 := by first | exact hR | (rw [hR]; rfl)
    go_wp2_with (go_at_call 67; refine (c2 _).mono ?_; rintro e w1 ⟨rfl, hb1⟩; have HE1 := Ext.next (w0 := w) (W := W) hb1)
    go_ret
    refine ⟨?_, Ext.end⟩
    clear kp kf hs0 hs
    refine ret_eq ?_
    subst hR; rfl
  ·cases neg
   ·replace hR : R = 0 + sig := by first | exact hR | (rw [hR]; rfl)
    have f1 : IntKind.u64.wrap (sig : Int) = (sig : Int) := kuwrap (by omega)
    have f2 : (sig : Int) < 4503599627370496 := by omega
    go_wp2_with (go_at_call 67; refine (c2 _).mono ?_; rintro e w1 ⟨rfl, hb1⟩; have HE1 := Ext.next (w0 := w) (W := W) hb1)
    go_ret
    refine ⟨?_, Ext.end⟩
    clear kp kf hs0 hs
    refine ret_eq ?_
    (try rw [hR]); (try rw [f1]); (try rw [f3]); first | rfl | omega | (trace_state; omega)
   ·replace hR : R = 9223372036854775808 + sig := by first | exact hR | (rw [hR]; rfl)
    have f1 : IntKind.u64.wrap (sig : Int) = (sig : Int) := kuwrap (by omega)
    have f2 : (sig : Int) < 4503599627370496 := by omega
    have f3 : IntKind.u64.wrap (9223372036854775808 + (sig : Int)) = ((9223372036854775808 + sig : Nat) : Int) := kuwrap (n := 9223372036854775808 + sig) (by omega)
    go_wp2_with (go_at_call 67; refine (c2 _).mono ?_; rintro e w1 ⟨rfl, hb1⟩; have HE1 := Ext.next (w0 := w) (W := W) hb1)
    go_ret
    refine ⟨?_, Ext.end⟩
    clear kp kf hs0 hs
    refine ret_eq ?_
    (try rw [hR]); (try rw [f1]); (try rw [f3]); first | rfl | omega | (trace_state; omega)
  ·cases neg
   ·replace hR : R = 0 + (4503599627370496 * (q + 1) + sig - 4503599627370496) := by first | exact hR | (rw [hR]; rfl)
    have f1 : IntKind.u64.wrap (sig : Int) = (sig : Int) := kuwrap (by omega)
    have f2 : ¬ (sig : Int) < 4503599627370496 := by omega
    have f4 : (q : Int) + (-1074) - (-1074) = (q : Int) := by omega
    go_wp2_with (go_at_call 67; refine (c2 _).mono ?_; rintro e w1 ⟨rfl, hb1⟩; have HE1 := Ext.next (w0 := w) (W := W) hb1)
    go_ret
    refine ⟨?_, Ext.end⟩
    clear kp kf hs0 hs
    refine ret_eq ?_
    (try rw [hR]); (try rw [f1]); (try rw [f3]); first | rfl | omega | (trace_state; omega)
   ·replace hR : R = 9223372036854775808 + (4503599627370496 * (q + 1) + sig - 4503599627370496) := by first | exact hR | (rw [hR]; rfl)
    have f1 : IntKind.u64.wrap (sig : Int) = (sig : Int) := kuwrap (by omega)
    have f2 : ¬ (sig : Int) < 4503599627370496 := by omega
    have f4 : (q : Int) + (-1074) - (-1074) = (q : Int) := by omega
    go_wp2_with (go_at_call 67; refine (c2 _).mono ?_; rintro e w1 ⟨rfl, hb1⟩; have HE1 := Ext.next (w0 := w) (W := W) hb1)
    go_ret
    refine ⟨?_, Ext.end⟩
    clear kp kf hs0 hs
    refine ret_eq ?_
    (try rw [hR]); (try rw [f1]); (try rw [f3]); first | rfl | omega | (trace_state; omega)
 ·unfold fmtV at c1
  replace c1 : ∀ w, Calls Tryz.prog 68 #[.int .i64 1] w _ := c1
  replace c2 : ∀ w, Calls Tryz.prog 67 #[.int .i64 1] w (Ret (.int .u64 2143289344) w) := c2
  simp only [lowN, fieldN, leastN, mostN, signN, nanN, sgnN] at hL
  show Calls Tryz.prog 69 #[.int .i64 1, _] w _
  go_enter Tryz.func69, Tryz.ntmps69
  go_upto_region 2 with (go_at_call 68; refine (c1 _).mono ?_; rintro e w1 ⟨rfl, hb1⟩)
  refine hide_arg hb1 (fun W kp kf hs0 hs HE => ?_)
  clear hb1 c1
  generalize w1.heap.size = g at *
  rcases hL with ⟨rfl, hR⟩ | ⟨rfl, hR⟩ | ⟨rfl, hR⟩ | ⟨rfl, h1, hR⟩ | ⟨rfl, h1, h2, q, rfl, h3, hR⟩
  ·cases neg
   ·replace hR : R = 0 := by first | exact hR | (rw [hR]; rfl)
    go_wp2_with (go_at_call 67; refine (c2 _).mono ?_; rintro e w1 ⟨rfl, hb1⟩; have HE1 := Ext.next (w0 := w) (W := W) hb1)
    go_ret
    refine ⟨?_, Ext.end⟩
    clear kp kf hs0 hs
    refine ret_eq ?_
    subst hR; rfl
   ·replace hR : R = 2147483648 := by first | exact hR | (rw [hR]; rfl)
    go_wp2_with (go_at_call 67; refine (c2 _).mono ?_; rintro e w1 ⟨rfl, hb1⟩; have HE1 := Ext.next (w0 := w) (W := W) hb1)
    go_ret
    refine ⟨?_, Ext.end⟩
    clear kp kf hs0 hs
    refine ret_eq ?_
    subst hR; rfl
  ·cases neg
   ·replace hR : R = 2139095040 := by first | exact hR | (rw [hR]; rfl)
    go_wp2_with (go_at_call 67; refine (c2 _).mono ?_; rintro e w1 ⟨rfl, hb1⟩; have HE1 := Ext.next (w0 := w) (W := W) hb1)
    go_ret
    refine ⟨?_, Ext.end⟩
    clear kp kf hs0 hs
    refine ret_eq ?_
    subst hR; rfl
   ·replace hR : R = 4286578688 := by first | exact hR | (rw [hR]; rfl)
    go_wp2_with (go_at_call 67; refine (c2 _).mono ?_; rintro e w1 ⟨rfl, hb1⟩; have HE1 := Ext.next (w0 := w) (W := W) hb1)
    go_ret
    refine ⟨?_, Ext.end⟩
    clear kp kf hs0 hs
    refine ret_eq ?_
    subst hR; rfl
  ·cases neg
   ·replace hR : R = 2143289344 := by first | exact hR | (rw [hR]; rfl)
    go_wp2_with (go_at_call 67; refine (c2 _).mono ?_; rintro e w1 ⟨rfl, hb1⟩; have HE1 := Ext.next (w0 := w) (W := W) hb1)
    go_ret
    refine ⟨?_, Ext.end⟩
    clear kp kf hs0 hs
    refine ret_eq ?_
    subst hR; rfl
   ·replace hR : R = 2143289344 := by first | exact hR | (rw [hR]; rfl)
    go_wp2_with (go_at_call 67; refine (c2 _).mono ?_; rintro e w1 ⟨rfl, hb1⟩; have HE1 := Ext.next (w0 := w) (W := W) hb1)
    go_ret
    refine ⟨?_, Ext.end⟩
    clear kp kf hs0 hs
    refine ret_eq ?_
    subst hR; rfl
  ·cases neg
   ·replace hR : R = 0 + sig := by first | exact hR | (rw [hR]; rfl)
    have f1 : IntKind.u64.wrap (sig : Int) = (sig : Int) := kuwrap (by omega)
    have f2 : (sig : Int) < 8388608 := by omega
    go_wp2_with (go_at_call 67; refine (c2 _).mono ?_; rintro e w1 ⟨rfl, hb1⟩; have HE1 := Ext.next (w0 := w) (W := W) hb1)
    go_ret
    refine ⟨?_, Ext.end⟩
    clear kp kf hs0 hs
    refine ret_eq ?_
    (try rw [hR]); (try rw [f1]); (try rw [f3]); first | rfl | omega | (trace_state; omega)
   ·replace hR : R = 2147483648 + sig := by first | exact hR | (rw [hR]; rfl)
    have f1 : IntKind.u64.wrap (sig : Int) = (sig : Int) := kuwrap (by omega)
    have f2 : (sig : Int) < 8388608 := by omega
    have f3 : IntKind.u64.wrap (2147483648 + (sig : Int)) = ((2147483648 + sig : Nat) : Int) := kuwrap (n := 2147483648 + sig) (by omega)
    go_wp2_with (go_at_call 67; refine (c2 _).mono ?_; rintro e w1 ⟨rfl, hb1⟩; have HE1 := Ext.next (w0 := w) (W := W) hb1)
    go_ret
    refine ⟨?_, Ext.end⟩
    clear kp kf hs0 hs
    refine ret_eq ?_
    (try rw [hR]); (try rw [f1]); (try rw [f3]); first | rfl | omega | (trace_state; omega)
  ·cases neg
   ·replace hR : R = 0 + (8388608 * (q + 1) + sig - 8388608) := by first | exact hR | (rw [hR]; rfl)
    have f1 : IntKind.u64.wrap (sig : Int) = (sig : Int) := kuwrap (by omega)
    have f2 : ¬ (sig : Int) < 8388608 := by omega
    have f4 : (q : Int) + (-149) - (-149) = (q : Int) := by omega
    go_wp2_with (go_at_call 67; refine (c2 _).mono ?_; rintro e w1 ⟨rfl, hb1⟩; have HE1 := Ext.next (w0 := w) (W := W) hb1)
    go_ret
    refine ⟨?_, Ext.end⟩
    clear kp kf hs0 hs
    refine ret_eq ?_
    (try rw [hR]); (try rw [f1]); (try rw [f3]); first | rfl | omega | (trace_state; omega)
   ·replace hR : R = 2147483648 + (8388608 * (q + 1) + sig - 8388608) := by first | exact hR | (rw [hR]; rfl)
    have f1 : IntKind.u64.wrap (sig : Int) = (sig : Int) := kuwrap (by omega)
    have f2 : ¬ (sig : Int) < 8388608 := by omega
    have f4 : (q : Int) + (-149) - (-149) = (q : Int) := by omega
    go_wp2_with (go_at_call 67; refine (c2 _).mono ?_; rintro e w1 ⟨rfl, hb1⟩; have HE1 := Ext.next (w0 := w) (W := W) hb1)
    go_ret
    refine ⟨?_, Ext.end⟩
    clear kp kf hs0 hs
    refine ret_eq ?_
    (try rw [hR]); (try rw [f1]); (try rw [f3]); first | rfl | omega | (trace_state; omega)
end Go.Proofs.YtmoimcblmmcffaaGreat.NC

namespace Go.Proofs.YtmoimcblmmcffaaGreat.NC
open Go.RowKit Go.Proofs.YtmoimcblmmcffaaGreat.B Go.Proofs.YtmoimcblmmcffaaGreat.N
set_option linter.unusedSimpArgs false
set_option linter.unusedVariables false
def precN : Bool → Nat
 | true => 24
 | false => 53
def moreOf (m : Nat) (more : Bool) : Nat := m * 8 + more.toNat
def placeOf (s : Bool) (m : Nat) (e : Int) : Int := max ((N.bits m : Int) - precN s + e) (leastN s)
def keptOf (m : Nat) (e tp : Int) : Nat := if tp ≤ e then m * 2 ^ (e - tp).toNat else Fl.rnd m (tp - e).toNat
def overOf (s : Bool) (m : Nat) (e : Int) : Nat × Int := if precN s < N.bits m then (m / 2, e + 1) else (m, e)
def packOf (s neg : Bool) (m : Nat) (e : Int) : PP := if m = 0 then ⟨0, neg, 0, 0⟩ else if e > mostN s then ⟨2, neg, 0, 0⟩ else ⟨1, neg, m, e⟩
def roundR (s neg : Bool) (m : Nat) (e : Int) (more : Bool) : Nat :=
 if m = 0 then bitsR s ⟨0, neg, 0, 0⟩ else
  let m1 := moreOf m more
  let tp := placeOf s m1 (e - 3)
  let k := overOf s (keptOf m1 (e - 3) tp) tp
  bitsR s (packOf s neg k.1 k.2)
theorem len_mono {a b : Nat} (h : a ≤ b) : (digs a).length ≤ (digs b).length := by
 by_cases h2 : (digs a).length ≤ (digs b).length
 ·exact h2
 ·have := digs_len_lt (a := b) (b := a) (by omega); omega
theorem rnd_ord (n D : Nat) (hD : 1 ≤ D) : (ordN (n - n / 2 ^ D * 2 ^ D) (2 ^ (D - 1)) = -1 ∧ Fl.rnd n D = n / 2 ^ D) ∨ (ordN (n - n / 2 ^ D * 2 ^ D) (2 ^ (D - 1)) = 1 ∧ Fl.rnd n D = n / 2 ^ D + 1) ∨ (ordN (n - n / 2 ^ D * 2 ^ D) (2 ^ (D - 1)) = 0 ∧ Fl.rnd n D = if n / 2 ^ D % 2 = 1 then n / 2 ^ D + 1 else n / 2 ^ D) := by
 have e1 : n - n / 2 ^ D * 2 ^ D = n % 2 ^ D := by
  have := Nat.div_add_mod n (2 ^ D)
  rw [Nat.mul_comm] at this
  omega
 have e2 : 2 ^ D = 2 * 2 ^ (D - 1) := by
  obtain ⟨k, rfl⟩ : ∃ k, D = k + 1 := ⟨D - 1, by omega⟩
  rw [Nat.pow_succ, Nat.add_sub_cancel]; omega
 rw [e1]
 unfold Fl.rnd ordN
 generalize n / 2 ^ D = q
 generalize n % 2 ^ D = r
 rw [e2]
 generalize 2 ^ (D - 1) = h
 by_cases h1 : r < h
 ·left
  rw [if_pos h1, decide_eq_false (by omega : ¬ 2 * h < 2 * r), show (2 * h == 2 * r) = false from by simp; omega]
  simp
 ·by_cases h2 : r = h
  ·right; right
   subst h2
   rw [if_neg h1, if_pos rfl, decide_eq_false (by omega : ¬ 2 * r < 2 * r)]
   by_cases h3 : q % 2 = 1 <;> simp [h3]
  ·right; left
   rw [if_neg h1, if_neg h2, decide_eq_true (by omega : 2 * h < 2 * r)]
   simp
theorem kept_bound (s : Bool) (m : Nat) (e : Int) : keptOf m e (placeOf s m e) ≤ 2 ^ precN s := by
 have hm := log_lt m
 unfold keptOf
 by_cases hle : placeOf s m e ≤ e
 ·rw [if_pos hle]
  have hb : (N.bits m : Int) - precN s + e ≤ placeOf s m e := by unfold placeOf; omega
  obtain ⟨d, hd⟩ : ∃ d : Nat, e - placeOf s m e = d := ⟨(e - placeOf s m e).toNat, by omega⟩
  rw [hd, Int.toNat_natCast]
  have h1 : m * 2 ^ d ≤ 2 ^ N.bits m * 2 ^ d := Nat.mul_le_mul_right _ (by omega)
  rw [← Nat.pow_add] at h1
  exact Nat.le_trans h1 (Nat.pow_le_pow_right (by decide) (by omega))
 ·rw [if_neg hle]
  have hb : (N.bits m : Int) - precN s + e ≤ placeOf s m e := by unfold placeOf; omega
  obtain ⟨d, hd⟩ : ∃ d : Nat, placeOf s m e - e = d := ⟨(placeOf s m e - e).toNat, by omega⟩
  rw [hd, Int.toNat_natCast]
  have h1 : Fl.rnd m d ≤ m / 2 ^ d + 1 := by
   unfold Fl.rnd
   have : ∀ b : Bool, b.toNat ≤ 1 := by decide
   have := this (2 ^ d < 2 * (m % 2 ^ d) || (2 ^ d == 2 * (m % 2 ^ d) && m / 2 ^ d % 2 == 1))
   omega
  have h2 : m / 2 ^ d < 2 ^ precN s := by
   refine Nat.div_lt_of_lt_mul (Nat.lt_of_lt_of_le hm ?_)
   rw [← Nat.pow_add]
   exact Nat.pow_le_pow_right (by decide) (by omega)
  omega
theorem over_facts (s : Bool) (m : Nat) (e : Int) (hm : m ≤ 2 ^ precN s) : (overOf s m e).1 < 2 * lowN s ∧ (leastN s ≤ e → leastN s ≤ (overOf s m e).2) := by
 have h1 := log_lt m
 have hp : 2 ^ precN s = 2 * lowN s := by cases s <;> rfl
 unfold overOf
 by_cases h : precN s < N.bits m
 ·rw [if_pos h]
  have hl : 0 < lowN s := by cases s <;> decide
  exact ⟨by simp only; omega, fun _ => by simp only; omega⟩
 ·rw [if_neg h]
  refine ⟨?_, fun h => h⟩
  have : 2 ^ N.bits m ≤ 2 ^ precN s := Nat.pow_le_pow_right (by decide) (by omega)
  simp only
  omega
theorem par_facts (q : Nat) : Int.tmod ((q % 65536 : Nat) : Int) 2 = ((q % 2 : Nat) : Int) ∧ ((q % 65536 : Nat) : Int) % 2 = ((q % 2 : Nat) : Int) ∧ (q % 2 = 0 ∨ q % 2 = 1) := by
 refine ⟨?_, by omega, by omega⟩
 show ((q % 65536 % 2 : Nat) : Int) = _
 omega
theorem iwr {n : Int} (h0 : -9223372036854775808 ≤ n) (h1 : n ≤ 9223372036854775807) : IntKind.i64.wrap n = n := by
 unfold IntKind.wrap
 simp [IntKind.signed, IntKind.bits]
 omega
end Go.Proofs.YtmoimcblmmcffaaGreat.NC

namespace Go.Proofs.YtmoimcblmmcffaaGreat.NC
open Go.RowKit Go.Proofs.YtmoimcblmmcffaaGreat.B Go.Proofs.YtmoimcblmmcffaaGreat.N
set_option linter.unusedSimpArgs false
set_option linter.unusedVariables false
theorem hide_fmt {P : Program} {c : Code} {Q : Exit → Act → World → Prop} {a : Act} {w w1 : World} {cs' : Array Value} {t' : TypeId}
  (hb : Below w.heap.size w w1)
  (h : ∀ W, (∀ i, W.cell? ⟨w1.heap.size, i, none⟩ = cs'[i]?) → w1.heap.size < W.heap.size → Ext w W W → c.wp P Q a W) :
  c.wp P Q a (w1.alloc (.cells cs' t' (0, 0))) := by
 refine h _ (fun i => ?_) (by simp) ?_
 ·rw [cell_of_row _ _ i cs' t' (0, 0) (heap_alloc_new w1 _)]
 ·exact Ext.refl (below_alloc0 hb _)
set_option maxHeartbeats 8000000 in
theorem round_c0 (s neg : Bool) (e : Int) (more : Bool) (A : Option Addr) (c : Nat) (w : World) :
  Calls Tryz.prog 74 #[.int .i64 (tv s), .bool neg, .slice A 0 c, .int .i64 e, .bool more] w (Ret (.int .u64 (bitsR s ⟨0, neg, 0, 0⟩ : Int)) w) := by
 have c1 := formatOf_c s
 have hlay : fmtV s = .agg #[.int .i64 (precN s : Int), .int .i64 (if s then 8 else 11), .int .i64 (leastN s), .int .i64 (mostN s)] := by cases s <;> rfl
 rw [hlay] at c1
 clear hlay
 have c2 := fun w => bits_c s ⟨0, neg, 0, 0⟩ w (.inl rfl)
 unfold PP.v at c2
 generalize (if s then (8 : Int) else 11) = f8 at *
 generalize bitsR s ⟨0, neg, 0, 0⟩ = R at *
 generalize precN s = prec at *
 generalize leastN s = least at *
 generalize mostN s = most at *
 generalize tv s = t at *
 go_enter Tryz.func74, Tryz.ntmps74
 go_upto_region 2 with (go_at_call 68; refine (c1 _).mono ?_; rintro e w1 ⟨rfl, hb1⟩)
 refine hide_fmt hb1 (fun W kf hs HE => ?_)
 clear hb1 c1
 generalize w1.heap.size = g at *
 go_wp2_with (go_at_call 69; refine (c2 _).mono ?_; rintro e w1 ⟨rfl, hb1⟩; have HE1 := Ext.next (w0 := w) (W := W) hb1)
 go_ret
 exact ⟨rfl, Ext.end⟩
set_option maxRecDepth 100000 in
set_option maxHeartbeats 8000000 in
theorem round_c1 (s neg : Bool) (m : Nat) (e : Int) (more : Bool) (A : Option Addr) (c : Nat) (w : World) (hm : m ≠ 0) (hB : Big w A m) (hc : (digs m).length ≤ c) (hl : (digs m).length ≤ 1000) (h1 : -10000 ≤ e) (h2 : e ≤ 10000) :
  Calls Tryz.prog 74 #[.int .i64 (tv s), .bool neg, .slice A (digs m).length c, .int .i64 e, .bool more] w (Ret (.int .u64 (roundR s neg m e more : Int)) w) := by
 have c1 := formatOf_c s
 obtain ⟨R, hR⟩ : ∃ R : Nat, roundR s neg m e more = R := ⟨_, rfl⟩
 rw [hR]
 unfold roundR at hR
 rw [if_neg hm] at hR
 have hlay : fmtV s = .agg #[.int .i64 (precN s : Int), .int .i64 (if s then 8 else 11), .int .i64 (leastN s), .int .i64 (mostN s)] := by cases s <;> rfl
 rw [hlay] at c1
 clear hlay
 have hls : leastN s = -149 ∨ leastN s = -1074 := by cases s <;> simp [leastN]
 have hms : mostN s = 104 ∨ mostN s = 971 := by cases s <;> simp [mostN]
 have hps : precN s = 24 ∨ precN s = 53 := by cases s <;> simp [precN]
 have hml : (digs (m * 8)).length ≤ 1001 := by
  have h := val_lt (dig_digs m)
  rw [val_digs] at h
  have := digs_len (n := m * 8) (m := (digs m).length + 1) (by rw [Nat.pow_succ]; omega)
  omega
 have d3 : (digs m).length ≠ 0 := fun h => hm (digs_nil.1 h)
 have d1 : ((digs m).length : Int) ≠ 0 := by omega
 have d2 : wrap64 (e - 3) = e - 3 := wr (by omega) (by omega)
 have cl : ∀ w, Big w A m → Calls Tryz.prog 110 #[.slice A (digs m).length c, .int .i64 3] w (RetBig (m * 8) w) := fun w h => left_c (s := 3) w h hc (by omega) (by decide)
 have hmo1 : (digs (moreOf m more)).length ≤ 1002 := by
  have h := val_lt (dig_digs (m * 8))
  rw [val_digs] at h
  have := digs_len (n := moreOf m more) (m := (digs (m * 8)).length + 1) (by unfold moreOf; rw [Nat.pow_succ]; cases more <;> simp <;> omega)
  omega
 have hmb : N.bits (moreOf m more) ≤ 20000 := by have := bits_len (moreOf m more); omega
 have l1 : (digs 1).length ≤ Lim := by rw [digs_one]; decide
 have cp : ∀ (w : World) (A : Option Addr) (c : Nat) (A' : Option Addr) n, Big w A n → (digs n).length ≤ c → (digs n).length ≤ Lim → Big w A' 1 → Calls Tryz.prog 112 #[.slice A (digs n).length c, .slice A' 1 1] w (RetBig (n + 1) w) := by
  intro w A c A' n h hc hl h'
  have := plus_c (n1 := 1) w h hc h' (by rw [digs_one]; exact Nat.le_refl 1) hl l1
  rwa [digs_one] at this
 have cl1 : ∀ (w : World) (A' : Option Addr) (s : Nat), s ≤ 100000 → Big w A' 1 → Calls Tryz.prog 110 #[.slice A' 1 1, .int .i64 (s : Int)] w (RetBig (2 ^ s) w) := by
  intro w A' s hs h'
  have := left_c (n0 := 1) (s := s) w h' (by rw [digs_one]; exact Nat.le_refl 1) (by rw [digs_one]; decide) hs
  rwa [digs_one, Nat.one_mul] at this
 generalize (if s then (8 : Int) else 11) = f8 at *
 go_enter Tryz.func74, Tryz.ntmps74
 go_upto_region 2 with (go_at_call 68; refine (c1 _).mono ?_; rintro e w1 ⟨rfl, hb1⟩)
 refine hide_fmt hb1 (fun W kf hs HE => ?_)
 clear hb1 c1
 generalize w1.heap.size = g at *
 go_upto_if 31 with (go_at_call 110; refine (cl _ (hB.below (Ext.end))).mono ?_; rintro e w1 ⟨A1, c1, rfl, hc1, hB1, hb1⟩; have HE1 := Ext.next (w0 := w) (W := W) hb1)
 go_cut [2] (fun v2 wc => ∃ A c, v2 = .slice A (digs (moreOf m more)).length c ∧ (digs (moreOf m more)).length ≤ c ∧ Big wc A (moreOf m more) ∧ Ext w W wc)
 case first =>
  cases more
  ·clear hmo1 hmb hR
   go_wp2
   go_meet
   rw [show moreOf m false = m * 8 from rfl]
   exact ⟨A1, c1, rfl, hc1, hB1, HE1⟩
  ·clear hmo1 hmb hR
   go_wp2_with (go_at_call 112; refine (cp _ _ _ _ _ (hB1.alloc _) hc1 (by unfold Lim; omega) (big_lit digs_one)).mono ?_; rintro e w2 ⟨A2, c2, rfl, hc2, hB2, hb2⟩)
   go_meet
   rw [show moreOf m true = m * 8 + 1 from rfl]
   exact ⟨A2, c2, rfl, hc2, hB2, HE1.call (below_call (below_alloc0 (Below.refl _ _) _) hb2)⟩
 case rest =>
  obtain ⟨A2, c2, rfl, hc2, hB2, HE2⟩ := hcut
  generalize wc = V at *
  have kf2 : ∀ i, V.cell? ⟨g, i, none⟩ = _ := fun i => (HE2.1 g i hs).trans (kf i)
  have hs2 : g < V.heap.size := Nat.lt_of_lt_of_le hs HE2.2.2.1
  have HE3 : Ext w V V := Ext.refl HE2.2.2.2
  clear kf hs HE HE1 HE2 hb1 hB1 hc1 hB hc cl d2
  generalize moreOf m more = m1 at *
  have hR' : R = R := rfl
  have h3 : -10003 ≤ e - 3 := by omega
  have h4 : e - 3 ≤ 9997 := by omega
  clear h1 h2
  generalize e - 3 = e3 at *
  obtain ⟨tp, htp⟩ : ∃ x, placeOf s m1 e3 = x := ⟨_, rfl⟩
  rw [htp] at hR
  have htp2 : tp = max ((N.bits m1 : Int) - precN s + e3) (leastN s) := htp.symm
  have htb : -2000 ≤ tp ∧ tp ≤ 40000 := by omega
  go_upto_region 7 with (fail)
  go_cut [12] (fun v12 wx => v12 = .int .i64 tp ∧ Ext w V wx)
  case first =>
   have b1 : IntKind.i64.wrap ((N.bits m1 : Int) - (precN s : Int)) = (N.bits m1 : Int) - (precN s : Int) := iwr (by omega) (by omega)
   have b2 : IntKind.i64.wrap ((N.bits m1 : Int) - (precN s : Int) + e3) = (N.bits m1 : Int) - (precN s : Int) + e3 := iwr (by omega) (by omega)
   clear hR htp htb
   generalize precN s = prec at *
   generalize leastN s = least at *
   generalize mostN s = most at *
   go_region_held3 (fun w' => Ext w V w') (first | exact Ext.drew (by assumption) | exact Ext.next (by assumption)) ((go_at_call 113; refine (length_c _ (hB2.ext (by assumption)) hc2 (by unfold Lim; omega)).mono ?_; rintro e w1 ⟨rfl, hb1⟩))
   go_wp2
   ·go_meet
    refine ⟨?_, by assumption⟩
    congr 1
    omega
   ·go_meet
    refine ⟨?_, by assumption⟩
    congr 1
    omega
  case rest =>
   obtain ⟨rfl, HE4⟩ := hcut
   generalize wc = V1 at *
   have kf3 : ∀ i, V1.cell? ⟨g, i, none⟩ = _ := fun i => (HE4.1 g i hs2).trans (kf2 i)
   have hs3 : g < V1.heap.size := Nat.lt_of_lt_of_le hs2 HE4.2.2.1
   have HE5 : Ext w V1 V1 := Ext.refl HE4.2.2.2
   have hB3 := hB2.ext HE4
   clear kf2 hs2 HE3 HE4 hB2
   have hkb := kept_bound s m1 e3
   rw [htp] at hkb
   obtain ⟨kp, hkp⟩ : ∃ x, keptOf m1 e3 tp = x := ⟨_, rfl⟩
   rw [hkp] at hR hkb
   have htl : leastN s ≤ tp := by omega
   clear htp htp2
   go_upto_if 47 with (fail)
   go_cut [2, 3] (fun v2 v3 wc => ∃ A c, v2 = .slice A (digs kp).length c ∧ v3 = .int .i64 tp ∧ (digs kp).length ≤ c ∧ Big wc A kp ∧ Ext w V1 wc)
   case first =>
    clear hR hkb
    by_cases hle : tp ≤ e3
    ·rw [decide_eq_true hle]
     obtain ⟨d, hd⟩ : ∃ d : Nat, e3 = tp + (d : Int) := ⟨(e3 - tp).toNat, by omega⟩
     have hk : kp = m1 * 2 ^ d := by
      rw [← hkp]
      unfold keptOf
      rw [if_pos hle, show (e3 - tp).toNat = d from by omega]
     clear hkp
     have ce : ∀ w, Big w A2 m1 → Calls Tryz.prog 110 #[.slice A2 (digs m1).length c2, .int .i64 (d : Int)] w (RetBig kp w) := by
      intro w h
      rw [hk]
      exact left_c (s := d) w h hc2 (by omega) (by omega)
     have b3 : wrap64 (e3 - tp) = (d : Int) := by
      have hd9 : d ≤ 9223372036854775807 := by omega
      have hd8 : e3 - tp = (d : Int) := by omega
      rw [hd8]; exact wr_nat hd9
     clear hk hd hle htb h3 h4 htl
     clear hm hml d3 d1 l1 cp cl1 hmo1 hmb
     go_upto_region 9 with (fail)
     go_wp2_with (go_at_call 110; refine (ce _ hB3).mono ?_; rintro e w1 ⟨A1, c1, rfl, hc1, hB1, hb1⟩)
     go_meet
     exact ⟨A1, c1, rfl, rfl, hc1, hB1, Ext.next hb1⟩
    ·rw [decide_eq_false hle]
     obtain ⟨D, hD⟩ : ∃ D : Nat, tp = e3 + (D : Int) := ⟨(tp - e3).toNat, by omega⟩
     have hD1 : 1 ≤ D := by omega
     have hD2 : D ≤ 60000 := by omega
     have hk : Fl.rnd m1 D = kp := by
      rw [← hkp]
      unfold keptOf
      rw [if_neg hle, hD, show (e3 + (D : Int) - e3).toNat = D from by omega]
     clear hkp
     have hro := rnd_ord m1 D hD1
     rw [hk] at hro
     have hqm : m1 / 2 ^ D * 2 ^ D ≤ m1 := Nat.div_mul_le_self _ _
     have hqm2 : m1 / 2 ^ D ≤ m1 := Nat.div_le_self _ _
     have cr : ∀ w, Big w A2 m1 → Calls Tryz.prog 114 #[.slice A2 (digs m1).length c2, .int .i64 (D : Int)] w (fun e w' => ∃ A c, e = .returned (.tuple #[.slice A (digs (m1 / 2 ^ D)).length c, .bool (m1 % 2 ^ D != 0)]) ∧ (digs (m1 / 2 ^ D)).length ≤ c ∧ Big w' A (m1 / 2 ^ D) ∧ Below w.heap.size w w') :=
      fun w h => right_c (s := D) w h hc2 (by unfold Lim; omega) (by omega)
     have hlq := len_mono hqm2
     have hlr := len_mono (show m1 - m1 / 2 ^ D * 2 ^ D ≤ m1 from Nat.sub_le _ _)
     generalize (m1 % 2 ^ D != 0) = flag at *
     generalize m1 / 2 ^ D = q at *
     have cle : ∀ w A c, Big w A q → (digs q).length ≤ c → Calls Tryz.prog 110 #[.slice A (digs q).length c, .int .i64 (D : Int)] w (RetBig (q * 2 ^ D) w) := fun w A c h hc => left_c (s := D) w h hc (by omega) (by omega)
     have cm : ∀ w A c, Big w A2 m1 → Big w A (q * 2 ^ D) → (digs (q * 2 ^ D)).length ≤ c → Calls Tryz.prog 115 #[.slice A2 (digs m1).length c2, .slice A (digs (q * 2 ^ D)).length c] w (RetBig (m1 - q * 2 ^ D) w) := fun w A c h h' hc => minus_c w h hc2 h' hc (by unfold Lim; omega) hqm
     generalize q * 2 ^ D = lq at *
     generalize m1 - lq = rs at *
     have clh := fun w A' => cl1 w A' (D - 1) (by omega)
     have hl2 : (digs rs).length ≤ Lim := by unfold Lim; omega
     have hl3 : (digs q).length ≤ Lim := by unfold Lim; omega
     obtain ⟨b3, b4⟩ : wrap64 (tp - e3) = (D : Int) ∧ wrap64 ((D : Int) - 1) = ((D - 1 : Nat) : Int) := by
      have hd9 : D ≤ 9223372036854775807 := by omega
      have hd7 : D - 1 ≤ 9223372036854775807 := by omega
      have hd8 : tp - e3 = (D : Int) := by omega
      have hd6 : (D : Int) - 1 = ((D - 1 : Nat) : Int) := by omega
      exact ⟨by rw [hd8]; exact wr_nat hd9, by rw [hd6]; exact wr_nat hd7⟩
     generalize D - 1 = Dm at *
     generalize 2 ^ Dm = half at *
     clear htl hD hm hml d3 d1 hmb hmo1 hlq hlr hqm hqm2 l1 hD1 hD2 htb hle h3 h4
     go_upto_region 10 with (fail)
     go_upto_region 11 with (go_at_call 114; refine (cr _ hB3).mono ?_; rintro e w1 ⟨Aq, cq, rfl, hcq, hBq, hb1⟩)
     have hB4 := hB3.below hb1
     have HE6 : Ext w V1 w1 := Ext.next hb1
     clear cr hb1 hB3 HE5
     go_upto_region 12 with (first | (go_at_call 110; refine (cle _ _ _ hBq hcq).mono ?_; rintro e w2 ⟨Al, cl', rfl, hcl, hBl, hb2⟩) | (go_at_call 115; refine (cm _ _ _ (hB4.below hb2) hBl hcl).mono ?_; rintro e w3 ⟨Ar, cr, rfl, hcr, hBr, hb3⟩))
     have HE7 := HE6.call hb2
     have HE8 := HE7.call hb3
     have hBq2 := (hBq.below hb2).below hb3
     clear hBq hBl hB4 HE6 HE7 hb2 hb3 cle cm
     go_upto_region 13 with (go_at_call 110; refine (clh _ _ (big_lit digs_one)).mono ?_; rintro e w4 ⟨Ah, ch, rfl, hch, hBh, hb4⟩)
     have hb5 := below_call (below_alloc0 (Below.refl _ _) _) hb4
     have HE9 := HE8.call hb5
     have hBq3 := hBq2.below hb5
     have hBr2 := hBr.below hb5
     clear hb4 hb5 HE8 hBq2 hBr clh cl1
     go_upto_region 14 with (go_at_call 116; refine (order_c _ hBr2 hcr hBh hch hl2).mono ?_; rintro e w5 ⟨rfl, hb6⟩)
     have HE10 := HE9.call hb6
     have hBq4 := hBq3.below hb6
     clear hb6 HE9 hBq3 hBr2 hBh
     generalize ordN rs half = x at *
     rcases hro with ⟨rfl, rfl⟩ | ⟨rfl, rfl⟩ | ⟨rfl, hpar⟩
     ·go_wp2
      go_meet
      exact ⟨Aq, cq, rfl, rfl, hcq, hBq4, HE10⟩
     ·go_wp2_with (go_at_call 112; refine (cp _ _ _ _ _ (hBq4.alloc _) hcq hl3 (big_lit digs_one)).mono ?_; rintro e w6 ⟨A6, c6, rfl, hc6, hB6, hb7⟩)
      go_meet
      exact ⟨A6, c6, rfl, rfl, hc6, hB6, HE10.call (below_call (below_alloc0 (Below.refl _ _) _) hb7)⟩
     ·have cd := digit_c w5 hBq4 hcq
      obtain ⟨ht, ht2, hq2⟩ := par_facts q
      generalize q % 65536 = z at *
      rcases hq2 with hq2 | hq2
      ·rw [hq2] at ht ht2
       rw [if_neg (by rw [hq2]; decide)] at hpar
       subst hpar
       go_wp2_with (go_at_call 117; refine cd.mono ?_; rintro e w6 ⟨rfl, hb7⟩)
       go_meet
       exact ⟨Aq, cq, rfl, rfl, hcq, hBq4.below hb7, HE10.call hb7⟩
      ·rw [hq2] at ht ht2
       rw [if_pos hq2] at hpar
       subst hpar
       go_wp2_with (first | (go_at_call 117; refine cd.mono ?_; rintro e w6 ⟨rfl, hb7⟩) | (go_at_call 112; refine (cp _ _ _ _ _ ((hBq4.below hb7).alloc _) hcq hl3 (big_lit digs_one)).mono ?_; rintro e w8 ⟨A6, c6, rfl, hc6, hB6, hb8⟩))
       go_meet
       exact ⟨A6, c6, rfl, rfl, hc6, hB6, (HE10.call hb7).call (below_call (below_alloc0 (Below.refl _ _) _) hb8)⟩
   case rest =>
    obtain ⟨A3, c3, rfl, rfl, hc3, hB5, HE6⟩ := hcut
    generalize wc = V2 at *
    have kf4 : ∀ i, V2.cell? ⟨g, i, none⟩ = _ := fun i => (HE6.1 g i hs3).trans (kf3 i)
    have hs4 : g < V2.heap.size := Nat.lt_of_lt_of_le hs3 HE6.2.2.1
    have HE7 : Ext w V2 V2 := Ext.refl HE6.2.2.2
    have hkl : (digs kp).length ≤ 10 := by
     have : (digs kp).length ≤ 54 / 16 + 1 := len_bits (Nat.lt_of_le_of_lt hkb (by rcases hps with h | h <;> rw [h] <;> decide))
     omega
    obtain ⟨hk1, hk2⟩ := over_facts s kp tp hkb
    clear kf3 hs3 HE5 HE6 hB3 hc2 hkp hml hmo1 cp cl1 l1 d1 d3 hkb hmb hl
    obtain ⟨k3, hk3⟩ : ∃ k, overOf s kp tp = k := ⟨_, rfl⟩
    rw [hk3] at hR hk1 hk2
    obtain ⟨m3, e4⟩ := k3
    simp only at hR hk1 hk2
    go_upto_region 17 with (fail)
    have hov : ((precN s : Int) < (N.bits kp : Int) ∧ kp / 2 ^ 1 = m3 ∧ wrap64 (tp + 1) = e4) ∨ ((N.bits kp : Int) ≤ (precN s : Int) ∧ kp = m3 ∧ tp = e4) := by
     unfold overOf at hk3
     by_cases h : precN s < N.bits kp
     ·rw [if_pos h] at hk3
      injection hk3 with h5 h6
      exact .inl ⟨by omega, h5, by rw [← h6]; exact wr (by omega) (by omega)⟩
     ·rw [if_neg h] at hk3
      injection hk3 with h5 h6
      exact .inr ⟨by omega, h5, h6⟩
    have cri : ∀ w, Big w A3 kp → Calls Tryz.prog 114 #[.slice A3 (digs kp).length c3, .int .i64 1] w (fun e w' => ∃ A c, e = .returned (.tuple #[.slice A (digs (kp / 2 ^ 1)).length c, .bool (kp % 2 ^ 1 != 0)]) ∧ (digs (kp / 2 ^ 1)).length ≤ c ∧ Big w' A (kp / 2 ^ 1) ∧ Below w.heap.size w w') :=
     fun w h => right_c (s := 1) w h hc3 (by unfold Lim; omega) (by decide)
    generalize (kp % 2 ^ 1 != 0) = flag at *
    have hk10 : (digs kp).length ≤ Lim := by unfold Lim; omega
    have HOV := Lib.hid hov
    have CRI := Lib.hid cri
    have HK : RowKit.Hid (m3 < 2 * lowN s ∧ leastN s ≤ e4) := ⟨hk1, hk2 htl⟩
    have HR := Lib.hid hR
    clear hR
    clear hov cri hk3 hls hms hps htb htl h3 h4 hkl hk1 hk2 hm
    generalize precN s = prec at *
    go_region_held3 (fun w' => Ext w V2 w') (first | exact Ext.drew (by assumption) | exact Ext.next (by assumption)) ((go_at_call 113; refine (length_c _ (hB5.ext (by assumption)) hc3 hk10).mono ?_; rintro e w1 ⟨rfl, hb1⟩))
    have HE8 := (by assumption : Ext w V2 _)
    go_upto_if 99 with (fail)
    go_cut [2, 3] (fun v2 v3 wc => ∃ A c, v2 = .slice A (digs m3).length c ∧ v3 = .int .i64 e4 ∧ (digs m3).length ≤ c ∧ Big wc A m3 ∧ Ext w V2 wc)
    case first =>
     rcases HOV with ⟨ho, h5, h6⟩ | ⟨ho, h5, h6⟩
     ·first | rw [decide_eq_true (show prec < N.bits kp by omega)] | rw [decide_eq_true ho] | rw [decide_eq_true (p := (N.bits kp : Int) > (prec : Int)) ho]
      have cri2 : ∀ w, Big w A3 kp → _ := CRI
      rw [h5] at cri2
      clear CRI ho h5
      go_upto_region 18 with (fail)
      go_upto_region 19 with (go_at_call 114; refine (cri2 _ (hB5.ext HE8)).mono ?_; rintro e w2 ⟨A5, c5, rfl, hc5, hB6, hb2⟩)
      go_wp2
      go_meet
      exact ⟨A5, c5, rfl, by rw [h6], hc5, hB6, HE8.call hb2⟩
     ·first | rw [decide_eq_false (show ¬ prec < N.bits kp by omega)] | rw [decide_eq_false (p := (N.bits kp : Int) > (prec : Int)) (by omega)] | rw [decide_eq_false (p := (prec : Int) < (N.bits kp : Int)) (by omega)]
      subst h5 h6
      clear CRI ho
      go_wp2
      go_meet
      exact ⟨A3, c3, rfl, rfl, hc3, hB5.ext HE8, HE8⟩
    case rest =>
     obtain ⟨A5, c5, rfl, rfl, hc5, hB7, HE9⟩ := hcut
     generalize wc = V3 at *
     have kf5 : ∀ i, V3.cell? ⟨g, i, none⟩ = _ := fun i => (HE9.1 g i hs4).trans (kf4 i)
     have hs5 : g < V3.heap.size := Nat.lt_of_lt_of_le hs4 HE9.2.2.1
     have HE10 : Ext w V3 V3 := Ext.refl HE9.2.2.2
     clear kf4 hs4 HE7 HE8 HE9 hB5 hc3 hk10 CRI HOV
     have hR : bitsR s (packOf s neg m3 e4) = R := HR
     obtain ⟨hk1, hk2⟩ : m3 < 2 * lowN s ∧ leastN s ≤ e4 := HK
     clear HR
     unfold packOf at hR
     by_cases hz : m3 = 0
     ·subst hz
      rw [if_pos rfl] at hR
      have cb := fun w => bits_c s ⟨0, neg, 0, 0⟩ w (.inl rfl)
      unfold PP.v at cb
      rw [hR] at cb
      clear hR hk1 hk2
      rw [digs_zero] at *
      go_wp2_with (go_at_call 69; refine (cb _).mono ?_; rintro e w2 ⟨rfl, hb2⟩; have HE11 := Ext.next (w0 := w) (W := V3) hb2)
      go_ret
      exact ⟨rfl, Ext.end⟩
     ·rw [if_neg hz] at hR
      have hz2 : (digs m3).length ≠ 0 := fun h => hz (digs_nil.1 h)
      have hz3 : ((digs m3).length : Int) ≠ 0 := by omega
      by_cases hmo : e4 > mostN s
      ·rw [if_pos hmo] at hR
       have cb := fun w => bits_c s ⟨2, neg, 0, 0⟩ w (.inr (.inl rfl))
       unfold PP.v at cb
       rw [hR] at cb
       clear hR hk1 hk2 hz
       generalize mostN s = most at *
       go_wp2_with (go_at_call 69; refine (cb _).mono ?_; rintro e w2 ⟨rfl, hb2⟩; have HE11 := Ext.next (w0 := w) (W := V3) hb2)
       go_ret
       exact ⟨rfl, Ext.end⟩
      ·rw [if_neg hmo] at hR
       have hls : 2 * lowN s ≤ 9223372036854775807 := by cases s <;> decide
       have cb := fun w => bits_c s ⟨1, neg, m3, e4⟩ w (.inr (.inr (.inr ⟨rfl, hk1, fun _ => ⟨hk2, by simp only; omega⟩⟩)))
       have ci := int_c V3 hB7 hc5 (by omega)
       unfold PP.v at cb
       rw [hR] at cb
       clear hR hk1 hk2 hz hls
       generalize mostN s = most at *
       go_wp2_with (first | (go_at_call 69; refine (cb _).mono ?_; rintro e w2 ⟨rfl, hb2⟩; have HE11 := Ext.next (w0 := w) (W := V3) hb2) | (go_at_call 118; refine ci.mono ?_; rintro e w3 ⟨rfl, hb3⟩; have HE12 := Ext.next (w0 := w) (W := V3) hb3))
       go_ret
       exact ⟨rfl, Ext.end⟩
theorem round_c (s neg : Bool) (m : Nat) (e : Int) (more : Bool) (A : Option Addr) (c : Nat) (w : World) (hB : Big w A m) (hc : (digs m).length ≤ c) (hl : (digs m).length ≤ 1000) (h1 : -10000 ≤ e) (h2 : e ≤ 10000) :
  Calls Tryz.prog 74 #[.int .i64 (tv s), .bool neg, .slice A (digs m).length c, .int .i64 e, .bool more] w (Ret (.int .u64 (roundR s neg m e more : Int)) w) := by
 by_cases hm : m = 0
 ·subst hm
  have h := round_c0 s neg e more A c w
  rw [digs_zero]
  unfold roundR
  rw [if_pos rfl]
  exact h
 ·exact round_c1 s neg m e more A c w hm hB hc hl h1 h2
end Go.Proofs.YtmoimcblmmcffaaGreat.NC

namespace Go.Proofs.YtmoimcblmmcffaaGreat.NC
open Go.RowKit Go.Proofs.YtmoimcblmmcffaaGreat.B Go.Proofs.YtmoimcblmmcffaaGreat.N
set_option linter.unusedSimpArgs false
set_option linter.unusedVariables false
theorem infR_c (s neg : Bool) (w : World) : Calls Tryz.prog 104 #[.int .i64 (tv s), .bool neg] w (Ret (.int .u64 (bitsR s ⟨2, neg, 0, 0⟩ : Int)) w) := by
 have cb := fun w => bits_c s ⟨2, neg, 0, 0⟩ w (.inr (.inl rfl))
 unfold PP.v at cb
 generalize bitsR s ⟨2, neg, 0, 0⟩ = R at *
 generalize tv s = t at *
 go_enter Tryz.func104, Tryz.ntmps104
 go_wp2_with (go_at_call 69; refine (cb _).mono ?_; rintro e w1 ⟨rfl, hb1⟩; have HE := Ext.next (w0 := w) (W := w) hb1)
 go_ret
 exact ⟨rfl, Ext.end⟩
theorem zeroR_c (s neg : Bool) (w : World) : Calls Tryz.prog 105 #[.int .i64 (tv s), .bool neg] w (Ret (.int .u64 (bitsR s ⟨0, neg, 0, 0⟩ : Int)) w) := by
 have cb := fun w => bits_c s ⟨0, neg, 0, 0⟩ w (.inl rfl)
 unfold PP.v at cb
 generalize bitsR s ⟨0, neg, 0, 0⟩ = R at *
 generalize tv s = t at *
 go_enter Tryz.func105, Tryz.ntmps105
 go_wp2_with (go_at_call 69; refine (cb _).mono ?_; rintro e w1 ⟨rfl, hb1⟩; have HE := Ext.next (w0 := w) (W := w) hb1)
 go_ret
 exact ⟨rfl, Ext.end⟩
end Go.Proofs.YtmoimcblmmcffaaGreat.NC

namespace Go.Proofs.YtmoimcblmmcffaaGreat.NC
open Go.RowKit Go.Proofs.YtmoimcblmmcffaaGreat.B Go.Proofs.YtmoimcblmmcffaaGreat.N
set_option linter.unusedSimpArgs false
set_option linter.unusedVariables false
theorem parts_ok (s : Bool) (a : Nat) : (partsR s a).ok s := by
 have hl : 0 < lowN s := by cases s <;> decide
 have hr : a % lowN s < lowN s := Nat.mod_lt _ hl
 have hf : 0 < fieldN s := by cases s <;> decide
 have hf2 : a / lowN s % fieldN s < fieldN s := Nat.mod_lt _ hf
 have hm : (fieldN s : Int) - 3 + leastN s = mostN s := by cases s <;> decide
 unfold partsR
 generalize a / lowN s % fieldN s = f at *
 generalize a % lowN s = r at *
 generalize decide (a / lowN s / fieldN s = 1) = neg
 rcases parts_leaf (s := s) (f := f) (r := r) (neg := neg) rfl with ⟨_, _, h⟩ | ⟨_, _, h⟩ | ⟨_, _, _, h⟩ | ⟨_, _, _, h⟩ | ⟨h1, h2, h⟩ <;> rw [h] <;> unfold PP.ok
 ·exact .inr (.inl rfl)
 ·exact .inr (.inr (.inl rfl))
 ·exact .inl rfl
 ·exact .inr (.inr (.inr ⟨rfl, by simp only; omega, fun (h : lowN s ≤ r) => by omega⟩))
 ·exact .inr (.inr (.inr ⟨rfl, by simp only; omega, fun _ => ⟨by simp only; omega, by simp only; omega⟩⟩))
def negR (s : Bool) (a : Nat) : Nat := bitsR s { partsR s a with neg := !(partsR s a).neg && (partsR s a).kind != 3 }
def sizeR (s : Bool) (a : Nat) : Nat := bitsR s { partsR s a with neg := false }
theorem PP.ok_neg {s : Bool} {p : PP} (h : p.ok s) (n : Bool) : ({ p with neg := n } : PP).ok s := h
theorem sizedR_c (s : Bool) (a : Nat) (w : World) (ha : (a : Int) < topV s) : Calls Tryz.prog 84 #[.int .i64 (tv s), .int .u64 (a : Int)] w (Ret (.int .u64 (sizeR s a : Int)) w) := by
 have c1 := fun w => parts_c s a w ha
 have cb := fun w => bits_c s _ w (PP.ok_neg (parts_ok s a) false)
 unfold sizeR
 generalize bitsR s { partsR s a with neg := false } = R at *
 unfold PP.v at cb c1
 simp only at cb
 generalize (partsR s a).kind = k at *
 generalize (partsR s a).neg = n at *
 generalize (partsR s a).sig = g at *
 generalize (partsR s a).exp = x at *
 clear ha
 generalize tv s = t at *
 go_enter Tryz.func84, Tryz.ntmps84
 go_wp2_with (first | (go_at_call 21; refine (c1 _).mono ?_; rintro e w1 ⟨rfl, hb1⟩; have HE1 := Ext.next (w0 := w) (W := w) hb1) | (go_at_call 69; refine (cb _).mono ?_; rintro e w2 ⟨rfl, hb2⟩))
 go_ret
 exact ⟨rfl, below_call (below_alloc0 hb1 _) hb2⟩
theorem negatedR_c (s : Bool) (a : Nat) (w : World) (ha : (a : Int) < topV s) : Calls Tryz.prog 83 #[.int .i64 (tv s), .int .u64 (a : Int)] w (Ret (.int .u64 (negR s a : Int)) w) := by
 have c1 := fun w => parts_c s a w ha
 have cb := fun w => bits_c s _ w (PP.ok_neg (parts_ok s a) (!(partsR s a).neg && (partsR s a).kind != 3))
 unfold negR
 generalize bitsR s { partsR s a with neg := !(partsR s a).neg && (partsR s a).kind != 3 } = R at *
 unfold PP.v at cb c1
 simp only at cb
 generalize (partsR s a).kind = k at *
 generalize (partsR s a).neg = n at *
 generalize (partsR s a).sig = g at *
 generalize (partsR s a).exp = x at *
 clear ha
 generalize tv s = t at *
 obtain ⟨b, hb⟩ : ∃ b, (k != 3) = b := ⟨_, rfl⟩
 rw [hb] at cb
 have hk : (k = 3 ∧ b = false) ∨ (k ≠ 3 ∧ b = true) := by
  subst hb
  by_cases h : k = 3 <;> simp [h]
 cases n <;> rcases hk with ⟨hk, rfl⟩ | ⟨hk, rfl⟩ <;> simp only [Bool.not_false, Bool.not_true, Bool.and_true, Bool.and_false, Bool.true_and, Bool.false_and] at cb
 all_goals
  try subst hk
  go_enter Tryz.func83, Tryz.ntmps83
  go_wp2_with (first | (go_at_call 21; refine (c1 _).mono ?_; rintro e w1 ⟨rfl, hb1⟩; have HE1 := Ext.next (w0 := w) (W := w) hb1) | (go_at_call 69; refine (cb _).mono ?_; rintro e w2 ⟨rfl, hb2⟩))
  go_ret
  exact ⟨rfl, below_call (below_alloc0 hb1 _) hb2⟩
end Go.Proofs.YtmoimcblmmcffaaGreat.NC

namespace Go.Proofs.YtmoimcblmmcffaaGreat.NC
open Go.RowKit Go.Proofs.YtmoimcblmmcffaaGreat.B Go.Proofs.YtmoimcblmmcffaaGreat.N
set_option linter.unusedSimpArgs false
set_option linter.unusedVariables false
theorem Own.read3 {w : World} {g n : Nat} {a b c : Value} (h : Own (((w.setCell ⟨g, 0, none⟩ a).setCell ⟨g, 1, none⟩ b).setCell ⟨g, 2, none⟩ c) g (n + 3)) :
  (((w.setCell ⟨g, 0, none⟩ a).setCell ⟨g, 1, none⟩ b).setCell ⟨g, 2, none⟩ c).cell? ⟨g, 0, none⟩ = some a ∧ (((w.setCell ⟨g, 0, none⟩ a).setCell ⟨g, 1, none⟩ b).setCell ⟨g, 2, none⟩ c).cell? ⟨g, 1, none⟩ = some b ∧
  (((w.setCell ⟨g, 0, none⟩ a).setCell ⟨g, 1, none⟩ b).setCell ⟨g, 2, none⟩ c).cell? ⟨g, 2, none⟩ = some c := by
 have e0 := h.1 0 (by omega)
 have e1 := h.1 1 (by omega)
 have e2 := h.1 2 (by omega)
 refine ⟨?_, ?_, ?_⟩
 ·rw [e0]; rw [cell_put_ne (by decide), cell_put_ne (by decide)] at e0; rw [cell_put e0]
 ·rw [e1]; rw [cell_put_ne (by decide)] at e1; rw [cell_put e1]
 ·rw [e2]; rw [cell_put e2]
def RetEx (neg : Bool) (m : Nat) (e : Int) (w : World) : Ending → World → Prop := fun x w' => ∃ A c, x = .returned (.agg #[.bool neg, .slice A (digs m).length c, .int .i64 e]) ∧ (digs m).length ≤ c ∧ Big w' A m ∧ (∀ g, A = some ⟨g, 0, none⟩ → w.heap.size ≤ g) ∧ Below w.heap.size w w'
set_option maxHeartbeats 4000000 in
theorem exactOf_c (k : Int) (neg : Bool) (sig : Nat) (exp : Int) (w : World) (hp : sig ≤ 9223372036854775807) :
  Calls Tryz.prog 107 #[.agg #[.int .i64 k, .bool neg, .int .i64 (sig : Int), .int .i64 exp]] w (RetEx neg sig exp w) := by
 have c1 := fun w => nat_n w hp
 clear hp
 go_enter Tryz.func107, Tryz.ntmps107
 go_upto_region 1 with (fail)
 refine hide1own w (fun W k0 ho HW => ?_)
 have HO : ExO (w.heap.size + 1) w W (w.heap.size + 1) 3 W := ⟨HW, ho⟩
 go_region_held3 (fun w' => ExO (w.heap.size + 1) w W (w.heap.size + 1) 3 w') (exact ExO.keep) (((go_at_call 75; refine (c1 _).mono ?_; rintro e w1 ⟨A1, c1, rfl, hc1, hB1, hf1, hb1⟩)))
 have hH := (by assumption : ExO _ _ _ _ _ _)
 have hfr : ∀ g, A1 = some ⟨g, 0, none⟩ → w.heap.size + 1 < g := fun g hg => Nat.lt_of_lt_of_le ho.2.2 (hf1 g hg)
 have hB2 := ((hB1.put (p := ⟨w.heap.size + 1, 0, none⟩) hfr (.bool neg)).put (p := ⟨w.heap.size + 1, 1, none⟩) hfr (.slice A1 (digs sig).length c1)).put (p := ⟨w.heap.size + 1, 2, none⟩) hfr (.int .i64 exp)
 obtain ⟨e0, e1, e2⟩ := Own.read3 (n := 0) hH.2
 have hend := hH.end
 have hnew : ∀ g, A1 = some ⟨g, 0, none⟩ → w.heap.size ≤ g := fun g hg => by have := hfr g hg; omega
 clear hH hf1 hfr hB1 hb1 ho HO HW k0
 go_wp2
 exact bodyPost_ret (v := .agg #[.bool neg, .slice A1 (digs sig).length c1, .int .i64 exp]) (by simp [results, Tryz.results107, go_sem, e0, e1, e2]) rfl ⟨A1, c1, rfl, hc1, hB2, hnew, hend⟩
end Go.Proofs.YtmoimcblmmcffaaGreat.NC
