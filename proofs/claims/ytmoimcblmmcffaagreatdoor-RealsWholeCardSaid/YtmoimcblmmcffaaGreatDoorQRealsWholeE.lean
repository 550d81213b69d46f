/- Contracts and plain laws that the law RealsWhole leans on (texts joined by program; what it does not come to is left out). -/
import Derived.Test.YtmoimcblmmcffaaGreatDoorQRealsWholeD
import Derived.Test.YtmoimcblmmcffaaGreatDoorQRealsWholeB
import Derived.Test.YtmoimcblmmcffaaGreatDoorQRealsWholeC
import Derived.Laws.FloatArith
import Derived.Lib.Hide

namespace Go.Proofs.YtmoimcblmmcffaaGreatDoor.N
open Go.RowKit Go.Proofs.YtmoimcblmmcffaaGreatDoorW.PrintWords Go.Proofs.YtmoimcblmmcffaaGreatDoorW.PrintLast Go.Proofs.YtmoimcblmmcffaaGreatDoorW.PrintMore Go.Proofs.YtmoimcblmmcffaaGreatDoor.PN
set_option linter.unusedSimpArgs false
set_option linter.unusedVariables false
theorem wr_nat {n : Nat} (h : n ≤ 9223372036854775807) : wrap64 (n : Int) = (n : Int) := wr (by omega) (by omega)
theorem wr_add {i q : Nat} (h : i + q ≤ 9223372036854775807) : wrap64 ((i : Int) + (q : Int)) = ((i + q : Nat) : Int) := wr_nat h
theorem wr_succ {q : Nat} (h : q + 1 ≤ 9223372036854775807) : wrap64 ((q : Int) + 1) = ((q + 1 : Nat) : Int) := wr_nat h
theorem wr_sub {i q : Nat} (h : i ≤ 9223372036854775807) (h2 : q ≤ i) : wrap64 ((i : Int) - (q : Int)) = ((i - q : Nat) : Int) := by
 rw [show (i : Int) - (q : Int) = ((i - q : Nat) : Int) from by omega]; exact wr_nat (by omega)
theorem wr_pred {q : Nat} (h : q ≤ 9223372036854775807) : wrap64 ((q : Int) - 1) = (q : Int) - 1 := wr (by omega) (by omega)
theorem tdiv_nat (n : Nat) : Int.tdiv (n : Int) 65536 = ((n / 65536 : Nat) : Int) := rfl
theorem tmod_nat (n : Nat) : Int.tmod (n : Int) 65536 = ((n % 65536 : Nat) : Int) := rfl
theorem mul_nat (c : Nat) : (c : Int) * 65536 = ((c * 65536 : Nat) : Int) := by omega
theorem tdivp (n p : Nat) : Int.tdiv (n : Int) (p : Int) = ((n / p : Nat) : Int) := rfl
theorem tmodp (n p : Nat) : Int.tmod (n : Int) (p : Int) = ((n % p : Nat) : Int) := rfl
theorem bound2 (c d p : Nat) (h : c < p) (h2 : p ≤ 65536) (h3 : d < 65536) : c * 65536 + d ≤ 9223372036854775807 := by omega
theorem bne_nat (c : Nat) : ((c : Int) != 0) = (c != 0) := by rw [Bool.eq_iff_iff]; simp
theorem bne_mul (P d : Nat) (h : P ≠ 0) : (P * d != 0) = (d != 0) := by rw [Bool.eq_iff_iff]; simp [Nat.mul_eq_zero, h]
theorem bne_both (P u v : Nat) (h : P ≠ 0) : (u + P * v != 0) = (u != 0 || v != 0) := by
 rw [Bool.eq_iff_iff]
 by_cases hu : u = 0
 ·subst hu; simp [Nat.mul_eq_zero, h]
 ·simp [hu]
theorem times_step (a b x : List Int) (ha : Dig a) (hb : Dig b) (hx : Dig x) (i q c k : Nat) (la : a.length ≤ Lim) (lb : b.length ≤ Lim) (lx : x.length ≤ 2 * Lim) (hi : i < a.length) (hq : i + q < x.length) (hc : c < 65536) (hr : q < b.length ∨ 0 < c)
  (d e f : Nat) (hd : a.getD i 0 = (d : Int)) (he : b.getD q 0 = (e : Int)) (hf : x.getD (i + q) 0 = (f : Int)) (hd2 : d < 65536) (he2 : e < 65536) (hf2 : f < 65536) :
  r8_Times.l1 (k + 1) a b x (i : Int) (c : Int) (q : Int) = r8_Times.l1 k a b (x.set (i + q) (((f + d * e + c) % 65536 : Nat) : Int)) (i : Int) (((f + d * e + c) / 65536 : Nat) : Int) ((q + 1 : Nat) : Int) := by
 unfold Lim at *
 have hde : d * e ≤ 65535 * 65535 := Nat.mul_le_mul (by omega) (by omega)
 have b1 : i + q ≤ 9223372036854775807 := by omega
 have b2 : d * e ≤ 9223372036854775807 := by omega
 have b3 : f + d * e ≤ 9223372036854775807 := by omega
 have b4 : f + d * e + c ≤ 9223372036854775807 := by omega
 have b5 : (f + d * e + c) / 65536 ≤ 9223372036854775807 := by omega
 have b6 : q + 1 ≤ 9223372036854775807 := by omega
 have hm : (d : Int) * (e : Int) = ((d * e : Nat) : Int) := (Int.natCast_mul d e).symm
 simp only [r8_Times.l1, wr_add b1, rd_nat, digit_f, Option.bind_some, hd, he, hf, hm, wr_nat b2, wr_add b3, wr_add b4, tmod_nat, tdiv_nat, wr_nat b5, wr_succ b6, Int.toNat_natCast]
 by_cases h1 : q < b.length
 ·rw [if_pos (by omega), if_pos (by omega), if_pos (by omega), if_pos (by omega), if_pos (by omega)]
 ·rw [if_neg (by omega), if_pos (by omega), if_pos (by omega), if_pos (by omega), if_pos (by omega), if_pos (by omega)]
theorem times_l1 (a b : List Int) (ha : Dig a) (hb : Dig b) (i : Nat) (la : a.length ≤ Lim) (lb : b.length ≤ Lim) (hi : i < a.length) (V K : Nat) (R : List Int) (hV : V < 65536 ^ (a.length + b.length))
  (hout : ∀ k x, K ≤ k → Dig x → x.length = a.length + b.length → val x = V → r8_Times.l0 k a b x ((i + 1 : Nat) : Int) = some R) :
  ∀ m k x (c q : Nat), Dig x → x.length = a.length + b.length → c < 65536 → i + q + m = a.length + b.length → K + m + 1 ≤ k → val x + 65536 ^ (i + q) * (c + (a.getD i 0).toNat * val (b.drop q)) = V →
   r8_Times.l1 k a b x (i : Int) (c : Int) (q : Int) = some R := by
 obtain ⟨d, hd, hd2⟩ := ha.nat i
 rw [hd, Int.toNat_natCast]
 have done : ∀ k x (c q : Nat), Dig x → x.length = a.length + b.length → K + 1 ≤ k → ¬ q < b.length → c = 0 → val x + 65536 ^ (i + q) * (c + d * val (b.drop q)) = V → r8_Times.l1 k a b x (i : Int) (c : Int) (q : Int) = some R := by
  intro k x c q hx hl hk h1 h2 hs
  obtain ⟨k, rfl⟩ : ∃ k', k = k' + 1 := ⟨k - 1, by omega⟩
  subst h2
  rw [val_drop_nil (by omega)] at hs
  simp at hs
  have b1 : i + 1 ≤ 9223372036854775807 := by unfold Lim at *; omega
  rw [r8_Times.l1, if_neg (by omega), if_neg (by omega), wr_succ b1]
  exact hout k x (by omega) hx hl hs
 intro m
 induction m with
 | zero =>
  intro k x c q hx hl hc hm hk hs
  refine done k x c q hx hl (by omega) (by omega) ?_ hs
  by_cases h0 : c = 0
  ·exact h0
  ·exfalso
   have := Nat.mul_le_mul_left (65536 ^ (i + q)) (show 1 ≤ c + d * val (b.drop q) from by omega)
   rw [show i + q = a.length + b.length from by omega] at this hs
   omega
 | succ m ih =>
  intro k x c q hx hl hc hm hk hs
  by_cases hr : q < b.length ∨ 0 < c
  ·obtain ⟨k, rfl⟩ : ∃ k', k = k' + 1 := ⟨k - 1, by omega⟩
   obtain ⟨e, he, he2⟩ := hb.nat q
   obtain ⟨f, hf, hf2⟩ := hx.nat (i + q)
   rw [times_step a b x ha hb hx i q c k la lb (by unfold Lim at *; omega) hi (by omega) hc hr d e f hd he hf hd2 he2 hf2]
   have hde : d * e ≤ 65535 * 65535 := Nat.mul_le_mul (by omega) (by omega)
   refine ih k _ _ (q + 1) (hx.set _ (by omega) (by omega)) (by simp [hl]) (by omega) (by omega) (by omega) ?_
   have h1 := val_set x (i + q) (((f + d * e + c) % 65536 : Nat) : Int) (by omega)
   rw [hf, Int.toNat_natCast, Int.toNat_natCast] at h1
   have h2 := val_drop b q
   rw [he, Int.toNat_natCast] at h2
   rw [h2] at hs
   rw [← hs]
   rw [show i + (q + 1) = (i + q) + 1 from by omega, Nat.pow_succ, Nat.mul_assoc (65536 ^ (i + q))]
   generalize 65536 ^ (i + q) = P at *
   generalize val (x.set (i + q) (((f + d * e + c) % 65536 : Nat) : Int)) = Y at *
   generalize val (b.drop (q + 1)) = B at *
   have h3 : (f + d * e + c) = (f + d * e + c) % 65536 + 65536 * ((f + d * e + c) / 65536) := (Nat.mod_add_div _ _).symm
   have h4 := congrArg (P * ·) h3
   simp only [Nat.mul_add] at h4 hs h1 ⊢
   rw [show d * (65536 * B) = 65536 * (d * B) from by rw [Nat.mul_left_comm]] at *
   omega
  ·exact done k x c q hx hl (by omega) (by omega) (by omega) hs
theorem times_l0 (a b : List Int) (ha : Dig a) (hb : Dig b) (la : a.length ≤ Lim) (lb : b.length ≤ Lim) (S : Nat) (hS : S < 65536 ^ (a.length + b.length)) :
  ∀ r k x (i : Nat), i + r = a.length → (r + 1) * (a.length + b.length + 3) ≤ k → Dig x → x.length = a.length + b.length → val x + 65536 ^ i * (val (a.drop i) * val b) = S →
   r8_Times.l0 k a b x (i : Int) = some (digs S) := by
 intro r
 induction r with
 | zero =>
  intro k x i hi hk hx hl hs
  obtain ⟨k, rfl⟩ : ∃ k', k = k' + 1 := ⟨k - 1, by omega⟩
  rw [r8_Times.l0, if_neg (by omega), trim_k hx (by omega) (by unfold Lim at *; omega)]
  rw [val_drop_nil (by omega)] at hs
  simp at hs
  simp [hs]
 | succ r ih =>
  intro k x i hi hk hx hl hs
  rw [Nat.add_mul] at hk
  obtain ⟨k, rfl⟩ : ∃ k', k = k' + 1 := ⟨k - 1, by omega⟩
  rw [r8_Times.l0, if_pos (by omega)]
  have h2 := val_drop a i
  have e1 : val (a.drop i) * val b = (a.getD i 0).toNat * val b + 65536 * (val (a.drop (i + 1)) * val b) := by rw [h2, Nat.add_mul, Nat.mul_assoc]
  rw [e1, Nat.mul_add, ← Nat.add_assoc] at hs
  refine times_l1 a b ha hb i la lb (by omega) (val x + 65536 ^ i * ((a.getD i 0).toNat * val b)) ((r + 1) * (a.length + b.length + 3)) _ (by omega) ?_ (a.length + b.length - i) k x 0 0 hx hl (by decide) (by omega) (by omega) ?_
  ·intro k y hk2 hy hly hv
   refine ih k y (i + 1) (by omega) hk2 hy hly ?_
   rw [hv, ← hs, Nat.pow_succ, Nat.mul_assoc (65536 ^ i) 65536]
  ·simp
theorem times_ev (a b : Nat) (la : (digs a).length ≤ Lim) (lb : (digs b).length ≤ Lim) : Ev (fun k => r8_Times.f k (digs a) (digs b)) (digs (a * b)) := by
 refine ⟨((digs a).length + 1) * ((digs a).length + (digs b).length + 3), fun k hk => ?_⟩
 show r8_Times.f k (digs a) (digs b) = _
 unfold r8_Times.f
 have b1 : (digs a).length + (digs b).length ≤ 9223372036854775807 := by unfold Lim at *; omega
 rw [wr_add b1, if_pos (by omega), if_pos (by unfold Lim at *; simp; omega), Int.toNat_natCast]
 refine times_l0 (digs a) (digs b) (dig_digs a) (dig_digs b) la lb (a * b) ?_ (digs a).length k _ 0 (by omega) hk (dig_zeros _) (by simp) ?_
 ·rw [Nat.pow_add]
  have h1 := val_lt (dig_digs a)
  have h2 := val_lt (dig_digs b)
  rw [val_digs] at h1 h2
  exact Nat.mul_lt_mul'' h1 h2
 ·simp [val_zeros, val_digs]
theorem digs_single {n : Nat} (h0 : n ≠ 0) (h : n < 65536) : digs n = [(n : Int)] := by
 rw [digs_pos h0, Nat.mod_eq_of_lt h, Nat.div_eq_of_lt h, digs_zero]
theorem pow16 (s : Nat) : 2 ^ (s % 16) * 65536 ^ (s / 16) = 2 ^ s := by
 rw [show (65536 : Nat) = 2 ^ 16 from rfl, ← Nat.pow_mul, ← Nat.pow_add]
 congr 1
 omega
theorem pow15 (s : Nat) : 2 ^ (s % 16) < 65536 := Nat.lt_of_le_of_lt (Nat.pow_le_pow_right (i := s % 16) (j := 15) (by decide) (by omega)) (by decide)
theorem left_aux (a s : Nat) : (digs (a * 2 ^ (s % 16))).length ≤ (digs a).length + 1 := by
 have hla := val_lt (dig_digs a)
 rw [val_digs] at hla
 refine digs_len ?_
 rw [Nat.pow_succ]
 exact Nat.mul_lt_mul'' hla (pow15 s)
theorem left_dig (s : Nat) : digs (2 ^ (s % 16)) = [((2 ^ (s % 16) : Nat) : Int)] := digs_single (Nat.pos_iff_ne_zero.1 (Nat.two_pow_pos _)) (pow15 s)
theorem left_ev (a s : Nat) (la : (digs a).length ≤ 20000) (hs : s ≤ 100000) : Ev (fun k => r8_Left.f k (digs a) (s : Int)) (digs (a * 2 ^ s)) := by
 have hd := left_dig s
 have hlt := left_aux a s
 have b1 : s / 16 ≤ 9223372036854775807 := by omega
 have e1 : Int.tdiv (s : Int) 16 = ((s / 16 : Nat) : Int) := rfl
 have e2 : Int.tmod (s : Int) 16 = ((s % 16 : Nat) : Int) := rfl
 obtain ⟨K1, h1⟩ := power_ev (s % 16) (by omega)
 obtain ⟨K2, h2⟩ := times_ev a (2 ^ (s % 16)) (by unfold Lim; omega) (by rw [hd]; unfold Lim; simp)
 have hz : ((List.replicate (s / 16) (0 : Int)) ++ digs (a * 2 ^ (s % 16))).length ≤ 40000 := by simp; omega
 refine ⟨max (max K1 K2) 1000000, fun k hk => ?_⟩
 have h1' : bs_Power.f k ((s % 16 : Nat) : Int) = _ := h1 k (by omega)
 have h2' : r8_Times.f k (digs a) (digs (2 ^ (s % 16))) = _ := h2 k (by omega)
 rw [hd] at h2'
 have h3 : r8_trim.f k ((List.replicate (s / 16) (0 : Int)) ++ digs (a * 2 ^ (s % 16))) = some (digs (a * 2 ^ s)) := by
  rw [trim_k ((dig_zeros _).append (dig_digs _)) (by omega) (by omega), val_append, val_zeros, val_digs, List.length_replicate, Nat.zero_add, Nat.mul_comm, Nat.mul_assoc, pow16]
 have h4 : (List.replicate (s / 16) (0 : Int)).length + (digs (a * 2 ^ (s % 16))).length < 17592186044416 := by
  rw [List.length_append] at hz
  omega
 show r8_Left.f k (digs a) (s : Int) = _
 unfold r8_Left.f
 rw [e1, e2, wr_nat b1, if_pos (by omega), if_pos (by omega)]
 rw [Option.bind_some, h1', Option.bind_some, h2', Option.bind_some, Int.toNat_natCast, if_pos h4, h3, Option.bind_some]
theorem right_l1 (a : List Int) (ha : Dig a) (la : a.length ≤ Lim) (n : Nat) (hn : n ≤ a.length) (rest : Bool) (p : Nat) (hp : 0 < p) (hp2 : p ≤ 65536) :
  ∀ j k x (c : Nat), j + n ≤ a.length → Dig x → x.length = a.length - n → c < p → (∀ q, q < j → x.getD q 0 = 0) → 65536 ^ j * val (a.drop (n + j)) = val x * p + 65536 ^ j * c → j + a.length + 3 ≤ k →
   r8_Right.l1 k a (n : Int) rest x (c : Int) (p : Int) (((n + j : Nat) : Int) - 1) = some (digs (val (a.drop n) / p), rest || val (a.drop n) % p != 0) := by
 unfold Lim at *
 intro j
 induction j with
 | zero =>
  intro k x c hj hx hl hc hz hs hk
  obtain ⟨k, rfl⟩ : ∃ k', k = k' + 1 := ⟨k - 1, by omega⟩
  rw [r8_Right.l1, if_neg (by omega), trim_k hx (by omega) (by omega)]
  simp only [Nat.pow_zero, Nat.one_mul, Nat.add_zero] at hs
  have h1 : val (a.drop n) / p = val x := by
   rw [hs, Nat.mul_comm, Nat.mul_add_div hp, Nat.div_eq_of_lt hc, Nat.add_zero]
  have h2 : val (a.drop n) % p = c := by
   rw [hs, Nat.mul_comm, Nat.mul_add_mod, Nat.mod_eq_of_lt hc]
  rw [h1, h2]
  cases rest <;> simp [bne_nat]
 | succ j ih =>
  intro k x c hj hx hl hc hz hs hk
  obtain ⟨k, rfl⟩ : ∃ k', k = k' + 1 := ⟨k - 1, by omega⟩
  obtain ⟨d, hd, hd2⟩ := ha.nat (n + j)
  have b0 : n + j ≤ 9223372036854775807 := by omega
  have b1 : c * 65536 ≤ 9223372036854775807 := by omega
  have b2 : c * 65536 + d ≤ 9223372036854775807 := bound2 c d p hc hp2 hd2
  have hm : (c : Int) * 65536 = ((c * 65536 : Nat) : Int) := mul_nat c
  have e2 : Int.tdiv ((c * 65536 + d : Nat) : Int) (p : Int) = (((c * 65536 + d) / p : Nat) : Int) := tdivp _ _
  have e3 : Int.tmod ((c * 65536 + d : Nat) : Int) (p : Int) = (((c * 65536 + d) % p : Nat) : Int) := tmodp _ _
  have hq : (c * 65536 + d) / p < 65536 := by
   refine Nat.div_lt_of_lt_mul ?_
   have := Nat.mul_le_mul_right 65536 (show c + 1 ≤ p from hc)
   omega
  rw [show ((n + (j + 1) : Nat) : Int) - 1 = ((n + j : Nat) : Int) from by omega, r8_Right.l1, if_pos (by omega), if_pos (by omega), if_pos (by omega), if_neg (by omega), wr_sub b0 (Nat.le_add_right n j), Nat.add_sub_cancel_left, if_pos (by omega), if_pos (by omega), rd_nat, hd, hm, wr_nat b1, wr_add b2, e2, e3, Int.toNat_natCast, wr_nat (n := (c * 65536 + d) / p) (by omega), wr_pred b0]
  refine ih k _ _ (by omega) (hx.set _ (Int.natCast_nonneg _) (Int.ofNat_lt.2 hq)) (by simp [hl]) (Nat.mod_lt _ hp) ?_ ?_ (by omega)
  ·intro q hq2
   have := hz q (by omega)
   rw [List.getD_eq_getElem?_getD] at this ⊢
   rw [List.getElem?_set_ne (by omega)]
   exact this
  ·have h1 := val_set x j (((c * 65536 + d) / p : Nat) : Int) (by omega)
   rw [hz j (by omega), Int.toNat_natCast] at h1
   simp only [Int.toNat_zero, Nat.mul_zero, Nat.add_zero] at h1
   rw [h1, val_drop a (n + j), hd, Int.toNat_natCast]
   rw [Nat.pow_succ, Nat.mul_assoc, Nat.mul_assoc, ← Nat.add_assoc] at hs
   have h3 : c * 65536 + d = p * ((c * 65536 + d) / p) + (c * 65536 + d) % p := (Nat.div_add_mod _ _).symm
   have h4 := congrArg (65536 ^ j * ·) h3
   rw [show n + j + 1 = n + (j + 1) from by omega] at *
   generalize val (a.drop (n + (j + 1))) = B at *
   generalize (c * 65536 + d) / p = q at *
   generalize (c * 65536 + d) % p = r at *
   generalize 65536 ^ j = P at *
   simp only [Nat.mul_add, Nat.add_mul] at h4 hs ⊢
   rw [show P * (c * 65536) = P * (65536 * c) from by rw [Nat.mul_comm c]] at h4
   rw [show P * q * p = P * (p * q) from by rw [Nat.mul_assoc, Nat.mul_comm q]]
   omega
theorem right_l0 (a : List Int) (ha : Dig a) (la : a.length ≤ Lim) (n : Nat) (hn : n ≤ a.length) (s : Nat) :
  ∀ m k (rest : Bool) (j : Nat), j + m = n → m + 2 * a.length + 40 ≤ k → rest = (val (a.take j) != 0) →
   r8_Right.l0 k a (s : Int) (n : Int) rest (j : Int) = some (digs (val (a.drop n) / 2 ^ (s % 16)), (val (a.take n) != 0) || val (a.drop n) % 2 ^ (s % 16) != 0) := by
 intro m
 induction m with
 | zero =>
  intro k rest j hj hk hr
  obtain ⟨k, rfl⟩ : ∃ k', k = k' + 1 := ⟨k - 1, by omega⟩
  have b1 : a.length ≤ 9223372036854775807 := by unfold Lim at *; omega
  have e2 : Int.tmod (s : Int) 16 = ((s % 16 : Nat) : Int) := rfl
  have hpw : bs_Power.f k ((s % 16 : Nat) : Int) = some ((2 ^ (s % 16) : Nat) : Int) := power_l0 (s % 16) (by omega) _ 0 k (Nat.add_zero _) (by omega)
  have hp : 2 ^ (s % 16) ≤ 2 ^ 15 := Nat.pow_le_pow_right (by decide) (by omega)
  rw [r8_Right.l0, if_neg (by omega), wr_sub b1 hn, if_pos (by omega), if_pos (by unfold Lim at *; omega), e2, hpw]
  simp only [Option.bind_some, Int.toNat_natCast]
  have := right_l1 a ha la n hn rest (2 ^ (s % 16)) (Nat.two_pow_pos _) (by omega) (a.length - n) k (List.replicate (a.length - n) 0) 0 (by omega) (dig_zeros _) (by simp) (Nat.two_pow_pos _) (fun q _ => by
   rw [List.getD_eq_getElem?_getD]
   by_cases h : q < a.length - n
   ·rw [List.getElem?_replicate, if_pos h]; rfl
   ·rw [List.getElem?_replicate, if_neg h]; rfl) (by rw [val_drop_nil (by omega), val_zeros]; simp) (by omega)
  rw [show n + (a.length - n) = a.length from by omega] at this
  rw [wr_pred b1]
  rw [hr, show j = n from by omega] at *
  exact this
 | succ m ih =>
  intro k rest j hj hk hr
  obtain ⟨k, rfl⟩ : ∃ k', k = k' + 1 := ⟨k - 1, by omega⟩
  have b1 : j + 1 ≤ 9223372036854775807 := by unfold Lim at *; omega
  rw [r8_Right.l0, if_pos (by omega), wr_succ b1]
  have ht := val_take_succ a j (by omega)
  obtain ⟨d, hd, hd2⟩ := ha.nat j
  rw [hd, Int.toNat_natCast] at ht
  have hP : 0 < 65536 ^ j := Nat.pow_pos (by decide)
  cases rest with
  | true =>
   rw [if_pos rfl]
   refine ih k true (j + 1) (by omega) (by omega) ?_
   have h0 : val (a.take j) ≠ 0 := by simpa using hr.symm
   symm
   simp [ht]
   omega
  | false =>
   rw [if_neg (by decide), if_pos (by omega), if_pos (by omega), rd_nat, hd]
   refine ih k _ (j + 1) (by omega) (by omega) ?_
   have h0 : val (a.take j) = 0 := by simpa using hr.symm
   rw [ht, h0, Nat.zero_add]
   rw [bne_nat, bne_mul _ _ (Nat.pos_iff_ne_zero.1 hP)]
theorem right_ev (a s : Nat) (la : (digs a).length ≤ Lim) (hs : s ≤ 1000000) : Ev (fun k => r8_Right.f k (digs a) (s : Int)) (digs (a / 2 ^ s), a % 2 ^ s != 0) := by
 have b1 : s / 16 ≤ 9223372036854775807 := by omega
 have e1 : Int.tdiv (s : Int) 16 = ((s / 16 : Nat) : Int) := rfl
 refine ⟨3 * (digs a).length + 50, fun k hk => ?_⟩
 show r8_Right.f k (digs a) (s : Int) = _
 unfold r8_Right.f
 rw [e1, wr_nat b1, mn_nat]
 have h := right_l0 (digs a) (dig_digs a) la (min (s / 16) (digs a).length) (Nat.min_le_right _ _) s (min (s / 16) (digs a).length) k false 0 (by omega) (by omega) (by simp [val])
 refine h.trans ?_
 have hsp := val_split (digs a) (min (s / 16) (digs a).length) (Nat.min_le_right _ _)
 have hlt := val_lt ((dig_digs a).take (min (s / 16) (digs a).length))
 rw [List.length_take, Nat.min_eq_left (Nat.min_le_right _ _)] at hlt
 rw [val_digs] at hsp
 have hpw := pow16 s
 by_cases hc : s / 16 ≤ (digs a).length
 ·rw [Nat.min_eq_left hc] at *
  have hP : 0 < 65536 ^ (s / 16) := Nat.pow_pos (by decide)
  have hdiv : val ((digs a).drop (s / 16)) = a / 65536 ^ (s / 16) := by
   conv => rhs; rw [hsp, Nat.add_comm, Nat.mul_add_div hP, Nat.div_eq_of_lt hlt, Nat.add_zero]
  have hmod : val ((digs a).take (s / 16)) = a % 65536 ^ (s / 16) := by
   conv => rhs; rw [hsp, Nat.add_comm, Nat.mul_add_mod, Nat.mod_eq_of_lt hlt]
  have h1 : a / 2 ^ s = val ((digs a).drop (s / 16)) / 2 ^ (s % 16) := by
   rw [hdiv, Nat.div_div_eq_div_mul, ← hpw, Nat.mul_comm]
  have h2 : a % 2 ^ s = val ((digs a).take (s / 16)) + 65536 ^ (s / 16) * (val ((digs a).drop (s / 16)) % 2 ^ (s % 16)) := by
   rw [hdiv, hmod, ← hpw, Nat.mul_comm (2 ^ (s % 16)), Nat.mod_mul]
  rw [h1, h2]
  rw [bne_both _ _ _ (Nat.pos_iff_ne_zero.1 hP)]
 ·rw [Nat.min_eq_right (by omega)] at *
  rw [val_drop_nil (Nat.le_refl _), List.take_length, val_digs]
  rw [List.take_length, val_digs] at hlt
  have hle : 65536 ^ (digs a).length ≤ 2 ^ s := by
   rw [← hpw]
   have h1 : 65536 ^ (digs a).length ≤ 65536 ^ (s / 16) := Nat.pow_le_pow_right (by decide) (by omega)
   have h2 : 1 * 65536 ^ (s / 16) ≤ 2 ^ (s % 16) * 65536 ^ (s / 16) := Nat.mul_le_mul_right _ (Nat.two_pow_pos _)
   omega
  rw [Nat.div_eq_of_lt (by omega : a < 2 ^ s), Nat.mod_eq_of_lt (by omega : a < 2 ^ s)]
  simp
end Go.Proofs.YtmoimcblmmcffaaGreatDoor.N

namespace Go.Proofs.YtmoimcblmmcffaaGreatDoor.N
open Go.RowKit Go.Proofs.YtmoimcblmmcffaaGreatDoorW.PrintWords Go.Proofs.YtmoimcblmmcffaaGreatDoorW.PrintLast Go.Proofs.YtmoimcblmmcffaaGreatDoorW.PrintMore Go.Proofs.YtmoimcblmmcffaaGreatDoor.PN
set_option linter.unusedSimpArgs false
set_option linter.unusedVariables false
theorem log_lt (a : Nat) : a < 2 ^ bits a := by
 unfold bits
 by_cases h : a = 0
 ·subst h; simp
 ·rw [if_neg h]
  exact Nat.lt_log2_self
theorem bits_le {a n : Nat} (h : a < 2 ^ n) : bits a ≤ n := by
 unfold bits
 by_cases h0 : a = 0
 ·rw [if_pos h0]; omega
 ·rw [if_neg h0]
  exact (Nat.log2_lt h0).2 h
theorem bits_len (a : Nat) : bits a ≤ 16 * (digs a).length := by
 refine bits_le ?_
 have := val_lt (dig_digs a)
 rw [val_digs, show (65536 : Nat) = 2 ^ 16 from rfl, ← Nat.pow_mul] at this
 exact this
theorem len_bits {a n : Nat} (h : a < 2 ^ n) : (digs a).length ≤ n / 16 + 1 := by
 refine digs_len (Nat.lt_of_lt_of_le h ?_)
 rw [show (65536 : Nat) = 2 ^ 16 from rfl, ← Nat.pow_mul]
 exact Nat.pow_le_pow_right (by decide) (by omega)
end Go.Proofs.YtmoimcblmmcffaaGreatDoor.N

namespace Go.Proofs.YtmoimcblmmcffaaGreatDoor.B
open Go.RowKit
set_option linter.unusedSimpArgs false
set_option linter.unusedVariables false
def cellOf (w : World) (g i : Nat) : Value := (w.cell? ⟨g, i, none⟩).getD undef
abbrev Own (w : World) (g k : Nat) : Prop := (∀ i, i < k → w.cell? ⟨g, i, none⟩ = some (cellOf w g i)) ∧ (∀ i, w.frozen? ⟨g, i, none⟩ = false) ∧ g < w.heap.size
abbrev ExtN (N : Nat) (w0 W w : World) : Prop := (∀ b o, b < N → w.cell? ⟨b, o, none⟩ = W.cell? ⟨b, o, none⟩) ∧ N ≤ w.heap.size ∧ Below w0.heap.size w0 w
theorem cellOf_eq {w : World} {g i : Nat} {v : Value} (h : w.cell? ⟨g, i, none⟩ = some v) : w.cell? ⟨g, i, none⟩ = some (cellOf w g i) := by
 unfold cellOf; rw [h]; rfl
theorem ExtN.refl {N : Nat} {w0 W : World} (hN : N ≤ W.heap.size) (h : Below w0.heap.size w0 W) : ExtN N w0 W W := ⟨fun _ _ _ => rfl, hN, h⟩
theorem ExtN.set {N : Nat} {w0 W w1 : World} (h : ExtN N w0 W w1) {p : Addr} (hp : N ≤ p.block) (hw : w0.heap.size ≤ p.block) (v : Value) : ExtN N w0 W (w1.setCell p v) := by
 refine ⟨fun b o hlt => ?_, by simpa [World.setCell] using h.2.1, h.2.2.setCell hw v⟩
 have hne : p ≠ ⟨b, o, none⟩ := by
  intro he
  rw [he] at hp
  exact absurd hlt (Nat.not_lt.2 hp)
 exact (World.cell?_setCell_other w1 p ⟨b, o, none⟩ v hne).trans (h.1 b o hlt)
theorem Own.call {w w1 : World} {g k : Nat} (h : Own w g k) (hb : Below w.heap.size w w1) : Own w1 g k :=
 ⟨fun i hi => cellOf_eq (((bcell hb).1 g i h.2.2).trans (h.1 i hi)), fun i => ((bcell hb).2 g i h.2.2).trans (h.2.1 i), Nat.lt_of_lt_of_le h.2.2 hb.size⟩
theorem Own.alloc {w : World} {g k : Nat} (h : Own w g k) (o : Obj) : Own (w.alloc o) g k := h.call (below_alloc0 (Below.refl _ _) o)
theorem Own.set {w : World} {g k : Nat} (h : Own w g k) (p : Addr) (v : Value) : Own (w.setCell p v) g k := by
 refine ⟨fun i hi => ?_, fun i => ?_, ?_⟩
 ·by_cases he : p = ⟨g, i, none⟩
  ·subst he
   exact cellOf_eq (World.cell?_setCell_same _ _ _ (h.1 i hi))
  ·have := World.cell?_setCell_other w _ _ v he
   exact cellOf_eq (this.trans (h.1 i hi))
 ·rw [← h.2.1 i]; simp
 ·simpa [World.setCell] using h.2.2
theorem cell_put {w : World} {g i : Nat} {v u : Value} (h : (w.setCell ⟨g, i, none⟩ v).cell? ⟨g, i, none⟩ = some u) : u = v := by
 cases h0 : w.cell? ⟨g, i, none⟩ with
 | some x => rw [World.cell?_setCell_same _ _ _ h0] at h; exact (Option.some.inj h).symm
 | none =>
  exfalso
  unfold World.cell? at h h0
  unfold World.setCell at h
  simp only [Array.getElem?_modify] at h
  simp only [if_true] at h
  cases hb : w.heap[g]? with
  | none => rw [hb] at h; simp at h
  | some o =>
   rw [hb] at h h0
   cases o <;> simp at h h0
   rw [Array.getElem?_eq_none (by simpa using h0)] at h
   cases h
theorem cell_put_ne {w : World} {g i j : Nat} {v : Value} (h : i ≠ j) : (w.setCell ⟨g, i, none⟩ v).cell? ⟨g, j, none⟩ = w.cell? ⟨g, j, none⟩ :=
 World.cell?_setCell_other _ _ _ _ (by intro e; injection e with _ e _; exact h e)
theorem Own.read4 {w : World} {g n : Nat} {a b c d : Value} (h : Own ((((w.setCell ⟨g, 0, none⟩ a).setCell ⟨g, 1, none⟩ b).setCell ⟨g, 2, none⟩ c).setCell ⟨g, 3, none⟩ d) g (n + 4)) :
  ((((w.setCell ⟨g, 0, none⟩ a).setCell ⟨g, 1, none⟩ b).setCell ⟨g, 2, none⟩ c).setCell ⟨g, 3, none⟩ d).cell? ⟨g, 0, none⟩ = some a ∧ ((((w.setCell ⟨g, 0, none⟩ a).setCell ⟨g, 1, none⟩ b).setCell ⟨g, 2, none⟩ c).setCell ⟨g, 3, none⟩ d).cell? ⟨g, 1, none⟩ = some b ∧
  ((((w.setCell ⟨g, 0, none⟩ a).setCell ⟨g, 1, none⟩ b).setCell ⟨g, 2, none⟩ c).setCell ⟨g, 3, none⟩ d).cell? ⟨g, 2, none⟩ = some c ∧ ((((w.setCell ⟨g, 0, none⟩ a).setCell ⟨g, 1, none⟩ b).setCell ⟨g, 2, none⟩ c).setCell ⟨g, 3, none⟩ d).cell? ⟨g, 3, none⟩ = some d := by
 have e0 := h.1 0 (by omega)
 have e1 := h.1 1 (by omega)
 have e2 := h.1 2 (by omega)
 have e3 := h.1 3 (by omega)
 refine ⟨?_, ?_, ?_, ?_⟩
 ·rw [e0]; rw [cell_put_ne (by decide), cell_put_ne (by decide), cell_put_ne (by decide)] at e0; rw [cell_put e0]
 ·rw [e1]; rw [cell_put_ne (by decide), cell_put_ne (by decide)] at e1; rw [cell_put e1]
 ·rw [e2]; rw [cell_put_ne (by decide)] at e2; rw [cell_put e2]
 ·rw [e3]; rw [cell_put e3]
theorem own_new (w : World) (cs : Array Value) (t : TypeId) : Own (w.alloc (.cells cs t (0, 0))) w.heap.size cs.size :=
 ⟨fun i hi => cellOf_eq (by rw [cell_of_row _ _ i cs t (0, 0) (heap_alloc_new w _), Array.getElem?_eq_getElem hi]), fun i => by
  unfold World.frozen?
  rw [heap_alloc_new w (.cells cs t (0, 0))]
  simp, by simp⟩
abbrev ExO (N : Nat) (w0 W : World) (g k : Nat) (w : World) : Prop := ExtN N w0 W w ∧ Own w g k
theorem ExO.set {N g k : Nat} {w0 W w1 : World} (h : ExO N w0 W g k w1) {p : Addr} (hp : N ≤ p.block) (hw : w0.heap.size ≤ p.block) (v : Value) : ExO N w0 W g k (w1.setCell p v) := ⟨h.1.set hp hw v, h.2.set p v⟩
theorem ExO.put {k n : Nat} {w0 W w1 : World} (h : ExO (w0.heap.size + k) w0 W (w0.heap.size + k) n w1) (j : Nat) (v : Value) : ExO (w0.heap.size + k) w0 W (w0.heap.size + k) n (w1.setCell ⟨w0.heap.size + k, j, none⟩ v) :=
 h.set (Nat.le_refl _) (Nat.le_add_right _ _) v
theorem ExO.end {k n : Nat} {w0 W w1 : World} (h : ExO (w0.heap.size + k) w0 W (w0.heap.size + k) n w1) : Below w0.heap.size w0 w1 := h.1.2.2
end Go.Proofs.YtmoimcblmmcffaaGreatDoor.B

namespace Go.Proofs.YtmoimcblmmcffaaGreatDoor.NC
open Go.RowKit Go.Proofs.YtmoimcblmmcffaaGreatDoor.B Go.Proofs.YtmoimcblmmcffaaGreatDoor.N
open Go.Proofs.YtmoimcblmmcffaaGreatDoorW.PrintWords Go.Proofs.YtmoimcblmmcffaaGreatDoorW.PrintLast Go.Proofs.YtmoimcblmmcffaaGreatDoorW.PrintMore Go.Proofs.YtmoimcblmmcffaaGreatDoor.PN
set_option linter.unusedSimpArgs false
set_option linter.unusedVariables false
def Big (w : World) (A : Option Addr) (n : Nat) : Prop :=
 (digs n).length ≤ 9223372036854775807 ∧ (A = none ∧ n = 0 ∨ ∃ g, A = some ⟨g, 0, none⟩ ∧ g < w.heap.size ∧ ∀ i d, (digs n)[i]? = some d → w.cell? ⟨g, i, none⟩ = some (.int .i64 d))
theorem Big.of_cells {w w1 : World} {A : Option Addr} {n : Nat} (h : Big w A n) (hc : ∀ b o, b < w.heap.size → w1.cell? ⟨b, o, none⟩ = w.cell? ⟨b, o, none⟩) (hs : w.heap.size ≤ w1.heap.size) : Big w1 A n := by
 refine ⟨h.1, h.2.imp id ?_⟩
 rintro ⟨g, e, hg, hr⟩
 exact ⟨g, e, Nat.lt_of_lt_of_le hg hs, fun i d hd => (hc g i hg).trans (hr i d hd)⟩
theorem Big.below {w w1 : World} {A : Option Addr} {n : Nat} (h : Big w A n) (hb : Below w.heap.size w w1) : Big w1 A n := h.of_cells (bcell hb).1 hb.size
theorem Big.ext {w0 W w1 : World} {A : Option Addr} {n : Nat} (h : Big W A n) (he : Ext w0 W w1) : Big w1 A n := h.of_cells he.1 he.2.2.1
theorem Big.alloc {w : World} {A : Option Addr} {n : Nat} (h : Big w A n) (o : Obj) : Big (w.alloc o) A n := h.below (below_alloc0 (Below.refl _ _) o)
theorem Big.c {w : World} {A : Option Addr} {n : Nat} (h : Big w A n) : Kd.C (Kd.int .i64) w A (digs n).length (digs n) := by
 refine ⟨rfl, h.1, fun hp => ?_⟩
 rcases h.2 with ⟨_, h0⟩ | ⟨g, e, hg, hr⟩
 ·subst h0; simp [digs_zero] at hp
 ·refine ⟨_, e, fun j p hj => ⟨[.int .i64 p], rfl, rfl, fun i u hu => ?_⟩⟩
  cases i with
  | zero =>
   have := hr j p hj
   have hu' : u = .int .i64 p := by simpa using hu.symm
   subst hu'
   show w.cell? (Addr.add ⟨g, 0, none⟩ (j * 1 + 0)) = _
   rw [← this]
   unfold Addr.add
   by_cases h0 : j = 0
   ·subst h0; rfl
   ·simp [h0]
  | succ i => simp at hu
theorem Big.of_R {e : Nat} {w : World} {base : Nat} {ok : Nat → Prop} {v : Value} {n : Nat} (h : Kd.R (Kd.int .i64) e w base ok v (digs n)) :
  ∃ A c, v = .slice A (digs n).length c ∧ (digs n).length ≤ c ∧ Big w A n := by
 obtain ⟨A, c, rfl, hc, hC⟩ := Kd.R_reads h
 refine ⟨A, c, rfl, hc, hC.2.1, ?_⟩
 obtain ⟨inner, ho⟩ := Kd.R_own h
 rcases ho.2 with ⟨e1, e2⟩ | ⟨g, cap, cur, e1, hb, hh, r⟩
 ·left
  injection e1 with e1
  exact ⟨e1, digs_nil.1 e2⟩
 ·right
  injection e1 with e1
  subst e1
  refine ⟨g, rfl, ?_, fun i d hd => ?_⟩
  ·exact Nat.lt_of_not_le (fun hle => by rw [Array.getElem?_eq_none hle] at hh; cases hh)
  ·have hp : 0 < (digs n).length := by
    cases hl : digs n with
    | nil => rw [hl] at hd; simp at hd
    | cons => simp
   obtain ⟨ad, ead, hr⟩ := hC.2.2 hp
   injection ead with ead
   subst ead
   obtain ⟨cs, _, hk, hcell⟩ := hr i d hd
   have hk' : cs = [.int .i64 d] := hk
   subst hk'
   have := hcell 0 _ rfl
   rw [← this]
   show _ = w.cell? (Addr.add ⟨g, 0, none⟩ (i * 1 + 0))
   unfold Addr.add
   by_cases h0 : i = 0
   ·subst h0; rfl
   ·simp [h0]
theorem big_lit {w : World} {d : Int} {n t : Nat} (h : digs n = [d]) : Big (w.alloc (.cells #[.int .i64 d] t (0, 0))) (some ⟨w.heap.size, 0, none⟩) n := by
 refine ⟨by rw [h]; simp, .inr ⟨_, rfl, by simp, fun i e he => ?_⟩⟩
 rw [cell_of_row _ _ i #[.int .i64 d] t (0, 0) (heap_alloc_new w _)]
 rw [h] at he
 cases i with
 | zero => simp at he; subst he; rfl
 | succ i => simp at he
def RetBig (n : Nat) (w : World) : Ending → World → Prop := fun e w' => ∃ A c, e = .returned (.slice A (digs n).length c) ∧ (digs n).length ≤ c ∧ Big w' A n ∧ Below w.heap.size w w'
theorem drawn_below {w w' : World} (h : Drawn0 w w') : Below w.heap.size w w' := by
 obtain ⟨n, rfl⟩ := h.out
 exact below_drewN (Below.refl _ _) n
theorem plus_c (w : World) {A0 : Option Addr} {c0 n0 : Nat} {A1 : Option Addr} {c1 n1 : Nat}  (h0 : Big w A0 n0) (k0 : (digs n0).length ≤ c0) (h1 : Big w A1 n1) (k1 : (digs n1).length ≤ c1) (l0 : (digs n0).length ≤ Lim) (l1 : (digs n1).length ≤ Lim) :
  Calls Tryz.prog 77 #[.slice A0 (digs n0).length c0, .slice A1 (digs n1).length c1] w (RetBig (n0 + n1) w) := by
 obtain ⟨k, hk⟩ := Ev.some (plus_ev n0 n1 l0 l1)
 refine (r8_Plus.calls k A0 c0 (digs n0) A1 c1 (digs n1)  _ w h0.c k0 h1.c k1 hk).mono ?_
 rintro e w' ⟨v, rfl, hR, hb⟩
 obtain ⟨A, c, rfl, hc, hB⟩ := Big.of_R hR
 exact ⟨A, c, rfl, hc, hB, hb⟩
theorem minus_c (w : World) {A0 : Option Addr} {c0 n0 : Nat} {A1 : Option Addr} {c1 n1 : Nat}  (h0 : Big w A0 n0) (k0 : (digs n0).length ≤ c0) (h1 : Big w A1 n1) (k1 : (digs n1).length ≤ c1) (l0 : (digs n0).length ≤ Lim) (hle : n1 ≤ n0) :
  Calls Tryz.prog 79 #[.slice A0 (digs n0).length c0, .slice A1 (digs n1).length c1] w (RetBig (n0 - n1) w) := by
 obtain ⟨k, hk⟩ := Ev.some (minus_ev n0 n1 l0 hle)
 refine (r8_Minus.calls k A0 c0 (digs n0) A1 c1 (digs n1)  _ w h0.c k0 h1.c k1 hk).mono ?_
 rintro e w' ⟨v, rfl, hR, hb⟩
 obtain ⟨A, c, rfl, hc, hB⟩ := Big.of_R hR
 exact ⟨A, c, rfl, hc, hB, hb⟩
theorem left_c (w : World) {A0 : Option Addr} {c0 n0 : Nat} {s : Nat} (h0 : Big w A0 n0) (k0 : (digs n0).length ≤ c0) (l0 : (digs n0).length ≤ 20000) (l1 : s ≤ 100000) :
  Calls Tryz.prog 76 #[.slice A0 (digs n0).length c0, .int .i64 (s : Int)] w (RetBig (n0 * 2 ^ s) w) := by
 obtain ⟨k, hk⟩ := Ev.some (left_ev n0 s l0 l1)
 refine (r8_Left.calls k A0 c0 (digs n0) (s : Int) _ w h0.c k0 hk).mono ?_
 rintro e w' ⟨v, rfl, hR, hb⟩
 obtain ⟨A, c, rfl, hc, hB⟩ := Big.of_R hR
 exact ⟨A, c, rfl, hc, hB, hb⟩
theorem nat_c (w : World) {n : Nat} (h : n ≤ 9223372036854775807) : Calls Tryz.prog 44 #[.int .i64 (n : Int)] w (RetBig n w) := by
 obtain ⟨k, hk⟩ := Ev.some (nat_ev n h)
 refine (r8_Nat.calls k (n : Int) _ w hk).mono ?_
 rintro e w' ⟨v, rfl, hR, hb⟩
 obtain ⟨A, c, rfl, hc, hB⟩ := Big.of_R hR
 exact ⟨A, c, rfl, hc, hB, hb⟩
theorem right_c (w : World) {A0 : Option Addr} {c0 n0 : Nat} {s : Nat} (h0 : Big w A0 n0) (k0 : (digs n0).length ≤ c0) (l0 : (digs n0).length ≤ Lim) (l1 : s ≤ 1000000) :
  Calls Tryz.prog 78 #[.slice A0 (digs n0).length c0, .int .i64 (s : Int)] w fun e w' => ∃ A c, e = .returned (.tuple #[.slice A (digs (n0 / 2 ^ s)).length c, .bool (n0 % 2 ^ s != 0)]) ∧ (digs (n0 / 2 ^ s)).length ≤ c ∧ Big w' A (n0 / 2 ^ s) ∧ Below w.heap.size w w' := by
 obtain ⟨k, hk⟩ := Ev.some (right_ev n0 s l0 l1)
 refine (r8_Right.calls k A0 c0 (digs n0) (s : Int) _ _ w h0.c k0 hk).mono ?_
 rintro e w' ⟨v, rfl, hR, hb⟩
 obtain ⟨A, c, rfl, hc, hB⟩ := Big.of_R hR
 exact ⟨A, c, rfl, hc, hB, hb⟩
theorem order_c (w : World) {A0 A1 : Option Addr} {c0 n0 c1 n1 : Nat} (h0 : Big w A0 n0) (k0 : (digs n0).length ≤ c0) (h1 : Big w A1 n1) (k1 : (digs n1).length ≤ c1) (l0 : (digs n0).length ≤ Lim) :
  Calls Tryz.prog 80 #[.slice A0 (digs n0).length c0, .slice A1 (digs n1).length c1] w (Ret (.int .i64 (ordN n0 n1)) w) := by
 obtain ⟨k, hk⟩ := Ev.some (order_ev n0 n1 (by unfold Lim at l0; omega))
 refine (r8_Order.calls k A0 c0 (digs n0) A1 c1 (digs n1) _ w h0.c k0 h1.c k1 hk).mono ?_
 rintro e w' ⟨rfl, hd⟩
 exact ⟨rfl, drawn_below hd⟩
theorem length_c (w : World) {A0 : Option Addr} {c0 n0 : Nat} (h0 : Big w A0 n0) (k0 : (digs n0).length ≤ c0) (l0 : (digs n0).length ≤ Lim) :
  Calls Tryz.prog 52 #[.slice A0 (digs n0).length c0] w (Ret (.int .i64 (N.bits n0 : Int)) w) := by
 obtain ⟨k, hk⟩ := Ev.some (length_ev n0 l0)
 refine (r8_Length.calls k A0 c0 (digs n0) _ w h0.c k0 hk).mono ?_
 rintro e w' ⟨rfl, hd⟩
 exact ⟨rfl, drawn_below hd⟩
theorem int_c (w : World) {A0 : Option Addr} {c0 n0 : Nat} (h0 : Big w A0 n0) (k0 : (digs n0).length ≤ c0) (l0 : n0 ≤ 9223372036854775807) :
  Calls Tryz.prog 53 #[.slice A0 (digs n0).length c0] w (Ret (.int .i64 (n0 : Int)) w) := by
 obtain ⟨k, hk⟩ := Ev.some (int_ev n0 l0)
 refine (r8_Int.calls k A0 c0 (digs n0) _ w h0.c k0 hk).mono ?_
 rintro e w' ⟨rfl, hd⟩
 exact ⟨rfl, drawn_below hd⟩
theorem digit0 (n : Nat) : (digs n).getD 0 0 = ((n % 65536 : Nat) : Int) := by
 by_cases h : n = 0
 ·subst h; simp [digs_zero]
 ·rw [digs_pos h]; rfl
theorem digit_c (w : World) {A0 : Option Addr} {c0 n0 : Nat} (h0 : Big w A0 n0) (k0 : (digs n0).length ≤ c0) :
  Calls Tryz.prog 81 #[.slice A0 (digs n0).length c0, .int .i64 0] w (Ret (.int .i64 ((n0 % 65536 : Nat) : Int)) w) := by
 have hk := digit_f (digs n0) 0
 rw [digit0] at hk
 refine (r8_digit.calls A0 c0 (digs n0) _ _ w h0.c k0 hk).mono ?_
 rintro e w' ⟨rfl, hd⟩
 exact ⟨rfl, drawn_below hd⟩
theorem power_c (w : World) {n : Nat} (h : n ≤ 62) : Calls Tryz.prog 72 #[.int .i64 (n : Int)] w (Ret (.int .i64 ((2 ^ n : Nat) : Int)) w) := by
 obtain ⟨k, hk⟩ := Ev.some (power_ev n h)
 refine (bs_Power.calls k _ _ w hk).mono ?_
 rintro e w' ⟨rfl, hd⟩
 exact ⟨rfl, drawn_below hd⟩
end Go.Proofs.YtmoimcblmmcffaaGreatDoor.NC

namespace Go.Proofs.YtmoimcblmmcffaaGreatDoor.NC
open Go.RowKit Go.Proofs.YtmoimcblmmcffaaGreatDoor.B
set_option linter.unusedSimpArgs false
set_option linter.unusedVariables false
def fmtV : Bool → Value
 | true => .agg #[.int .i64 24, .int .i64 8, .int .i64 (-149), .int .i64 104]
 | false => .agg #[.int .i64 53, .int .i64 11, .int .i64 (-1074), .int .i64 971]
theorem formatOf_c (s : Bool) (w : World) : Calls Tryz.prog 71 #[.int .i64 (tv s)] w (Ret (fmtV s) w) := by
 cases s
 ·show Calls Tryz.prog 71 #[.int .i64 2] w _
  go_enter Tryz.func71, Tryz.ntmps71
  go_wp2
  exact bodyPost_ret (v := fmtV false) (by simp [results, Tryz.results71, go_sem, fmtV]) rfl ⟨rfl, below_end⟩
 ·show Calls Tryz.prog 71 #[.int .i64 1] w _
  go_enter Tryz.func71, Tryz.ntmps71
  go_wp2
  exact bodyPost_ret (v := fmtV true) (by simp [results, Tryz.results71, go_sem, fmtV]) rfl ⟨rfl, below_end⟩
theorem nanR_c (s : Bool) (w : World) : Calls Tryz.prog 38 #[.int .i64 (tv s)] w (Ret (.int .u64 (nanV s)) w) := by
 cases s
 ·show Calls Tryz.prog 38 #[.int .i64 2] w _
  go_enter Tryz.func38, Tryz.ntmps38
  go_wp2
  go_ret
  exact ⟨rfl, below_end⟩
 ·show Calls Tryz.prog 38 #[.int .i64 1] w _
  go_enter Tryz.func38, Tryz.ntmps38
  go_wp2
  go_ret
  exact ⟨rfl, below_end⟩
end Go.Proofs.YtmoimcblmmcffaaGreatDoor.NC

namespace Go.Proofs.YtmoimcblmmcffaaGreatDoor.NC
open Go.RowKit Go.Proofs.YtmoimcblmmcffaaGreatDoor.B
set_option linter.unusedSimpArgs false
set_option linter.unusedVariables false
theorem hide_res {P : Program} {c : Code} {Q : Exit → Act → World → Prop} {a : Act} {w w1 : World} {cs cs' : Array Value} {t t' : TypeId}
  (hb : Below (w.alloc (.cells cs t (0, 0))).heap.size (w.alloc (.cells cs t (0, 0))) w1)
  (h : ∀ W, (∀ i, W.cell? ⟨w1.heap.size, i, none⟩ = cs'[i]?) → w1.heap.size < W.heap.size → Own W w.heap.size cs.size → Ext w W W → c.wp P Q a W) :
  c.wp P Q a (w1.alloc (.cells cs' t' (0, 0))) := by
 have e1 : (w.alloc (.cells cs t (0, 0))).heap.size = w.heap.size + 1 := by simp
 refine h _ (fun i => ?_) (by simp) ?_ ?_
 ·rw [cell_of_row _ _ i cs' t' (0, 0) (heap_alloc_new w1 _)]
 ·exact ((own_new w cs t).call hb).alloc _
 ·refine Ext.refl ?_
  exact below_alloc0 ((below_alloc0 (Below.refl _ _) _).trans (hb.mono (by rw [e1]; omega))) _
theorem Own.ext {w0 W w1 : World} {g k : Nat} (h : Own W g k) (he : Ext w0 W w1) : Own w1 g k :=
 ⟨fun i hi => cellOf_eq ((he.1 g i h.2.2).trans (h.1 i hi)), fun i => (he.2.1 g i h.2.2).trans (h.2.1 i), Nat.lt_of_lt_of_le h.2.2 he.2.2.1⟩
theorem fin4 {w0 W w1 : World} (ho : Own W w0.heap.size 4) (he : Ext w0 W w1) (a b c d : Value) :
  ∃ w', w' = ((((w1.setCell ⟨w0.heap.size, 0, none⟩ a).setCell ⟨w0.heap.size, 1, none⟩ b).setCell ⟨w0.heap.size, 2, none⟩ c).setCell ⟨w0.heap.size, 3, none⟩ d) ∧ w'.cell? ⟨w0.heap.size, 0, none⟩ = some a ∧ w'.cell? ⟨w0.heap.size, 1, none⟩ = some b ∧ w'.cell? ⟨w0.heap.size, 2, none⟩ = some c ∧ w'.cell? ⟨w0.heap.size, 3, none⟩ = some d ∧ Below w0.heap.size w0 w' := by
 have h1 := Own.ext ho he
 have h2 : ExO (w0.heap.size + 0) w0 w1 (w0.heap.size + 0) 4 w1 := ⟨ExtN.refl he.2.2.2.size he.2.2.2, h1⟩
 have h3 := (((h2.put 0 a).put 1 b).put 2 c).put 3 d
 obtain ⟨e0, e1, e2, e3⟩ := Own.read4 (n := 0) h3.2
 exact ⟨_, rfl, e0, e1, e2, e3, h3.end⟩
structure PP where
 kind : Int
 neg : Bool
 sig : Nat
 exp : Int
def PP.v (p : PP) : Value := .agg #[.int .i64 p.kind, .bool p.neg, .int .i64 (p.sig : Int), .int .i64 p.exp]
def lowN : Bool → Nat
 | true => 8388608
 | false => 4503599627370496
def fieldN : Bool → Nat
 | true => 256
 | false => 2048
def leastN : Bool → Int
 | true => -149
 | false => -1074
def partsOf (s : Bool) (f r : Nat) (neg : Bool) : PP :=
 if f + 1 = fieldN s then (if r = 0 then ⟨2, neg, 0, 0⟩ else ⟨3, false, 0, 0⟩)
 else if f = 0 then (if r = 0 then ⟨0, neg, 0, 0⟩ else ⟨1, neg, r, leastN s⟩)
 else ⟨1, neg, r + lowN s, (f : Int) - 1 + leastN s⟩
def partsR (s : Bool) (a : Nat) : PP := partsOf s (a / lowN s % fieldN s) (a % lowN s) (decide (a / lowN s / fieldN s = 1))
theorem kuwrap {n : Nat} (h : n < 18446744073709551616) : IntKind.u64.wrap (n : Int) = (n : Int) := by
 unfold IntKind.wrap
 simp [IntKind.signed, IntKind.bits]
 omega
theorem parts_leaf {s : Bool} {f r : Nat} {neg : Bool} {R : PP} (h : partsOf s f r neg = R) : (f + 1 = fieldN s ∧ r = 0 ∧ R = ⟨2, neg, 0, 0⟩) ∨ (f + 1 = fieldN s ∧ r ≠ 0 ∧ R = ⟨3, false, 0, 0⟩) ∨ (f + 1 ≠ fieldN s ∧ f = 0 ∧ r = 0 ∧ R = ⟨0, neg, 0, 0⟩) ∨ (f + 1 ≠ fieldN s ∧ f = 0 ∧ r ≠ 0 ∧ R = ⟨1, neg, r, leastN s⟩) ∨ (f + 1 ≠ fieldN s ∧ f ≠ 0 ∧ R = ⟨1, neg, r + lowN s, (f : Int) - 1 + leastN s⟩) := by
 subst h
 unfold partsOf
 by_cases h1 : f + 1 = fieldN s
 ·by_cases h2 : r = 0 <;> simp [h1, h2]
 ·by_cases h2 : f = 0
  ·by_cases h3 : r = 0 <;> simp_all
  ·simp [h1, h2]
set_option maxHeartbeats 8000000 in
theorem parts_c (s : Bool) (a : Nat) (w : World) (ha : (a : Int) < topV s) : Calls Tryz.prog 37 #[.int .i64 (tv s), .int .u64 (a : Int)] w (Ret (partsR s a).v w) := by
 have c1 := formatOf_c s
 have c2 := fun w => power_c (n := 8) w (by decide)
 have c3 := fun w => power_c (n := 11) w (by decide)
 obtain ⟨R, hR⟩ : ∃ R, partsR s a = R := ⟨_, rfl⟩
 rw [hR]
 cases s
 ·unfold fmtV at c1
  show Calls Tryz.prog 37 #[.int .i64 2, .int .u64 (a : Int)] w _
  replace c1 : ∀ w, Calls Tryz.prog 71 #[.int .i64 2] w _ := c1
  replace c3 : ∀ w, Calls Tryz.prog 72 #[.int .i64 11] w (Ret (.int .i64 2048) w) := c3
  go_enter Tryz.func37, Tryz.ntmps37
  go_upto_region 2 with (go_at_call 71; refine (c1 _).mono ?_; rintro e w1 ⟨rfl, hb1⟩)
  refine hide_res hb1 (fun W kf hs ho HE => ?_)
  clear hb1 c1
  generalize w1.heap.size = g at *
  go_upto_region 4 with (fail)
  go_region
  go_upto_region 5 with (fail)
  go_region
  go_upto_region 6 with (fail)
  have h1 : IntKind.u64.wrap ((a : Int) / 4503599627370496) = ((a / 4503599627370496 : Nat) : Int) := by
   have : a < 18446744073709551616 := by have : (a : Int) < 18446744073709551616 := ha; omega
   exact kuwrap (n := a / 4503599627370496) (by omega)
  have h2 : wrap64 (((a / 4503599627370496 : Nat) : Int).tmod 2048) = ((a / 4503599627370496 % 2048 : Nat) : Int) := N.wr_nat (n := a / 4503599627370496 % 2048) (by omega)
  have h3 : (a : Int) % 4503599627370496 = ((a % 4503599627370496 : Nat) : Int) := rfl
  have h4 : (((a / 4503599627370496 : Nat) : Int) / 2048 == 1) = decide (a / 4503599627370496 / 2048 = 1) := by
   rw [Bool.eq_iff_iff]; simp; omega
  have hf : a / 4503599627370496 % 2048 < 2048 := Nat.mod_lt _ (by decide)
  have hr : a % 4503599627370496 < 4503599627370496 := Nat.mod_lt _ (by decide)
  rw [h1, h2, h3, h4]
  clear h1 h2 h3 h4 ha
  replace hR : partsOf false (a / 4503599627370496 % 2048) (a % 4503599627370496) (decide (a / 4503599627370496 / 2048 = 1)) = R := hR
  generalize a / 4503599627370496 % 2048 = f at *
  generalize a % 4503599627370496 = r at *
  generalize decide (a / 4503599627370496 / 2048 = 1) = neg at *
  have hL := parts_leaf hR
  clear hR
  simp only [fieldN, lowN, leastN] at hL
  have HE2 : Ext w W W.drew.drew := HE.drew.drew
  have kf2 : ∀ i, W.drew.drew.cell? ⟨g, i, none⟩ = _ := kf
  generalize W.drew.drew = W2 at *
  rcases hL with ⟨hf1, rfl, rfl⟩ | ⟨hf1, hr1, rfl⟩ | ⟨hf1, rfl, rfl, rfl⟩ | ⟨hf1, rfl, hr1, rfl⟩ | ⟨hf1, hf2, rfl⟩
  ·obtain rfl : f = 2047 := by omega
   go_wp2_with (go_at_call 72; refine (c3 _).mono ?_; rintro e w1 ⟨rfl, hb1⟩; have HE1 := Ext.next (w0 := w) (W := W) hb1)
   obtain ⟨w', hw', e0, e1, e2, e3, hb⟩ := fin4 ho HE1 _ _ _ _
   rw [← hw']
   exact bodyPost_ret (v := PP.v ⟨2, neg, 0, 0⟩) (by simp [results, Tryz.results37, go_sem, e0, e1, e2, e3, PP.v]) rfl ⟨rfl, hb⟩
  ·obtain rfl : f = 2047 := by omega
   have hr2 : ((r : Int) != 0) = true := by simp [hr1]
   have hr3 : (r : Int) ≠ 0 := by omega
   go_wp2_with (go_at_call 72; refine (c3 _).mono ?_; rintro e w1 ⟨rfl, hb1⟩; have HE1 := Ext.next (w0 := w) (W := W) hb1)
   obtain ⟨w', hw', e0, e1, e2, e3, hb⟩ := fin4 ho HE1 _ _ _ _
   rw [← hw']
   exact bodyPost_ret (v := PP.v ⟨3, false, 0, 0⟩) (by simp [results, Tryz.results37, go_sem, e0, e1, e2, e3, PP.v]) rfl ⟨rfl, hb⟩
  ·go_wp2_with (go_at_call 72; refine (c3 _).mono ?_; rintro e w1 ⟨rfl, hb1⟩; have HE1 := Ext.next (w0 := w) (W := W) hb1)
   obtain ⟨w', hw', e0, e1, e2, e3, hb⟩ := fin4 ho HE1 _ _ _ _
   rw [← hw']
   exact bodyPost_ret (v := PP.v ⟨0, neg, 0, 0⟩) (by simp [results, Tryz.results37, go_sem, e0, e1, e2, e3, PP.v]) rfl ⟨rfl, hb⟩
  ·have hr2 : ((r : Int) == 0) = false := by simp [hr1]
   have hr3 : (r : Int) ≠ 0 := by omega
   go_wp2_with (go_at_call 72; refine (c3 _).mono ?_; rintro e w1 ⟨rfl, hb1⟩; have HE1 := Ext.next (w0 := w) (W := W) hb1)
   obtain ⟨w', hw', e0, e1, e2, e3, hb⟩ := fin4 ho HE1 _ _ _ _
   rw [← hw']
   exact bodyPost_ret (v := PP.v ⟨1, neg, r, -1074⟩) (by simp [results, Tryz.results37, go_sem, e0, e1, e2, e3, PP.v]) rfl ⟨rfl, hb⟩
  ·have hf3 : (f : Int) ≠ 2047 := by omega
   have hf4 : (f : Int) ≠ 0 := by omega
   have b1 : wrap64 ((r : Int) + 4503599627370496) = ((r + 4503599627370496 : Nat) : Int) := N.wr (by omega) (by omega)
   have b2 : wrap64 ((f : Int) - 1) = (f : Int) - 1 := N.wr (by omega) (by omega)
   have b3 : wrap64 ((f : Int) - 1 + (-1074)) = (f : Int) - 1 + (-1074) := N.wr (by omega) (by omega)
   go_wp2_with (go_at_call 72; refine (c3 _).mono ?_; rintro e w1 ⟨rfl, hb1⟩; have HE1 := Ext.next (w0 := w) (W := W) hb1)
   obtain ⟨w', hw', e0, e1, e2, e3, hb⟩ := fin4 ho HE1 _ _ _ _
   rw [← hw']
   exact bodyPost_ret (v := PP.v ⟨1, neg, r + 4503599627370496, (f : Int) - 1 + (-1074)⟩) (by simp [results, Tryz.results37, go_sem, e0, e1, e2, e3, PP.v]) rfl ⟨rfl, hb⟩
 ·unfold fmtV at c1
  show Calls Tryz.prog 37 #[.int .i64 1, .int .u64 (a : Int)] w _
  replace c1 : ∀ w, Calls Tryz.prog 71 #[.int .i64 1] w _ := c1
  replace c2 : ∀ w, Calls Tryz.prog 72 #[.int .i64 8] w (Ret (.int .i64 256) w) := c2
  go_enter Tryz.func37, Tryz.ntmps37
  go_upto_region 2 with (go_at_call 71; refine (c1 _).mono ?_; rintro e w1 ⟨rfl, hb1⟩)
  refine hide_res hb1 (fun W kf hs ho HE => ?_)
  clear hb1 c1
  generalize w1.heap.size = g at *
  go_upto_region 4 with (fail)
  go_region
  go_upto_region 5 with (fail)
  go_region
  go_upto_region 6 with (fail)
  have h1 : IntKind.u64.wrap ((a : Int) / 8388608) = ((a / 8388608 : Nat) : Int) := by
   have : a < 18446744073709551616 := by have : (a : Int) < 4294967296 := ha; omega
   exact kuwrap (n := a / 8388608) (by omega)
  have h2 : wrap64 (((a / 8388608 : Nat) : Int).tmod 256) = ((a / 8388608 % 256 : Nat) : Int) := N.wr_nat (n := a / 8388608 % 256) (by omega)
  have h3 : (a : Int) % 8388608 = ((a % 8388608 : Nat) : Int) := rfl
  have h4 : (((a / 8388608 : Nat) : Int) / 256 == 1) = decide (a / 8388608 / 256 = 1) := by
   rw [Bool.eq_iff_iff]; simp; omega
  have hf : a / 8388608 % 256 < 256 := Nat.mod_lt _ (by decide)
  have hr : a % 8388608 < 8388608 := Nat.mod_lt _ (by decide)
  rw [h1, h2, h3, h4]
  clear h1 h2 h3 h4 ha
  replace hR : partsOf true (a / 8388608 % 256) (a % 8388608) (decide (a / 8388608 / 256 = 1)) = R := hR
  generalize a / 8388608 % 256 = f at *
  generalize a % 8388608 = r at *
  generalize decide (a / 8388608 / 256 = 1) = neg at *
  have hL := parts_leaf hR
  clear hR
  simp only [fieldN, lowN, leastN] at hL
  have HE2 : Ext w W W.drew.drew := HE.drew.drew
  have kf2 : ∀ i, W.drew.drew.cell? ⟨g, i, none⟩ = _ := kf
  generalize W.drew.drew = W2 at *
  rcases hL with ⟨hf1, rfl, rfl⟩ | ⟨hf1, hr1, rfl⟩ | ⟨hf1, rfl, rfl, rfl⟩ | ⟨hf1, rfl, hr1, rfl⟩ | ⟨hf1, hf2, rfl⟩
  ·obtain rfl : f = 255 := by omega
   go_wp2_with (go_at_call 72; refine (c2 _).mono ?_; rintro e w1 ⟨rfl, hb1⟩; have HE1 := Ext.next (w0 := w) (W := W) hb1)
   obtain ⟨w', hw', e0, e1, e2, e3, hb⟩ := fin4 ho HE1 _ _ _ _
   rw [← hw']
   exact bodyPost_ret (v := PP.v ⟨2, neg, 0, 0⟩) (by simp [results, Tryz.results37, go_sem, e0, e1, e2, e3, PP.v]) rfl ⟨rfl, hb⟩
  ·obtain rfl : f = 255 := by omega
   have hr2 : ((r : Int) != 0) = true := by simp [hr1]
   have hr3 : (r : Int) ≠ 0 := by omega
   go_wp2_with (go_at_call 72; refine (c2 _).mono ?_; rintro e w1 ⟨rfl, hb1⟩; have HE1 := Ext.next (w0 := w) (W := W) hb1)
   obtain ⟨w', hw', e0, e1, e2, e3, hb⟩ := fin4 ho HE1 _ _ _ _
   rw [← hw']
   exact bodyPost_ret (v := PP.v ⟨3, false, 0, 0⟩) (by simp [results, Tryz.results37, go_sem, e0, e1, e2, e3, PP.v]) rfl ⟨rfl, hb⟩
  ·go_wp2_with (go_at_call 72; refine (c2 _).mono ?_; rintro e w1 ⟨rfl, hb1⟩; have HE1 := Ext.next (w0 := w) (W := W) hb1)
   obtain ⟨w', hw', e0, e1, e2, e3, hb⟩ := fin4 ho HE1 _ _ _ _
   rw [← hw']
   exact bodyPost_ret (v := PP.v ⟨0, neg, 0, 0⟩) (by simp [results, Tryz.results37, go_sem, e0, e1, e2, e3, PP.v]) rfl ⟨rfl, hb⟩
  ·have hr2 : ((r : Int) == 0) = false := by simp [hr1]
   have hr3 : (r : Int) ≠ 0 := by omega
   go_wp2_with (go_at_call 72; refine (c2 _).mono ?_; rintro e w1 ⟨rfl, hb1⟩; have HE1 := Ext.next (w0 := w) (W := W) hb1)
   obtain ⟨w', hw', e0, e1, e2, e3, hb⟩ := fin4 ho HE1 _ _ _ _
   rw [← hw']
   exact bodyPost_ret (v := PP.v ⟨1, neg, r, -149⟩) (by simp [results, Tryz.results37, go_sem, e0, e1, e2, e3, PP.v]) rfl ⟨rfl, hb⟩
  ·have hf3 : (f : Int) ≠ 255 := by omega
   have hf4 : (f : Int) ≠ 0 := by omega
   have b1 : wrap64 ((r : Int) + 8388608) = ((r + 8388608 : Nat) : Int) := N.wr (by omega) (by omega)
   have b2 : wrap64 ((f : Int) - 1) = (f : Int) - 1 := N.wr (by omega) (by omega)
   have b3 : wrap64 ((f : Int) - 1 + (-149)) = (f : Int) - 1 + (-149) := N.wr (by omega) (by omega)
   go_wp2_with (go_at_call 72; refine (c2 _).mono ?_; rintro e w1 ⟨rfl, hb1⟩; have HE1 := Ext.next (w0 := w) (W := W) hb1)
   obtain ⟨w', hw', e0, e1, e2, e3, hb⟩ := fin4 ho HE1 _ _ _ _
   rw [← hw']
   exact bodyPost_ret (v := PP.v ⟨1, neg, r + 8388608, (f : Int) - 1 + (-149)⟩) (by simp [results, Tryz.results37, go_sem, e0, e1, e2, e3, PP.v]) rfl ⟨rfl, hb⟩
end Go.Proofs.YtmoimcblmmcffaaGreatDoor.NC

namespace Go.Proofs.YtmoimcblmmcffaaGreatDoor.NC
open Go.RowKit Go.Proofs.YtmoimcblmmcffaaGreatDoor.B
set_option linter.unusedSimpArgs false
set_option linter.unusedVariables false
theorem hide_arg {P : Program} {c : Code} {Q : Exit → Act → World → Prop} {a : Act} {w w1 : World} {cs cs' : Array Value} {t t' : TypeId}
  (hb : Below (w.alloc (.cells cs t (0, 0))).heap.size (w.alloc (.cells cs t (0, 0))) w1)
  (h : ∀ W, (∀ i, W.cell? ⟨w.heap.size, i, none⟩ = cs[i]?) → (∀ i, W.cell? ⟨w1.heap.size, i, none⟩ = cs'[i]?) → w.heap.size < W.heap.size → w1.heap.size < W.heap.size → Ext w W W → c.wp P Q a W) :
  c.wp P Q a (w1.alloc (.cells cs' t' (0, 0))) := by
 have e1 : (w.alloc (.cells cs t (0, 0))).heap.size = w.heap.size + 1 := by simp
 have e2 : w.heap.size + 1 ≤ w1.heap.size := by have := hb.size; rw [e1] at this; exact this
 refine h _ (fun i => ?_) (fun i => ?_) (by simp; omega) (by simp) ?_
 ·have h1 := (bcell hb).1 w.heap.size i (by rw [e1]; omega)
  have h2 := cell_of_row (w.alloc (.cells cs t (0, 0))) _ i cs t (0, 0) (heap_alloc_new w _)
  rw [h2] at h1
  rw [← h1]
  exact (bcell (Below.refl w1.heap.size w1 |> fun hb => below_alloc0 hb _)).1 w.heap.size i (by omega)
 ·rw [cell_of_row _ _ i cs' t' (0, 0) (heap_alloc_new w1 _)]
 ·refine Ext.refl ?_
  exact below_alloc0 ((below_alloc0 (Below.refl _ _) _).trans (hb.mono (by rw [e1]; omega))) _
def mostN : Bool → Int
 | true => 104
 | false => 971
def signN : Bool → Nat
 | true => 2147483648
 | false => 9223372036854775808
def nanN : Bool → Nat
 | true => 2143289344
 | false => 9221120237041090560
def PP.ok (s : Bool) (p : PP) : Prop := p.kind = 0 ∨ p.kind = 2 ∨ p.kind = 3 ∨ p.kind = 1 ∧ p.sig < 2 * lowN s ∧ (lowN s ≤ p.sig → leastN s ≤ p.exp ∧ p.exp ≤ mostN s)
def bitsR (s : Bool) (p : PP) : Nat :=
 if p.kind = 3 then nanN s else (if p.neg then signN s else 0) + (if p.kind = 0 then 0 else if p.kind = 2 then lowN s * (fieldN s - 1) else if p.sig < lowN s then p.sig else lowN s * (p.exp - leastN s + 1).toNat + p.sig - lowN s)
theorem ret_eq {x y : Int} (h : x = y) : Ending.returned (.int .u64 x) = .returned (.int .u64 y) := by rw [h]
def sgnN (s neg : Bool) : Nat := if neg then signN s else 0
theorem bits_leaf {s : Bool} {p : PP} (hp : p.ok s) : (p.kind = 0 ∧ bitsR s p = sgnN s p.neg) ∨ (p.kind = 2 ∧ bitsR s p = sgnN s p.neg + lowN s * (fieldN s - 1)) ∨ (p.kind = 3 ∧ bitsR s p = nanN s) ∨ (p.kind = 1 ∧ p.sig < lowN s ∧ bitsR s p = sgnN s p.neg + p.sig) ∨
  (p.kind = 1 ∧ lowN s ≤ p.sig ∧ p.sig < 2 * lowN s ∧ ∃ q : Nat, p.exp = (q : Int) + leastN s ∧ (q : Int) ≤ mostN s - leastN s ∧ bitsR s p = sgnN s p.neg + (lowN s * (q + 1) + p.sig - lowN s)) := by
 unfold bitsR sgnN
 rcases hp with h | h | h | ⟨h, h1, h2⟩
 ·left; simp [h]
 ·right; left; simp [h]
 ·right; right; left; simp [h]
 ·right; right; right
  by_cases hlt : p.sig < lowN s
  ·left; simp [h, hlt]
  ·right
   obtain ⟨h3, h4⟩ := h2 (by omega)
   refine ⟨h, by omega, h1, (p.exp - leastN s).toNat, by omega, by omega, ?_⟩
   simp only [h, hlt, if_false]
   rw [show (p.exp - leastN s + 1).toNat = (p.exp - leastN s).toNat + 1 from by omega]
   simp
set_option maxHeartbeats 8000000 in
theorem bits_c (s : Bool) (p : PP) (w : World) (hp : p.ok s) : Calls Tryz.prog 42 #[.int .i64 (tv s), p.v] w (Ret (.int .u64 (bitsR s p : Int)) w) := by
 have c1 := formatOf_c s
 have c2 := nanR_c s
 have hL := bits_leaf hp
 clear hp
 obtain ⟨R, hR⟩ : ∃ R : Nat, bitsR s p = R := ⟨_, rfl⟩
 rw [hR]
 rw [hR] at hL
 clear hR
 obtain ⟨kind, neg, sig, exp⟩ := p
 unfold PP.v
 simp only at hL ⊢
 cases s
 ·unfold fmtV at c1
  replace c1 : ∀ w, Calls Tryz.prog 71 #[.int .i64 2] w _ := c1
  replace c2 : ∀ w, Calls Tryz.prog 38 #[.int .i64 2] w (Ret (.int .u64 9221120237041090560) w) := c2
  simp only [lowN, fieldN, leastN, mostN, signN, nanN, sgnN] at hL
  show Calls Tryz.prog 42 #[.int .i64 2, _] w _
  go_enter Tryz.func42, Tryz.ntmps42
  go_upto_region 2 with (go_at_call 71; refine (c1 _).mono ?_; rintro e w1 ⟨rfl, hb1⟩)
  refine hide_arg hb1 (fun W kp kf hs0 hs HE => ?_)
  clear hb1 c1
  generalize w1.heap.size = g at *
  rcases hL with ⟨rfl, hR⟩ | ⟨rfl, hR⟩ | ⟨rfl, hR⟩ | ⟨rfl, h1, hR⟩ | ⟨rfl, h1, h2, q, rfl, h3, hR⟩
  ·cases neg
   ·replace hR : R = 0 := by first | exact hR | (rw [hR]; rfl)
    go_wp2_with (go_at_call 38; refine (c2 _).mono ?_; rintro e w1 ⟨rfl, hb1⟩; have HE1 := Ext.next (w0 := w) (W := W) hb1)
    go_ret
    refine ⟨?_, Ext.end⟩
    clear kp kf hs0 hs
    refine ret_eq ?_
    subst hR; rfl
   ·replace hR : R = 9223372036854775808 := by first | exact hR | (rw [hR]; rfl)
    go_wp2_with (go_at_call 38; refine (c2 _).mono ?_; rintro e w1 ⟨rfl, hb1⟩; have HE1 := Ext.next (w0 := w) (W := W) hb1)
    go_ret
    refine ⟨?_, Ext.end⟩
    clear kp kf hs0 hs
    refine ret_eq ?_
    subst hR; rfl
  ·cases neg
   ·replace hR : R = 9218868437227405312 := by first | exact hR | (rw [hR]; rfl)
    go_wp2_with (go_at_call 38; refine (c2 _).mono ?_; rintro e w1 ⟨rfl, hb1⟩; have HE1 := Ext.next (w0 := w) (W := W) hb1)
    go_ret
    refine ⟨?_, Ext.end⟩
    clear kp kf hs0 hs
    refine ret_eq ?_
    subst hR; rfl
   ·replace hR : R = 18442240474082181120 := by first | exact hR | (rw [hR]; rfl)
    go_wp2_with (go_at_call 38; refine (c2 _).mono ?_; rintro e w1 ⟨rfl, hb1⟩; have HE1 := Ext.next (w0 := w) (W := W) hb1)
    go_ret
    refine ⟨?_, Ext.end⟩
    clear kp kf hs0 hs
    refine ret_eq ?_
    subst hR; rfl
  ·cases neg
   ·replace hR : R = 9221120237041090560 := by first | exact hR | (rw [hR]; rfl)
    go_wp2_with (go_at_call 38; refine (c2 _).mono ?_; rintro e w1 ⟨rfl, hb1⟩; have HE1 := Ext.next (w0 := w) (W := W) hb1)
    go_ret
    refine ⟨?_, Ext.end⟩
    clear kp kf hs0 hs
    refine ret_eq ?_
    subst hR; rfl
   ·replace hR : R = 9221120237041090560 := by first | exact hR | (rw [hR]; rfl)
    go_wp2_with (go_at_call 38; refine (c2 _).mono ?_; rintro e w1 ⟨rfl, hb1⟩; have HE1 := Ext.next (w0 := w) (W := W) hb1)
    go_ret
    refine ⟨?_, Ext.end⟩
    clear kp kf hs0 hs
    refine ret_eq ?_
    subst hR; rfl
  ·cases neg
   ·replace hR : R = 0 + sig := by first | exact hR | (rw [hR]; rfl)
    have f1 : IntKind.u64.wrap (sig : Int) = (sig : Int) := kuwrap (by omega)
    have f2 : (sig : Int) < 4503599627370496 := by omega
    go_wp2_with (go_at_call 38; refine (c2 _).mono ?_; rintro e w1 ⟨rfl, hb1⟩; have HE1 := Ext.next (w0 := w) (W := W) hb1)
    go_ret
    refine ⟨?_, Ext.end⟩
    clear kp kf hs0 hs
    refine ret_eq ?_
    (try rw [hR]); (try rw [f1]); (try rw [f3]); first | rfl | omega | (trace_state; omega)
   ·replace hR : R = 9223372036854775808 + sig := by first | exact hR | (rw [hR]; rfl)
    have f1 : IntKind.u64.wrap (sig : Int) = (sig : Int) := kuwrap (by omega)
    have f2 : (sig : Int) < 4503599627370496 := by omega
    have f3 : IntKind.u64.wrap (9223372036854775808 + (sig : Int)) = ((9223372036854775808 + sig : Nat) : Int) := kuwrap (n := 9223372036854775808 + sig) (by omega)
    go_wp2_with (go_at_call 38; refine (c2 _).mono ?_; rintro e w1 ⟨rfl, hb1⟩; have HE1 := Ext.next (w0 := w) (W := W) hb1)
    go_ret
    refine ⟨?_, Ext.end⟩
    clear kp kf hs0 hs
    refine ret_eq ?_
    (try rw [hR]); (try rw [f1]); (try rw [f3]); first | rfl | omega | (trace_state; omega)
  ·cases neg
   ·replace hR : R = 0 + (4503599627370496 * (q + 1) + sig - 4503599627370496) := by first | exact hR | (rw [hR]; rfl)
    have f1 : IntKind.u64.wrap (sig : Int) = (sig : Int) := kuwrap (by omega)
    have f2 : ¬ (sig : Int) < 4503599627370496 := by omega
    have f4 : (q : Int) + (-1074) - (-1074) = (q : Int) := by omega
    go_wp2_with (go_at_call 38; refine (c2 _).mono ?_; rintro e w1 ⟨rfl, hb1⟩; have HE1 := Ext.next (w0 := w) (W := W) hb1)
    go_ret
    refine ⟨?_, Ext.end⟩
    clear kp kf hs0 hs
    refine ret_eq ?_
    (try rw [hR]); (try rw [f1]); (try rw [f3]); first | rfl | omega | (trace_state; omega)
   ·replace hR : R = 9223372036854775808 + (4503599627370496 * (q + 1) + sig - 4503599627370496) := by first | exact hR | (rw [hR]; rfl)
    have f1 : IntKind.u64.wrap (sig : Int) = (sig : Int) := kuwrap (by omega)
    have f2 : ¬ (sig : Int) < 4503599627370496 := by omega
    have f4 : (q : Int) + (-1074) - (-1074) = (q : Int) := by omega
    go_wp2_with (go_at_call 38; refine (c2 _).mono ?_; rintro e w1 ⟨rfl, hb1⟩; have HE1 := Ext.next (w0 := w) (W := W) hb1)
    go_ret
    refine ⟨?_, Ext.end⟩
    clear kp kf hs0 hs
    refine ret_eq ?_
    (try rw [hR]); (try rw [f1]); (try rw [f3]); first | rfl | omega | (trace_state; omega)
 ·unfold fmtV at c1
  replace c1 : ∀ w, Calls Tryz.prog 71 #[.int .i64 1] w _ := c1
  replace c2 : ∀ w, Calls Tryz.prog 38 #[.int .i64 1] w (Ret (.int .u64 2143289344) w) := c2
  simp only [lowN, fieldN, leastN, mostN, signN, nanN, sgnN] at hL
  show Calls Tryz.prog 42 #[.int .i64 1, _] w _
  go_enter Tryz.func42, Tryz.ntmps42
  go_upto_region 2 with (go_at_call 71; refine (c1 _).mono ?_; rintro e w1 ⟨rfl, hb1⟩)
  refine hide_arg hb1 (fun W kp kf hs0 hs HE => ?_)
  clear hb1 c1
  generalize w1.heap.size = g at *
  rcases hL with ⟨rfl, hR⟩ | ⟨rfl, hR⟩ | ⟨rfl, hR⟩ | ⟨rfl, h1, hR⟩ | ⟨rfl, h1, h2, q, rfl, h3, hR⟩
  ·cases neg
   ·replace hR : R = 0 := by first | exact hR | (rw [hR]; rfl)
    go_wp2_with (go_at_call 38; refine (c2 _).mono ?_; rintro e w1 ⟨rfl, hb1⟩; have HE1 := Ext.next (w0 := w) (W := W) hb1)
    go_ret
    refine ⟨?_, Ext.end⟩
    clear kp kf hs0 hs
    refine ret_eq ?_
    subst hR; rfl
   ·replace hR : R = 2147483648 := by first | exact hR | (rw [hR]; rfl)
    go_wp2_with (go_at_call 38; refine (c2 _).mono ?_; rintro e w1 ⟨rfl, hb1⟩; have HE1 := Ext.next (w0 := w) (W := W) hb1)
    go_ret
    refine ⟨?_, Ext.end⟩
    clear kp kf hs0 hs
    refine ret_eq ?_
    subst hR; rfl
  ·cases neg
   ·replace hR : R = 2139095040 := by first | exact hR | (rw [hR]; rfl)
    go_wp2_with (go_at_call 38; refine (c2 _).mono ?_; rintro e w1 ⟨rfl, hb1⟩; have HE1 := Ext.next (w0 := w) (W := W) hb1)
    go_ret
    refine ⟨?_, Ext.end⟩
    clear kp kf hs0 hs
    refine ret_eq ?_
    subst hR; rfl
   ·replace hR : R = 4286578688 := by first | exact hR | (rw [hR]; rfl)
    go_wp2_with (go_at_call 38; refine (c2 _).mono ?_; rintro e w1 ⟨rfl, hb1⟩; have HE1 := Ext.next (w0 := w) (W := W) hb1)
    go_ret
    refine ⟨?_, Ext.end⟩
    clear kp kf hs0 hs
    refine ret_eq ?_
    subst hR; rfl
  ·cases neg
   ·replace hR : R = 2143289344 := by first | exact hR | (rw [hR]; rfl)
    go_wp2_with (go_at_call 38; refine (c2 _).mono ?_; rintro e w1 ⟨rfl, hb1⟩; have HE1 := Ext.next (w0 := w) (W := W) hb1)
    go_ret
    refine ⟨?_, Ext.end⟩
    clear kp kf hs0 hs
    refine ret_eq ?_
    subst hR; rfl
   ·replace hR : R = 2143289344 := by first | exact hR | (rw [hR]; rfl)
    go_wp2_with (go_at_call 38; refine (c2 _).mono ?_; rintro e w1 ⟨rfl, hb1⟩; have HE1 := Ext.next (w0 := w) (W := W) hb1)
    go_ret
    refine ⟨?_, Ext.end⟩
    clear kp kf hs0 hs
    refine ret_eq ?_
    subst hR; rfl
  ·cases neg
   ·replace hR : R = 0 + sig := by first | exact hR | (rw [hR]; rfl)
    have f1 : IntKind.u64.wrap (sig : Int) = (sig : Int) := kuwrap (by omega)
    have f2 : (sig : Int) < 8388608 := by omega
    go_wp2_with (go_at_call 38; refine (c2 _).mono ?_; rintro e w1 ⟨rfl, hb1⟩; have HE1 := Ext.next (w0 := w) (W := W) hb1)
    go_ret
    refine ⟨?_, Ext.end⟩
    clear kp kf hs0 hs
    refine ret_eq ?_
    (try rw [hR]); (try rw [f1]); (try rw [f3]); first | rfl | omega | (trace_state; omega)
   ·replace hR : R = 2147483648 + sig := by first | exact hR | (rw [hR]; rfl)
    have f1 : IntKind.u64.wrap (sig : Int) = (sig : Int) := kuwrap (by omega)
    have f2 : (sig : Int) < 8388608 := by omega
    have f3 : IntKind.u64.wrap (2147483648 + (sig : Int)) = ((2147483648 + sig : Nat) : Int) := kuwrap (n := 2147483648 + sig) (by omega)
    go_wp2_with (go_at_call 38; refine (c2 _).mono ?_; rintro e w1 ⟨rfl, hb1⟩; have HE1 := Ext.next (w0 := w) (W := W) hb1)
    go_ret
    refine ⟨?_, Ext.end⟩
    clear kp kf hs0 hs
    refine ret_eq ?_
    (try rw [hR]); (try rw [f1]); (try rw [f3]); first | rfl | omega | (trace_state; omega)
  ·cases neg
   ·replace hR : R = 0 + (8388608 * (q + 1) + sig - 8388608) := by first | exact hR | (rw [hR]; rfl)
    have f1 : IntKind.u64.wrap (sig : Int) = (sig : Int) := kuwrap (by omega)
    have f2 : ¬ (sig : Int) < 8388608 := by omega
    have f4 : (q : Int) + (-149) - (-149) = (q : Int) := by omega
    go_wp2_with (go_at_call 38; refine (c2 _).mono ?_; rintro e w1 ⟨rfl, hb1⟩; have HE1 := Ext.next (w0 := w) (W := W) hb1)
    go_ret
    refine ⟨?_, Ext.end⟩
    clear kp kf hs0 hs
    refine ret_eq ?_
    (try rw [hR]); (try rw [f1]); (try rw [f3]); first | rfl | omega | (trace_state; omega)
   ·replace hR : R = 2147483648 + (8388608 * (q + 1) + sig - 8388608) := by first | exact hR | (rw [hR]; rfl)
    have f1 : IntKind.u64.wrap (sig : Int) = (sig : Int) := kuwrap (by omega)
    have f2 : ¬ (sig : Int) < 8388608 := by omega
    have f4 : (q : Int) + (-149) - (-149) = (q : Int) := by omega
    go_wp2_with (go_at_call 38; refine (c2 _).mono ?_; rintro e w1 ⟨rfl, hb1⟩; have HE1 := Ext.next (w0 := w) (W := W) hb1)
    go_ret
    refine ⟨?_, Ext.end⟩
    clear kp kf hs0 hs
    refine ret_eq ?_
    (try rw [hR]); (try rw [f1]); (try rw [f3]); first | rfl | omega | (trace_state; omega)
end Go.Proofs.YtmoimcblmmcffaaGreatDoor.NC

namespace Go.Proofs.YtmoimcblmmcffaaGreatDoor.NC
open Go.RowKit Go.Proofs.YtmoimcblmmcffaaGreatDoor.B Go.Proofs.YtmoimcblmmcffaaGreatDoor.N
set_option linter.unusedSimpArgs false
set_option linter.unusedVariables false
def precN : Bool → Nat
 | true => 24
 | false => 53
def moreOf (m : Nat) (more : Bool) : Nat := m * 8 + more.toNat
def placeOf (s : Bool) (m : Nat) (e : Int) : Int := max ((N.bits m : Int) - precN s + e) (leastN s)
def keptOf (m : Nat) (e tp : Int) : Nat := if tp ≤ e then m * 2 ^ (e - tp).toNat else Fl.rnd m (tp - e).toNat
def overOf (s : Bool) (m : Nat) (e : Int) : Nat × Int := if precN s < N.bits m then (m / 2, e + 1) else (m, e)
def packOf (s neg : Bool) (m : Nat) (e : Int) : PP := if m = 0 then ⟨0, neg, 0, 0⟩ else if e > mostN s then ⟨2, neg, 0, 0⟩ else ⟨1, neg, m, e⟩
def roundR (s neg : Bool) (m : Nat) (e : Int) (more : Bool) : Nat :=
 if m = 0 then bitsR s ⟨0, neg, 0, 0⟩ else
  let m1 := moreOf m more
  let tp := placeOf s m1 (e - 3)
  let k := overOf s (keptOf m1 (e - 3) tp) tp
  bitsR s (packOf s neg k.1 k.2)
theorem len_mono {a b : Nat} (h : a ≤ b) : (digs a).length ≤ (digs b).length := by
 by_cases h2 : (digs a).length ≤ (digs b).length
 ·exact h2
 ·have := digs_len_lt (a := b) (b := a) (by omega); omega
theorem rnd_ord (n D : Nat) (hD : 1 ≤ D) : (ordN (n - n / 2 ^ D * 2 ^ D) (2 ^ (D - 1)) = -1 ∧ Fl.rnd n D = n / 2 ^ D) ∨ (ordN (n - n / 2 ^ D * 2 ^ D) (2 ^ (D - 1)) = 1 ∧ Fl.rnd n D = n / 2 ^ D + 1) ∨ (ordN (n - n / 2 ^ D * 2 ^ D) (2 ^ (D - 1)) = 0 ∧ Fl.rnd n D = if n / 2 ^ D % 2 = 1 then n / 2 ^ D + 1 else n / 2 ^ D) := by
 have e1 : n - n / 2 ^ D * 2 ^ D = n % 2 ^ D := by
  have := Nat.div_add_mod n (2 ^ D)
  rw [Nat.mul_comm] at this
  omega
 have e2 : 2 ^ D = 2 * 2 ^ (D - 1) := by
  obtain ⟨k, rfl⟩ : ∃ k, D = k + 1 := ⟨D - 1, by omega⟩
  rw [Nat.pow_succ, Nat.add_sub_cancel]; omega
 rw [e1]
 unfold Fl.rnd ordN
 generalize n / 2 ^ D = q
 generalize n % 2 ^ D = r
 rw [e2]
 generalize 2 ^ (D - 1) = h
 by_cases h1 : r < h
 ·left
  rw [if_pos h1, decide_eq_false (by omega : ¬ 2 * h < 2 * r), show (2 * h == 2 * r) = false from by simp; omega]
  simp
 ·by_cases h2 : r = h
  ·right; right
   subst h2
   rw [if_neg h1, if_pos rfl, decide_eq_false (by omega : ¬ 2 * r < 2 * r)]
   by_cases h3 : q % 2 = 1 <;> simp [h3]
  ·right; left
   rw [if_neg h1, if_neg h2, decide_eq_true (by omega : 2 * h < 2 * r)]
   simp
theorem kept_bound (s : Bool) (m : Nat) (e : Int) : keptOf m e (placeOf s m e) ≤ 2 ^ precN s := by
 have hm := log_lt m
 unfold keptOf
 by_cases hle : placeOf s m e ≤ e
 ·rw [if_pos hle]
  have hb : (N.bits m : Int) - precN s + e ≤ placeOf s m e := by unfold placeOf; omega
  obtain ⟨d, hd⟩ : ∃ d : Nat, e - placeOf s m e = d := ⟨(e - placeOf s m e).toNat, by omega⟩
  rw [hd, Int.toNat_natCast]
  have h1 : m * 2 ^ d ≤ 2 ^ N.bits m * 2 ^ d := Nat.mul_le_mul_right _ (by omega)
  rw [← Nat.pow_add] at h1
  exact Nat.le_trans h1 (Nat.pow_le_pow_right (by decide) (by omega))
 ·rw [if_neg hle]
  have hb : (N.bits m : Int) - precN s + e ≤ placeOf s m e := by unfold placeOf; omega
  obtain ⟨d, hd⟩ : ∃ d : Nat, placeOf s m e - e = d := ⟨(placeOf s m e - e).toNat, by omega⟩
  rw [hd, Int.toNat_natCast]
  have h1 : Fl.rnd m d ≤ m / 2 ^ d + 1 := by
   unfold Fl.rnd
   have : ∀ b : Bool, b.toNat ≤ 1 := by decide
   have := this (2 ^ d < 2 * (m % 2 ^ d) || (2 ^ d == 2 * (m % 2 ^ d) && m / 2 ^ d % 2 == 1))
   omega
  have h2 : m / 2 ^ d < 2 ^ precN s := by
   refine Nat.div_lt_of_lt_mul (Nat.lt_of_lt_of_le hm ?_)
   rw [← Nat.pow_add]
   exact Nat.pow_le_pow_right (by decide) (by omega)
  omega
theorem over_facts (s : Bool) (m : Nat) (e : Int) (hm : m ≤ 2 ^ precN s) : (overOf s m e).1 < 2 * lowN s ∧ (leastN s ≤ e → leastN s ≤ (overOf s m e).2) := by
 have h1 := log_lt m
 have hp : 2 ^ precN s = 2 * lowN s := by cases s <;> rfl
 unfold overOf
 by_cases h : precN s < N.bits m
 ·rw [if_pos h]
  have hl : 0 < lowN s := by cases s <;> decide
  exact ⟨by simp only; omega, fun _ => by simp only; omega⟩
 ·rw [if_neg h]
  refine ⟨?_, fun h => h⟩
  have : 2 ^ N.bits m ≤ 2 ^ precN s := Nat.pow_le_pow_right (by decide) (by omega)
  simp only
  omega
theorem par_facts (q : Nat) : Int.tmod ((q % 65536 : Nat) : Int) 2 = ((q % 2 : Nat) : Int) ∧ ((q % 65536 : Nat) : Int) % 2 = ((q % 2 : Nat) : Int) ∧ (q % 2 = 0 ∨ q % 2 = 1) := by
 refine ⟨?_, by omega, by omega⟩
 show ((q % 65536 % 2 : Nat) : Int) = _
 omega
theorem iwr {n : Int} (h0 : -9223372036854775808 ≤ n) (h1 : n ≤ 9223372036854775807) : IntKind.i64.wrap n = n := by
 unfold IntKind.wrap
 simp [IntKind.signed, IntKind.bits]
 omega
end Go.Proofs.YtmoimcblmmcffaaGreatDoor.NC

namespace Go.Proofs.YtmoimcblmmcffaaGreatDoor.NC
open Go.RowKit Go.Proofs.YtmoimcblmmcffaaGreatDoor.B Go.Proofs.YtmoimcblmmcffaaGreatDoor.N
set_option linter.unusedSimpArgs false
set_option linter.unusedVariables false
theorem hide_fmt {P : Program} {c : Code} {Q : Exit → Act → World → Prop} {a : Act} {w w1 : World} {cs' : Array Value} {t' : TypeId}
  (hb : Below w.heap.size w w1)
  (h : ∀ W, (∀ i, W.cell? ⟨w1.heap.size, i, none⟩ = cs'[i]?) → w1.heap.size < W.heap.size → Ext w W W → c.wp P Q a W) :
  c.wp P Q a (w1.alloc (.cells cs' t' (0, 0))) := by
 refine h _ (fun i => ?_) (by simp) ?_
 ·rw [cell_of_row _ _ i cs' t' (0, 0) (heap_alloc_new w1 _)]
 ·exact Ext.refl (below_alloc0 hb _)
set_option maxHeartbeats 8000000 in
theorem round_c0 (s neg : Bool) (e : Int) (more : Bool) (A : Option Addr) (c : Nat) (w : World) :
  Calls Tryz.prog 43 #[.int .i64 (tv s), .bool neg, .slice A 0 c, .int .i64 e, .bool more] w (Ret (.int .u64 (bitsR s ⟨0, neg, 0, 0⟩ : Int)) w) := by
 have c1 := formatOf_c s
 have hlay : fmtV s = .agg #[.int .i64 (precN s : Int), .int .i64 (if s then 8 else 11), .int .i64 (leastN s), .int .i64 (mostN s)] := by cases s <;> rfl
 rw [hlay] at c1
 clear hlay
 have c2 := fun w => bits_c s ⟨0, neg, 0, 0⟩ w (.inl rfl)
 unfold PP.v at c2
 generalize (if s then (8 : Int) else 11) = f8 at *
 generalize bitsR s ⟨0, neg, 0, 0⟩ = R at *
 generalize precN s = prec at *
 generalize leastN s = least at *
 generalize mostN s = most at *
 generalize tv s = t at *
 go_enter Tryz.func43, Tryz.ntmps43
 go_upto_region 2 with (go_at_call 71; refine (c1 _).mono ?_; rintro e w1 ⟨rfl, hb1⟩)
 refine hide_fmt hb1 (fun W kf hs HE => ?_)
 clear hb1 c1
 generalize w1.heap.size = g at *
 go_wp2_with (go_at_call 42; refine (c2 _).mono ?_; rintro e w1 ⟨rfl, hb1⟩; have HE1 := Ext.next (w0 := w) (W := W) hb1)
 go_ret
 exact ⟨rfl, Ext.end⟩
set_option maxRecDepth 100000 in
set_option maxHeartbeats 8000000 in
theorem round_c1 (s neg : Bool) (m : Nat) (e : Int) (more : Bool) (A : Option Addr) (c : Nat) (w : World) (hm : m ≠ 0) (hB : Big w A m) (hc : (digs m).length ≤ c) (hl : (digs m).length ≤ 1000) (h1 : -10000 ≤ e) (h2 : e ≤ 10000) :
  Calls Tryz.prog 43 #[.int .i64 (tv s), .bool neg, .slice A (digs m).length c, .int .i64 e, .bool more] w (Ret (.int .u64 (roundR s neg m e more : Int)) w) := by
 have c1 := formatOf_c s
 obtain ⟨R, hR⟩ : ∃ R : Nat, roundR s neg m e more = R := ⟨_, rfl⟩
 rw [hR]
 unfold roundR at hR
 rw [if_neg hm] at hR
 have hlay : fmtV s = .agg #[.int .i64 (precN s : Int), .int .i64 (if s then 8 else 11), .int .i64 (leastN s), .int .i64 (mostN s)] := by cases s <;> rfl
 rw [hlay] at c1
 clear hlay
 have hls : leastN s = -149 ∨ leastN s = -1074 := by cases s <;> simp [leastN]
 have hms : mostN s = 104 ∨ mostN s = 971 := by cases s <;> simp [mostN]
 have hps : precN s = 24 ∨ precN s = 53 := by cases s <;> simp [precN]
 have hml : (digs (m * 8)).length ≤ 1001 := by
  have h := val_lt (dig_digs m)
  rw [val_digs] at h
  have := digs_len (n := m * 8) (m := (digs m).length + 1) (by rw [Nat.pow_succ]; omega)
  omega
 have d3 : (digs m).length ≠ 0 := fun h => hm (digs_nil.1 h)
 have d1 : ((digs m).length : Int) ≠ 0 := by omega
 have d2 : wrap64 (e - 3) = e - 3 := wr (by omega) (by omega)
 have cl : ∀ w, Big w A m → Calls Tryz.prog 76 #[.slice A (digs m).length c, .int .i64 3] w (RetBig (m * 8) w) := fun w h => left_c (s := 3) w h hc (by omega) (by decide)
 have hmo1 : (digs (moreOf m more)).length ≤ 1002 := by
  have h := val_lt (dig_digs (m * 8))
  rw [val_digs] at h
  have := digs_len (n := moreOf m more) (m := (digs (m * 8)).length + 1) (by unfold moreOf; rw [Nat.pow_succ]; cases more <;> simp <;> omega)
  omega
 have hmb : N.bits (moreOf m more) ≤ 20000 := by have := bits_len (moreOf m more); omega
 have l1 : (digs 1).length ≤ Lim := by rw [digs_one]; decide
 have cp : ∀ (w : World) (A : Option Addr) (c : Nat) (A' : Option Addr) n, Big w A n → (digs n).length ≤ c → (digs n).length ≤ Lim → Big w A' 1 → Calls Tryz.prog 77 #[.slice A (digs n).length c, .slice A' 1 1] w (RetBig (n + 1) w) := by
  intro w A c A' n h hc hl h'
  have := plus_c (n1 := 1) w h hc h' (by rw [digs_one]; exact Nat.le_refl 1) hl l1
  rwa [digs_one] at this
 have cl1 : ∀ (w : World) (A' : Option Addr) (s : Nat), s ≤ 100000 → Big w A' 1 → Calls Tryz.prog 76 #[.slice A' 1 1, .int .i64 (s : Int)] w (RetBig (2 ^ s) w) := by
  intro w A' s hs h'
  have := left_c (n0 := 1) (s := s) w h' (by rw [digs_one]; exact Nat.le_refl 1) (by rw [digs_one]; decide) hs
  rwa [digs_one, Nat.one_mul] at this
 generalize (if s then (8 : Int) else 11) = f8 at *
 go_enter Tryz.func43, Tryz.ntmps43
 go_upto_region 2 with (go_at_call 71; refine (c1 _).mono ?_; rintro e w1 ⟨rfl, hb1⟩)
 refine hide_fmt hb1 (fun W kf hs HE => ?_)
 clear hb1 c1
 generalize w1.heap.size = g at *
 go_upto_if 31 with (go_at_call 76; refine (cl _ (hB.below (Ext.end))).mono ?_; rintro e w1 ⟨A1, c1, rfl, hc1, hB1, hb1⟩; have HE1 := Ext.next (w0 := w) (W := W) hb1)
 go_cut [2] (fun v2 wc => ∃ A c, v2 = .slice A (digs (moreOf m more)).length c ∧ (digs (moreOf m more)).length ≤ c ∧ Big wc A (moreOf m more) ∧ Ext w W wc)
 case first =>
  cases more
  ·clear hmo1 hmb hR
   go_wp2
   go_meet
   rw [show moreOf m false = m * 8 from rfl]
   exact ⟨A1, c1, rfl, hc1, hB1, HE1⟩
  ·clear hmo1 hmb hR
   go_wp2_with (go_at_call 77; refine (cp _ _ _ _ _ (hB1.alloc _) hc1 (by unfold Lim; omega) (big_lit digs_one)).mono ?_; rintro e w2 ⟨A2, c2, rfl, hc2, hB2, hb2⟩)
   go_meet
   rw [show moreOf m true = m * 8 + 1 from rfl]
   exact ⟨A2, c2, rfl, hc2, hB2, HE1.call (below_call (below_alloc0 (Below.refl _ _) _) hb2)⟩
 case rest =>
  obtain ⟨A2, c2, rfl, hc2, hB2, HE2⟩ := hcut
  generalize wc = V at *
  have kf2 : ∀ i, V.cell? ⟨g, i, none⟩ = _ := fun i => (HE2.1 g i hs).trans (kf i)
  have hs2 : g < V.heap.size := Nat.lt_of_lt_of_le hs HE2.2.2.1
  have HE3 : Ext w V V := Ext.refl HE2.2.2.2
  clear kf hs HE HE1 HE2 hb1 hB1 hc1 hB hc cl d2
  generalize moreOf m more = m1 at *
  have hR' : R = R := rfl
  have h3 : -10003 ≤ e - 3 := by omega
  have h4 : e - 3 ≤ 9997 := by omega
  clear h1 h2
  generalize e - 3 = e3 at *
  obtain ⟨tp, htp⟩ : ∃ x, placeOf s m1 e3 = x := ⟨_, rfl⟩
  rw [htp] at hR
  have htp2 : tp = max ((N.bits m1 : Int) - precN s + e3) (leastN s) := htp.symm
  have htb : -2000 ≤ tp ∧ tp ≤ 40000 := by omega
  go_upto_region 7 with (fail)
  go_cut [12] (fun v12 wx => v12 = .int .i64 tp ∧ Ext w V wx)
  case first =>
   have b1 : IntKind.i64.wrap ((N.bits m1 : Int) - (precN s : Int)) = (N.bits m1 : Int) - (precN s : Int) := iwr (by omega) (by omega)
   have b2 : IntKind.i64.wrap ((N.bits m1 : Int) - (precN s : Int) + e3) = (N.bits m1 : Int) - (precN s : Int) + e3 := iwr (by omega) (by omega)
   clear hR htp htb
   generalize precN s = prec at *
   generalize leastN s = least at *
   generalize mostN s = most at *
   go_region_held3 (fun w' => Ext w V w') (first | exact Ext.drew (by assumption) | exact Ext.next (by assumption)) ((go_at_call 52; refine (length_c _ (hB2.ext (by assumption)) hc2 (by unfold Lim; omega)).mono ?_; rintro e w1 ⟨rfl, hb1⟩))
   go_wp2
   ·go_meet
    refine ⟨?_, by assumption⟩
    congr 1
    omega
   ·go_meet
    refine ⟨?_, by assumption⟩
    congr 1
    omega
  case rest =>
   obtain ⟨rfl, HE4⟩ := hcut
   generalize wc = V1 at *
   have kf3 : ∀ i, V1.cell? ⟨g, i, none⟩ = _ := fun i => (HE4.1 g i hs2).trans (kf2 i)
   have hs3 : g < V1.heap.size := Nat.lt_of_lt_of_le hs2 HE4.2.2.1
   have HE5 : Ext w V1 V1 := Ext.refl HE4.2.2.2
   have hB3 := hB2.ext HE4
   clear kf2 hs2 HE3 HE4 hB2
   have hkb := kept_bound s m1 e3
   rw [htp] at hkb
   obtain ⟨kp, hkp⟩ : ∃ x, keptOf m1 e3 tp = x := ⟨_, rfl⟩
   rw [hkp] at hR hkb
   have htl : leastN s ≤ tp := by omega
   clear htp htp2
   go_upto_if 47 with (fail)
   go_cut [2, 3] (fun v2 v3 wc => ∃ A c, v2 = .slice A (digs kp).length c ∧ v3 = .int .i64 tp ∧ (digs kp).length ≤ c ∧ Big wc A kp ∧ Ext w V1 wc)
   case first =>
    clear hR hkb
    by_cases hle : tp ≤ e3
    ·rw [decide_eq_true hle]
     obtain ⟨d, hd⟩ : ∃ d : Nat, e3 = tp + (d : Int) := ⟨(e3 - tp).toNat, by omega⟩
     have hk : kp = m1 * 2 ^ d := by
      rw [← hkp]
      unfold keptOf
      rw [if_pos hle, show (e3 - tp).toNat = d from by omega]
     clear hkp
     have ce : ∀ w, Big w A2 m1 → Calls Tryz.prog 76 #[.slice A2 (digs m1).length c2, .int .i64 (d : Int)] w (RetBig kp w) := by
      intro w h
      rw [hk]
      exact left_c (s := d) w h hc2 (by omega) (by omega)
     have b3 : wrap64 (e3 - tp) = (d : Int) := by
      have hd9 : d ≤ 9223372036854775807 := by omega
      have hd8 : e3 - tp = (d : Int) := by omega
      rw [hd8]; exact wr_nat hd9
     clear hk hd hle htb h3 h4 htl
     clear hm hml d3 d1 l1 cp cl1 hmo1 hmb
     go_upto_region 9 with (fail)
     go_wp2_with (go_at_call 76; refine (ce _ hB3).mono ?_; rintro e w1 ⟨A1, c1, rfl, hc1, hB1, hb1⟩)
     go_meet
     exact ⟨A1, c1, rfl, rfl, hc1, hB1, Ext.next hb1⟩
    ·rw [decide_eq_false hle]
     obtain ⟨D, hD⟩ : ∃ D : Nat, tp = e3 + (D : Int) := ⟨(tp - e3).toNat, by omega⟩
     have hD1 : 1 ≤ D := by omega
     have hD2 : D ≤ 60000 := by omega
     have hk : Fl.rnd m1 D = kp := by
      rw [← hkp]
      unfold keptOf
      rw [if_neg hle, hD, show (e3 + (D : Int) - e3).toNat = D from by omega]
     clear hkp
     have hro := rnd_ord m1 D hD1
     rw [hk] at hro
     have hqm : m1 / 2 ^ D * 2 ^ D ≤ m1 := Nat.div_mul_le_self _ _
     have hqm2 : m1 / 2 ^ D ≤ m1 := Nat.div_le_self _ _
     have cr : ∀ w, Big w A2 m1 → Calls Tryz.prog 78 #[.slice A2 (digs m1).length c2, .int .i64 (D : Int)] w (fun e w' => ∃ A c, e = .returned (.tuple #[.slice A (digs (m1 / 2 ^ D)).length c, .bool (m1 % 2 ^ D != 0)]) ∧ (digs (m1 / 2 ^ D)).length ≤ c ∧ Big w' A (m1 / 2 ^ D) ∧ Below w.heap.size w w') :=
      fun w h => right_c (s := D) w h hc2 (by unfold Lim; omega) (by omega)
     have hlq := len_mono hqm2
     have hlr := len_mono (show m1 - m1 / 2 ^ D * 2 ^ D ≤ m1 from Nat.sub_le _ _)
     generalize (m1 % 2 ^ D != 0) = flag at *
     generalize m1 / 2 ^ D = q at *
     have cle : ∀ w A c, Big w A q → (digs q).length ≤ c → Calls Tryz.prog 76 #[.slice A (digs q).length c, .int .i64 (D : Int)] w (RetBig (q * 2 ^ D) w) := fun w A c h hc => left_c (s := D) w h hc (by omega) (by omega)
     have cm : ∀ w A c, Big w A2 m1 → Big w A (q * 2 ^ D) → (digs (q * 2 ^ D)).length ≤ c → Calls Tryz.prog 79 #[.slice A2 (digs m1).length c2, .slice A (digs (q * 2 ^ D)).length c] w (RetBig (m1 - q * 2 ^ D) w) := fun w A c h h' hc => minus_c w h hc2 h' hc (by unfold Lim; omega) hqm
     generalize q * 2 ^ D = lq at *
     generalize m1 - lq = rs at *
     have clh := fun w A' => cl1 w A' (D - 1) (by omega)
     have hl2 : (digs rs).length ≤ Lim := by unfold Lim; omega
     have hl3 : (digs q).length ≤ Lim := by unfold Lim; omega
     obtain ⟨b3, b4⟩ : wrap64 (tp - e3) = (D : Int) ∧ wrap64 ((D : Int) - 1) = ((D - 1 : Nat) : Int) := by
      have hd9 : D ≤ 9223372036854775807 := by omega
      have hd7 : D - 1 ≤ 9223372036854775807 := by omega
      have hd8 : tp - e3 = (D : Int) := by omega
      have hd6 : (D : Int) - 1 = ((D - 1 : Nat) : Int) := by omega
      exact ⟨by rw [hd8]; exact wr_nat hd9, by rw [hd6]; exact wr_nat hd7⟩
     generalize D - 1 = Dm at *
     generalize 2 ^ Dm = half at *
     clear htl hD hm hml d3 d1 hmb hmo1 hlq hlr hqm hqm2 l1 hD1 hD2 htb hle h3 h4
     go_upto_region 10 with (fail)
     go_upto_region 11 with (go_at_call 78; refine (cr _ hB3).mono ?_; rintro e w1 ⟨Aq, cq, rfl, hcq, hBq, hb1⟩)
     have hB4 := hB3.below hb1
     have HE6 : Ext w V1 w1 := Ext.next hb1
     clear cr hb1 hB3 HE5
     go_upto_region 12 with (first | (go_at_call 76; refine (cle _ _ _ hBq hcq).mono ?_; rintro e w2 ⟨Al, cl', rfl, hcl, hBl, hb2⟩) | (go_at_call 79; refine (cm _ _ _ (hB4.below hb2) hBl hcl).mono ?_; rintro e w3 ⟨Ar, cr, rfl, hcr, hBr, hb3⟩))
     have HE7 := HE6.call hb2
     have HE8 := HE7.call hb3
     have hBq2 := (hBq.below hb2).below hb3
     clear hBq hBl hB4 HE6 HE7 hb2 hb3 cle cm
     go_upto_region 13 with (go_at_call 76; refine (clh _ _ (big_lit digs_one)).mono ?_; rintro e w4 ⟨Ah, ch, rfl, hch, hBh, hb4⟩)
     have hb5 := below_call (below_alloc0 (Below.refl _ _) _) hb4
     have HE9 := HE8.call hb5
     have hBq3 := hBq2.below hb5
     have hBr2 := hBr.below hb5
     clear hb4 hb5 HE8 hBq2 hBr clh cl1
     go_upto_region 14 with (go_at_call 80; refine (order_c _ hBr2 hcr hBh hch hl2).mono ?_; rintro e w5 ⟨rfl, hb6⟩)
     have HE10 := HE9.call hb6
     have hBq4 := hBq3.below hb6
     clear hb6 HE9 hBq3 hBr2 hBh
     generalize ordN rs half = x at *
     rcases hro with ⟨rfl, rfl⟩ | ⟨rfl, rfl⟩ | ⟨rfl, hpar⟩
     ·go_wp2
      go_meet
      exact ⟨Aq, cq, rfl, rfl, hcq, hBq4, HE10⟩
     ·go_wp2_with (go_at_call 77; refine (cp _ _ _ _ _ (hBq4.alloc _) hcq hl3 (big_lit digs_one)).mono ?_; rintro e w6 ⟨A6, c6, rfl, hc6, hB6, hb7⟩)
      go_meet
      exact ⟨A6, c6, rfl, rfl, hc6, hB6, HE10.call (below_call (below_alloc0 (Below.refl _ _) _) hb7)⟩
     ·have cd := digit_c w5 hBq4 hcq
      obtain ⟨ht, ht2, hq2⟩ := par_facts q
      generalize q % 65536 = z at *
      rcases hq2 with hq2 | hq2
      ·rw [hq2] at ht ht2
       rw [if_neg (by rw [hq2]; decide)] at hpar
       subst hpar
       go_wp2_with (go_at_call 81; refine cd.mono ?_; rintro e w6 ⟨rfl, hb7⟩)
       go_meet
       exact ⟨Aq, cq, rfl, rfl, hcq, hBq4.below hb7, HE10.call hb7⟩
      ·rw [hq2] at ht ht2
       rw [if_pos hq2] at hpar
       subst hpar
       go_wp2_with (first | (go_at_call 81; refine cd.mono ?_; rintro e w6 ⟨rfl, hb7⟩) | (go_at_call 77; refine (cp _ _ _ _ _ ((hBq4.below hb7).alloc _) hcq hl3 (big_lit digs_one)).mono ?_; rintro e w8 ⟨A6, c6, rfl, hc6, hB6, hb8⟩))
       go_meet
       exact ⟨A6, c6, rfl, rfl, hc6, hB6, (HE10.call hb7).call (below_call (below_alloc0 (Below.refl _ _) _) hb8)⟩
   case rest =>
    obtain ⟨A3, c3, rfl, rfl, hc3, hB5, HE6⟩ := hcut
    generalize wc = V2 at *
    have kf4 : ∀ i, V2.cell? ⟨g, i, none⟩ = _ := fun i => (HE6.1 g i hs3).trans (kf3 i)
    have hs4 : g < V2.heap.size := Nat.lt_of_lt_of_le hs3 HE6.2.2.1
    have HE7 : Ext w V2 V2 := Ext.refl HE6.2.2.2
    have hkl : (digs kp).length ≤ 10 := by
     have : (digs kp).length ≤ 54 / 16 + 1 := len_bits (Nat.lt_of_le_of_lt hkb (by rcases hps with h | h <;> rw [h] <;> decide))
     omega
    obtain ⟨hk1, hk2⟩ := over_facts s kp tp hkb
    clear kf3 hs3 HE5 HE6 hB3 hc2 hkp hml hmo1 cp cl1 l1 d1 d3 hkb hmb hl
    obtain ⟨k3, hk3⟩ : ∃ k, overOf s kp tp = k := ⟨_, rfl⟩
    rw [hk3] at hR hk1 hk2
    obtain ⟨m3, e4⟩ := k3
    simp only at hR hk1 hk2
    go_upto_region 17 with (fail)
    have hov : ((precN s : Int) < (N.bits kp : Int) ∧ kp / 2 ^ 1 = m3 ∧ wrap64 (tp + 1) = e4) ∨ ((N.bits kp : Int) ≤ (precN s : Int) ∧ kp = m3 ∧ tp = e4) := by
     unfold overOf at hk3
     by_cases h : precN s < N.bits kp
     ·rw [if_pos h] at hk3
      injection hk3 with h5 h6
      exact .inl ⟨by omega, h5, by rw [← h6]; exact wr (by omega) (by omega)⟩
     ·rw [if_neg h] at hk3
      injection hk3 with h5 h6
      exact .inr ⟨by omega, h5, h6⟩
    have cri : ∀ w, Big w A3 kp → Calls Tryz.prog 78 #[.slice A3 (digs kp).length c3, .int .i64 1] w (fun e w' => ∃ A c, e = .returned (.tuple #[.slice A (digs (kp / 2 ^ 1)).length c, .bool (kp % 2 ^ 1 != 0)]) ∧ (digs (kp / 2 ^ 1)).length ≤ c ∧ Big w' A (kp / 2 ^ 1) ∧ Below w.heap.size w w') :=
     fun w h => right_c (s := 1) w h hc3 (by unfold Lim; omega) (by decide)
    generalize (kp % 2 ^ 1 != 0) = flag at *
    have hk10 : (digs kp).length ≤ Lim := by unfold Lim; omega
    have HOV := Lib.hid hov
    have CRI := Lib.hid cri
    have HK : RowKit.Hid (m3 < 2 * lowN s ∧ leastN s ≤ e4) := ⟨hk1, hk2 htl⟩
    have HR := Lib.hid hR
    clear hR
    clear hov cri hk3 hls hms hps htb htl h3 h4 hkl hk1 hk2 hm
    generalize precN s = prec at *
    go_region_held3 (fun w' => Ext w V2 w') (first | exact Ext.drew (by assumption) | exact Ext.next (by assumption)) ((go_at_call 52; refine (length_c _ (hB5.ext (by assumption)) hc3 hk10).mono ?_; rintro e w1 ⟨rfl, hb1⟩))
    have HE8 := (by assumption : Ext w V2 _)
    go_upto_if 99 with (fail)
    go_cut [2, 3] (fun v2 v3 wc => ∃ A c, v2 = .slice A (digs m3).length c ∧ v3 = .int .i64 e4 ∧ (digs m3).length ≤ c ∧ Big wc A m3 ∧ Ext w V2 wc)
    case first =>
     rcases HOV with ⟨ho, h5, h6⟩ | ⟨ho, h5, h6⟩
     ·first | rw [decide_eq_true (show prec < N.bits kp by omega)] | rw [decide_eq_true ho] | rw [decide_eq_true (p := (N.bits kp : Int) > (prec : Int)) ho]
      have cri2 : ∀ w, Big w A3 kp → _ := CRI
      rw [h5] at cri2
      clear CRI ho h5
      go_upto_region 18 with (fail)
      go_upto_region 19 with (go_at_call 78; refine (cri2 _ (hB5.ext HE8)).mono ?_; rintro e w2 ⟨A5, c5, rfl, hc5, hB6, hb2⟩)
      go_wp2
      go_meet
      exact ⟨A5, c5, rfl, by rw [h6], hc5, hB6, HE8.call hb2⟩
     ·first | rw [decide_eq_false (show ¬ prec < N.bits kp by omega)] | rw [decide_eq_false (p := (N.bits kp : Int) > (prec : Int)) (by omega)] | rw [decide_eq_false (p := (prec : Int) < (N.bits kp : Int)) (by omega)]
      subst h5 h6
      clear CRI ho
      go_wp2
      go_meet
      exact ⟨A3, c3, rfl, rfl, hc3, hB5.ext HE8, HE8⟩
    case rest =>
     obtain ⟨A5, c5, rfl, rfl, hc5, hB7, HE9⟩ := hcut
     generalize wc = V3 at *
     have kf5 : ∀ i, V3.cell? ⟨g, i, none⟩ = _ := fun i => (HE9.1 g i hs4).trans (kf4 i)
     have hs5 : g < V3.heap.size := Nat.lt_of_lt_of_le hs4 HE9.2.2.1
     have HE10 : Ext w V3 V3 := Ext.refl HE9.2.2.2
     clear kf4 hs4 HE7 HE8 HE9 hB5 hc3 hk10 CRI HOV
     have hR : bitsR s (packOf s neg m3 e4) = R := HR
     obtain ⟨hk1, hk2⟩ : m3 < 2 * lowN s ∧ leastN s ≤ e4 := HK
     clear HR
     unfold packOf at hR
     by_cases hz : m3 = 0
     ·subst hz
      rw [if_pos rfl] at hR
      have cb := fun w => bits_c s ⟨0, neg, 0, 0⟩ w (.inl rfl)
      unfold PP.v at cb
      rw [hR] at cb
      clear hR hk1 hk2
      rw [digs_zero] at *
      go_wp2_with (go_at_call 42; refine (cb _).mono ?_; rintro e w2 ⟨rfl, hb2⟩; have HE11 := Ext.next (w0 := w) (W := V3) hb2)
      go_ret
      exact ⟨rfl, Ext.end⟩
     ·rw [if_neg hz] at hR
      have hz2 : (digs m3).length ≠ 0 := fun h => hz (digs_nil.1 h)
      have hz3 : ((digs m3).length : Int) ≠ 0 := by omega
      by_cases hmo : e4 > mostN s
      ·rw [if_pos hmo] at hR
       have cb := fun w => bits_c s ⟨2, neg, 0, 0⟩ w (.inr (.inl rfl))
       unfold PP.v at cb
       rw [hR] at cb
       clear hR hk1 hk2 hz
       generalize mostN s = most at *
       go_wp2_with (go_at_call 42; refine (cb _).mono ?_; rintro e w2 ⟨rfl, hb2⟩; have HE11 := Ext.next (w0 := w) (W := V3) hb2)
       go_ret
       exact ⟨rfl, Ext.end⟩
      ·rw [if_neg hmo] at hR
       have hls : 2 * lowN s ≤ 9223372036854775807 := by cases s <;> decide
       have cb := fun w => bits_c s ⟨1, neg, m3, e4⟩ w (.inr (.inr (.inr ⟨rfl, hk1, fun _ => ⟨hk2, by simp only; omega⟩⟩)))
       have ci := int_c V3 hB7 hc5 (by omega)
       unfold PP.v at cb
       rw [hR] at cb
       clear hR hk1 hk2 hz hls
       generalize mostN s = most at *
       go_wp2_with (first | (go_at_call 42; refine (cb _).mono ?_; rintro e w2 ⟨rfl, hb2⟩; have HE11 := Ext.next (w0 := w) (W := V3) hb2) | (go_at_call 53; refine ci.mono ?_; rintro e w3 ⟨rfl, hb3⟩; have HE12 := Ext.next (w0 := w) (W := V3) hb3))
       go_ret
       exact ⟨rfl, Ext.end⟩
theorem round_c (s neg : Bool) (m : Nat) (e : Int) (more : Bool) (A : Option Addr) (c : Nat) (w : World) (hB : Big w A m) (hc : (digs m).length ≤ c) (hl : (digs m).length ≤ 1000) (h1 : -10000 ≤ e) (h2 : e ≤ 10000) :
  Calls Tryz.prog 43 #[.int .i64 (tv s), .bool neg, .slice A (digs m).length c, .int .i64 e, .bool more] w (Ret (.int .u64 (roundR s neg m e more : Int)) w) := by
 by_cases hm : m = 0
 ·subst hm
  have h := round_c0 s neg e more A c w
  rw [digs_zero]
  unfold roundR
  rw [if_pos rfl]
  exact h
 ·exact round_c1 s neg m e more A c w hm hB hc hl h1 h2
end Go.Proofs.YtmoimcblmmcffaaGreatDoor.NC

namespace Go.Proofs.YtmoimcblmmcffaaGreatDoor.NC
open Go.RowKit Go.Proofs.YtmoimcblmmcffaaGreatDoor.B Go.Proofs.YtmoimcblmmcffaaGreatDoor.N
set_option linter.unusedSimpArgs false
set_option linter.unusedVariables false
theorem len4 {s : Bool} {m : Nat} (h : m < 2 * lowN s) : (digs m).length ≤ 4 := by
 have h2 : m < 2 ^ 53 := by cases s <;> simp [lowN] at h <;> omega
 have := len_bits h2
 omega
end Go.Proofs.YtmoimcblmmcffaaGreatDoor.NC

namespace Go.Proofs.YtmoimcblmmcffaaGreatDoor.NC
open Go.RowKit Go.Proofs.YtmoimcblmmcffaaGreatDoor.B Go.Proofs.YtmoimcblmmcffaaGreatDoor.N
set_option linter.unusedSimpArgs false
set_option linter.unusedVariables false
def mulP (s : Bool) (p q : PP) : Nat :=
 if p.kind = 3 ∨ q.kind = 3 ∨ (p.kind = 2 ∧ q.kind = 0) ∨ (p.kind = 0 ∧ q.kind = 2) then nanN s
 else if p.kind = 2 ∨ q.kind = 2 then bitsR s ⟨2, p.neg != q.neg, 0, 0⟩
 else roundR s (p.neg != q.neg) (p.sig * q.sig) (p.exp + q.exp) false
def mulR (s : Bool) (a b : Nat) : Nat := mulP s (partsR s a) (partsR s b)
end Go.Proofs.YtmoimcblmmcffaaGreatDoor.NC

namespace Go.Proofs.YtmoimcblmmcffaaGreatDoor.NC
open Go.RowKit Go.Proofs.YtmoimcblmmcffaaGreatDoor.B Go.Proofs.YtmoimcblmmcffaaGreatDoor.N
set_option linter.unusedSimpArgs false
set_option linter.unusedVariables false
def divP (s : Bool) (p q : PP) : Nat :=
 if p.kind = 3 ∨ q.kind = 3 ∨ (p.kind = q.kind ∧ p.kind ≠ 1) then nanN s
 else if p.kind = 2 ∨ q.kind = 0 then bitsR s ⟨2, p.neg != q.neg, 0, 0⟩
 else if p.kind = 0 ∨ q.kind = 2 then bitsR s ⟨0, p.neg != q.neg, 0, 0⟩
 else roundR s (p.neg != q.neg) (p.sig * 2 ^ 120 / q.sig) (p.exp - q.exp - 120) (decide (0 < p.sig * 2 ^ 120 % q.sig))
def divR (s : Bool) (a b : Nat) : Nat := divP s (partsR s a) (partsR s b)
end Go.Proofs.YtmoimcblmmcffaaGreatDoor.NC

namespace Fl
open Ieee
set_option linter.unusedSimpArgs false
set_option linter.unusedVariables false
theorem rnd_parts (Q c d : Nat) (hc : c < 2 ^ d) : rnd (Q * 2 ^ d + c) d = if 2 * c < 2 ^ d then Q else if 2 * c = 2 ^ d then Q + Q % 2 else Q + 1 := by
 have hF : 0 < 2 ^ d := Nat.two_pow_pos _
 unfold rnd
 rw [Nat.add_comm (Q * 2 ^ d), Nat.add_mul_div_right _ _ hF, Nat.div_eq_of_lt hc, Nat.zero_add, Nat.add_mul_mod_self_right, Nat.mod_eq_of_lt hc]
 generalize 2 ^ d = F at *
 by_cases h1 : 2 * c < F
 ·rw [if_pos h1, decide_eq_false (by omega : ¬ F < 2 * c), show (F == 2 * c) = false from by simp; omega]
  simp
 ·rw [if_neg h1]
  by_cases h2 : 2 * c = F
  ·rw [if_pos h2, decide_eq_false (by omega : ¬ F < 2 * c), show (F == 2 * c) = true from by simp [h2]]
   rcases Nat.mod_two_eq_zero_or_one Q with h | h <;> simp [h]
  ·rw [if_neg h2, decide_eq_true (by omega : F < 2 * c)]
   simp
theorem rnd_split (n d : Nat) : n = n / 2 ^ d * 2 ^ d + n % 2 ^ d ∧ n % 2 ^ d < 2 ^ d := ⟨by rw [Nat.mul_comm]; exact (Nat.div_add_mod _ _).symm, Nat.mod_lt _ (Nat.two_pow_pos _)⟩
theorem rnd_twice (S D e : Nat) (he : 0 < e) (h : rnd S D % 2 ^ e ≠ 2 ^ (e - 1) ∨ S = rnd S D * 2 ^ D) : rnd (rnd S D) e = rnd S (D + e) := by
 by_cases hx : S = rnd S D * 2 ^ D
 ·conv => rhs; rw [hx]
  exact (rnd_scale _ _ _).symm
 have h' : rnd S D % 2 ^ e ≠ 2 ^ (e - 1) := h.elim id (fun h => absurd h hx)
 clear h
 obtain ⟨a1, a2⟩ := rnd_split S D
 obtain ⟨b1, b2⟩ := rnd_split (S / 2 ^ D) e
 have hT := rnd_parts (S / 2 ^ D) (S % 2 ^ D) D a2
 rw [← a1] at hT
 generalize hr : S % 2 ^ D = r at *
 generalize hs : S / 2 ^ D = s at *
 generalize hQ : s / 2 ^ e = Q at *
 generalize hc : s % 2 ^ e = c at *
 have hS : S = Q * 2 ^ (D + e) + (c * 2 ^ D + r) := by
  rw [a1, b1, Nat.pow_add, Nat.add_mul, Nat.mul_assoc, Nat.mul_comm (2 ^ e), Nat.add_assoc]
 have hD : 0 < 2 ^ D := Nat.two_pow_pos _
 have hE : 2 ^ e = 2 * 2 ^ (e - 1) := by
  obtain ⟨k, rfl⟩ : ∃ k, e = k + 1 := ⟨e - 1, by omega⟩
  rw [Nat.pow_succ, Nat.add_sub_cancel, Nat.mul_comm]
 have hcr : c * 2 ^ D + r < 2 ^ (D + e) := by
  have : (c + 1) * 2 ^ D ≤ 2 ^ e * 2 ^ D := Nat.mul_le_mul_right _ b2
  rw [Nat.add_mul, Nat.one_mul] at this
  rw [Nat.pow_add, Nat.mul_comm (2 ^ D)]; omega
 have hP : 2 ^ (D + e) = 2 * (2 ^ (e - 1) * 2 ^ D) := by rw [Nat.pow_add, hE, Nat.mul_comm (2 ^ D), Nat.mul_assoc]
 have hR := rnd_parts Q _ _ hcr
 rw [← hS, hP] at hR
 rw [hR]
 clear hR
 generalize rnd S D = T at *
 obtain ⟨u, hu, hu1⟩ : ∃ u, T = s + u ∧ ((u = 0 ∧ (0 < c ∨ True)) ∨ (u = 1 ∧ 0 < r)) := by
  by_cases c1 : 2 * r < 2 ^ D
  ·rw [if_pos c1] at hT; exact ⟨0, by omega, .inl ⟨rfl, .inr trivial⟩⟩
  ·rw [if_neg c1] at hT
   by_cases c2 : 2 * r = 2 ^ D
   ·rw [if_pos c2] at hT
    rcases Nat.mod_two_eq_zero_or_one s with h | h
    ·exact ⟨0, by omega, .inl ⟨rfl, .inr trivial⟩⟩
    ·exact ⟨1, by omega, .inr ⟨rfl, by omega⟩⟩
   ·rw [if_neg c2] at hT; exact ⟨1, by omega, .inr ⟨rfl, by omega⟩⟩
 have hTu : T = Q * 2 ^ e + (c + u) := by omega
 generalize 2 ^ (e - 1) = H at *
 generalize 2 ^ D = P at *
 by_cases k1 : c + u < H
 ·have hlt : (c + 1) * P ≤ H * P := Nat.mul_le_mul_right _ (by omega)
  rw [Nat.add_mul, Nat.one_mul] at hlt
  rw [if_pos (by omega), hTu, rnd_parts _ _ _ (by omega), if_pos (by omega)]
 ·by_cases k2 : c + u = H
  ·exfalso
   apply h'
   rw [hTu, Nat.add_comm, Nat.add_mul_mod_self_right, Nat.mod_eq_of_lt (by omega), k2]
  ·have hgt : H * P < c * P + r := by
    rcases hu1 with ⟨hu0, -⟩ | ⟨hu0, hr0⟩
    ·have : (H + 1) * P ≤ c * P := Nat.mul_le_mul_right _ (by omega)
     rw [Nat.add_mul, Nat.one_mul] at this; omega
    ·have : H * P ≤ c * P := Nat.mul_le_mul_right _ (by omega)
     omega
   rw [if_neg (by omega), if_neg (by omega)]
   by_cases k3 : c + u < 2 ^ e
   ·rw [hTu, rnd_parts _ _ _ k3, if_neg (by omega), if_neg (by omega)]
   ·have : c + u = 2 ^ e := by rcases hu1 with ⟨hu0, -⟩ | ⟨hu0, -⟩ <;> omega
    rw [hTu, this, show Q * 2 ^ e + 2 ^ e = (Q + 1) * 2 ^ e from by rw [Nat.add_mul, Nat.one_mul], rnd_exact]
theorem sq_gap (y k : Nat) : (y + k) * (y + k) = y * y + k * (k + 2 * y) := by
 have e : k * (2 * y) = 2 * (y * k) := by rw [Nat.mul_left_comm, Nat.mul_comm k]
 simp only [Nat.add_mul, Nat.mul_add, Nat.mul_comm k y, e]; omega
theorem near_middle (P M S X t c : Nat) (hP : 2 ≤ P) (hM : M = t * (268435456 * P)) (hX : X = c * (268435456 * P * (268435456 * P))) (hd : S ≤ M → 2 * (M - S) ≤ P) (hd2 : M ≤ S → 2 * (S - M) ≤ P) (hS : S < 9007199254740992 * P)
  (h : S * S = X ∨ (1 ≤ S ∧ (S - 1) * (S - 1) < X ∧ X < (S + 1) * (S + 1))) : S = M := by
 have hMM : M * M = t * t * (268435456 * P * (268435456 * P)) := by rw [hM, Nat.mul_mul_mul_comm]
 have hU : 268435456 * P * (268435456 * P) = 72057594037927936 * (P * P) := by rw [Nat.mul_mul_mul_comm]
 have hPP : 0 < P * P := Nat.mul_pos (by omega) (by omega)
 rcases Nat.lt_trichotomy X (M * M) with hl | hl | hl
 ·exfalso
  have hc : X + 268435456 * P * (268435456 * P) ≤ M * M := by
   rw [hX, hMM] at *
   have : c < t * t := Nat.lt_of_mul_lt_mul_right hl
   have := Nat.mul_le_mul_right (268435456 * P * (268435456 * P)) (Nat.succ_le_of_lt this)
   rw [Nat.succ_mul] at this
   exact this
  have hlow : (S - 1) * (S - 1) ≤ X := by
   rcases h with h | ⟨_, h, _⟩
   ·rw [← h]; exact Nat.mul_le_mul (by omega) (by omega)
   ·omega
  have hlt : S - 1 < M := sq_lt (by omega)
  obtain ⟨g, hg⟩ : ∃ g, M = (S - 1) + g := ⟨M - (S - 1), by omega⟩
  have hgP : g ≤ P := by
   by_cases c : S ≤ M
   ·have := hd c; omega
   ·have := hd2 (by omega); omega
  have e := sq_gap (S - 1) g
  rw [← hg] at e
  have hb : g * (g + 2 * (S - 1)) ≤ P * (36028797018963968 * P) := Nat.mul_le_mul hgP (by omega)
  rw [Nat.mul_left_comm] at hb
  omega
 ·rcases h with h | ⟨h1, h2, h3⟩
  ·have a := sq_le (Nat.le_of_eq (h.trans hl)); have b := sq_le (Nat.le_of_eq (h.trans hl).symm); omega
  ·rw [hl] at h2 h3
   have a := sq_lt h2; have b := sq_lt h3; omega
 ·exfalso
  have hc : M * M + 268435456 * P * (268435456 * P) ≤ X := by
   rw [hX, hMM] at *
   have : t * t < c := Nat.lt_of_mul_lt_mul_right hl
   have := Nat.mul_le_mul_right (268435456 * P * (268435456 * P)) (Nat.succ_le_of_lt this)
   rw [Nat.succ_mul] at this
   exact this
  have hup : X ≤ (S + 1) * (S + 1) := by
   rcases h with h | ⟨_, _, h⟩
   ·rw [← h]; exact Nat.mul_le_mul (by omega) (by omega)
   ·omega
  have hlt : M < S + 1 := sq_lt (by omega)
  obtain ⟨g, hg⟩ : ∃ g, S + 1 = M + g := ⟨S + 1 - M, by omega⟩
  have hgP : g ≤ P := by have := hd2 (by omega); omega
  have e := sq_gap M g
  rw [← hg] at e
  have hb : g * (g + 2 * M) ≤ P * (36028797018963968 * P) := Nat.mul_le_mul hgP (by omega)
  rw [Nat.mul_left_comm] at hb
  omega
theorem root_middle (a K R D : Nat) (h : IsRt (a * 4 ^ K) R) (hK : D + 27 ≤ K) (hD : 1 ≤ D) (hS : rs (a * 4 ^ K) R < 2 ^ (D + 53)) :
  rnd (rs (a * 4 ^ K) R) D % 2 ^ 29 ≠ 2 ^ (29 - 1) ∨ rs (a * 4 ^ K) R = rnd (rs (a * 4 ^ K) R) D * 2 ^ D := by
 by_cases hm : rnd (rs (a * 4 ^ K) R) D % 2 ^ 29 = 2 ^ (29 - 1)
 ·right
  obtain ⟨s1, s2⟩ := rnd_split (rs (a * 4 ^ K) R) D
  have hT := rnd_parts (rs (a * 4 ^ K) R / 2 ^ D) (rs (a * 4 ^ K) R % 2 ^ D) D s2
  rw [← s1] at hT
  have hX : 4 * (a * 4 ^ K) = 4 * a * 4 ^ (K - (28 + D)) * (268435456 * 2 ^ D * (268435456 * 2 ^ D)) ∨ K = D + 27 := by
   by_cases c : K = D + 27
   ·exact .inr c
   ·left
    have e1 : 268435456 * 2 ^ D * (268435456 * 2 ^ D) = 4 ^ (28 + D) := by
     rw [show (268435456 : Nat) = 2 ^ 28 from rfl, ← Nat.pow_add, ← Nat.mul_pow]
    rw [e1, Nat.mul_assoc (4 * a), ← Nat.pow_add, show K - (28 + D) + (28 + D) = K from by omega, Nat.mul_assoc]
  have hX' : ∃ c, 4 * (a * 4 ^ K) = c * (268435456 * 2 ^ D * (268435456 * 2 ^ D)) := by
   rcases hX with h | h
   ·exact ⟨_, h⟩
   ·refine ⟨a, ?_⟩
    have e1 : 268435456 * 2 ^ D * (268435456 * 2 ^ D) = 4 ^ (28 + D) := by
     rw [show (268435456 : Nat) = 2 ^ 28 from rfl, ← Nat.pow_add, ← Nat.mul_pow]
    rw [e1, h, show 28 + D = D + 27 + 1 from by omega, Nat.pow_succ 4 (D + 27), Nat.mul_left_comm, Nat.mul_comm 4]
  clear hX
  obtain ⟨c, hX⟩ := hX'
  have hrt : rs (a * 4 ^ K) R * rs (a * 4 ^ K) R = 4 * (a * 4 ^ K) ∨ (1 ≤ rs (a * 4 ^ K) R ∧ (rs (a * 4 ^ K) R - 1) * (rs (a * 4 ^ K) R - 1) < 4 * (a * 4 ^ K) ∧ 4 * (a * 4 ^ K) < (rs (a * 4 ^ K) R + 1) * (rs (a * 4 ^ K) R + 1)) := by
   obtain ⟨h1, h2⟩ := h
   unfold rs
   generalize a * 4 ^ K = A at *
   by_cases e : R * R = A
   ·left
    rw [show (R * R != A) = false from by simpa using e]
    simp only [Bool.toNat_false, Nat.add_zero]
    rw [Nat.mul_mul_mul_comm, e]
   ·right
    rw [show (R * R != A) = true from by simpa using e]
    simp only [Bool.toNat_true]
    refine ⟨by omega, ?_, ?_⟩
    ·rw [Nat.add_sub_cancel, Nat.mul_mul_mul_comm]; omega
    ·rw [show 2 * R + 1 + 1 = 2 * (R + 1) from by omega, Nat.mul_mul_mul_comm]; omega
  have hpow : 2 ^ (D + 53) = 9007199254740992 * 2 ^ D := by rw [Nat.pow_add, Nat.mul_comm]
  rw [hpow] at hS
  have hP : 2 ≤ 2 ^ D := Nat.pow_le_pow_right (n := 2) (i := 1) (by decide) hD
  generalize rnd (rs (a * 4 ^ K) R) D = T at *
  generalize rs (a * 4 ^ K) R / 2 ^ D = s at *
  generalize rs (a * 4 ^ K) R % 2 ^ D = r at *
  generalize rs (a * 4 ^ K) R = S at *
  generalize 4 * (a * 4 ^ K) = X at *
  generalize 2 ^ D = P at *
  have ht : ∃ t, T = t * 268435456 := ⟨T / 268435456, by
   have e := Nat.div_add_mod T (2 ^ 29)
   rw [hm] at e
   omega⟩
  obtain ⟨t, ht⟩ := ht
  have hsP : (s + 1) * P = s * P + P := by rw [Nat.add_mul, Nat.one_mul]
  refine near_middle P (T * P) S X t c hP (by rw [ht, Nat.mul_assoc]) hX ?_ ?_ hS hrt
  ·intro hle
   by_cases c1 : 2 * r < P
   ·rw [if_pos c1] at hT; subst hT; omega
   ·rw [if_neg c1] at hT
    by_cases c2 : 2 * r = P
    ·rw [if_pos c2] at hT
     rcases Nat.mod_two_eq_zero_or_one s with h | h <;> rw [h] at hT <;> subst hT <;> (try simp only [Nat.add_zero] at *) <;> omega
    ·rw [if_neg c2] at hT; subst hT; omega
  ·intro hle
   by_cases c1 : 2 * r < P
   ·rw [if_pos c1] at hT; subst hT; omega
   ·rw [if_neg c1] at hT
    by_cases c2 : 2 * r = P
    ·rw [if_pos c2] at hT
     rcases Nat.mod_two_eq_zero_or_one s with h | h <;> rw [h] at hT <;> subst hT <;> (try simp only [Nat.add_zero] at *) <;> omega
    ·rw [if_neg c2] at hT; subst hT; omega
 ·exact .inl hm
end Fl

namespace Fl
open Ieee Go
set_option linter.unusedSimpArgs false
set_option linter.unusedVariables false
theorem two_pow_sq (k : Nat) : (2 : Nat) ^ (2 * k) = 4 ^ k := by rw [Nat.pow_mul]
theorem root_rung (f : Format) (m : Nat) (i : Int) (hm : m ≠ 0) : ∃ S q, (Datum.number false m i).root (f.fractionBits + 2) = some (.number false S q) ∧ S ≠ 0 ∧
  ∀ K R : Nat, IsRt (m * 2 ^ (i % 2).toNat * 4 ^ K) R → 2 ^ (f.fractionBits + 2) ≤ rs (m * 2 ^ (i % 2).toNat * 4 ^ K) R → rung f S q = rung f (rs (m * 2 ^ (i % 2).toNat * 4 ^ K) R) ((i - i % 2) / 2 - 1 - K) := by
 simp only [Datum.root, hm, Bool.false_eq_true, if_false]
 generalize hmore : 2 * (f.fractionBits + 2) - m.log2 = mo
 have hpar : (i - (mo : Int)) % 2 = 0 ∨ (i - (mo : Int)) % 2 = 1 := by omega
 obtain ⟨M, hM⟩ : ∃ M, mo + ((i - (mo : Int)) % 2).toNat = M := ⟨_, rfl⟩
 rw [hM]
 have hMi : (i - (M : Int)) % 2 = 0 := by omega
 have hMp : (M : Int) % 2 = i % 2 := by omega
 obtain ⟨κ, hκ⟩ : ∃ κ, M = (i % 2).toNat + 2 * κ := ⟨M / 2, by omega⟩
 have hn : m <<< M = m * 2 ^ (i % 2).toNat * 4 ^ κ := by
  rw [Nat.shiftLeft_eq, hκ, Nat.pow_add, two_pow_sq, ← Nat.mul_assoc]
 have hroot := root_is (m <<< M)
 generalize hR0 : Datum.rootFrom (m <<< M) ((m <<< M).log2 / 2 + 1) 0 = R0 at *
 have hbig : 2 ^ (f.fractionBits + 2) ≤ R0 := by
  have h1 := Nat.log2_self_le hm
  have h2 : 2 ^ (f.fractionBits + 2) * 2 ^ (f.fractionBits + 2) ≤ m <<< M := by
   rw [Nat.shiftLeft_eq, ← Nat.pow_add]
   refine Nat.le_trans ?_ (Nat.mul_le_mul_right (2 ^ M) h1)
   rw [← Nat.pow_add]
   exact Nat.pow_le_pow_right (by decide) (by omega)
  have := sq_lt (Nat.lt_of_le_of_lt h2 hroot.2)
  omega
 have hp : 0 < 2 ^ (f.fractionBits + 2) := Nat.two_pow_pos _
 refine ⟨_, _, rfl, by omega, fun K R hK hb => ?_⟩
 rw [hn] at hroot
 rw [hn]
 have hb0 : 2 ^ (f.fractionBits + 2) ≤ rs (m * 2 ^ (i % 2).toNat * 4 ^ κ) R0 := by unfold rs; omega
 have := rung_rs f (m * 2 ^ (i % 2).toNat) κ K R0 R ((i - i % 2) / 2 - 1) hroot hK hb0 hb
 rw [← this]
 show rung f (rs (m * 2 ^ (i % 2).toNat * 4 ^ κ) R0) _ = _
 congr 1
 omega
theorem root_same (f : Format) {m n : Nat} {i j b : Int} (hm : m ≠ 0) (h1 : b ≤ i) (h2 : b ≤ j) (h : m * 2 ^ (i - b).toNat = n * 2 ^ (j - b).toNat) (K R : Nat) (hR : IsRt (m * 2 ^ (i % 2).toNat * 4 ^ K) R) (hb : 2 ^ (f.fractionBits + 2) ≤ rs (m * 2 ^ (i % 2).toNat * 4 ^ K) R)
  (hK : (i - j).toNat + 2 ≤ 2 * K) :
  ∃ S q, (Datum.number false n j).root (f.fractionBits + 2) = some (.number false S q) ∧ S ≠ 0 ∧ rung f S q = rung f (rs (m * 2 ^ (i % 2).toNat * 4 ^ K) R) ((i - i % 2) / 2 - 1 - K) := by
 have hn : n ≠ 0 := by
  rintro rfl
  rw [Nat.zero_mul] at h
  have := Nat.two_pow_pos (i - b).toNat
  rcases Nat.mul_eq_zero.1 h with h | h <;> omega
 obtain ⟨S, q, e1, e0, e2⟩ := root_rung f n j hn
 refine ⟨S, q, e1, e0, ?_⟩
 obtain ⟨K', hK'⟩ : ∃ K' : Nat, (K' : Int) = K + ((j - j % 2) / 2 - (i - i % 2) / 2) := ⟨(K + ((j - j % 2) / 2 - (i - i % 2) / 2)).toNat, by omega⟩
 have hA : n * 2 ^ (j % 2).toNat * 4 ^ K' = m * 2 ^ (i % 2).toNat * 4 ^ K := by
  rw [← two_pow_sq, ← two_pow_sq, Nat.mul_assoc, Nat.mul_assoc, ← Nat.pow_add, ← Nat.pow_add]
  have c1 : ((j % 2).toNat + 2 * K' : Int) - j = ((i % 2).toNat + 2 * K : Int) - i := by omega
  by_cases hle : (i - b).toNat ≤ (i % 2).toNat + 2 * K
  ·obtain ⟨u, hu⟩ : ∃ u, (i % 2).toNat + 2 * K = (i - b).toNat + u := ⟨(i % 2).toNat + 2 * K - (i - b).toNat, by omega⟩
   rw [hu, show (j % 2).toNat + 2 * K' = (j - b).toNat + u from by omega, Nat.pow_add, Nat.pow_add, ← Nat.mul_assoc, ← Nat.mul_assoc, h]
  ·obtain ⟨u, hu⟩ : ∃ u, (i - b).toNat = (i % 2).toNat + 2 * K + u := ⟨(i - b).toNat - ((i % 2).toNat + 2 * K), by omega⟩
   rw [hu, show (j - b).toNat = (j % 2).toNat + 2 * K' + u from by omega, Nat.pow_add 2 ((i % 2).toNat + 2 * K), Nat.pow_add 2 ((j % 2).toNat + 2 * K'), ← Nat.mul_assoc, ← Nat.mul_assoc] at h
   exact (Nat.eq_of_mul_eq_mul_right (Nat.two_pow_pos u) h).symm
 have := e2 K' R (by rw [hA]; exact hR) (by rw [hA]; exact hb)
 rw [this, hA]
 congr 1
 omega
theorem log2_le_of {n k : Nat} (h : n < 2 ^ (k + 1)) : n.log2 ≤ k := by
 by_cases h0 : n = 0
 ·subst h0; simp
 ·have := (Nat.log2_lt h0).2 h; omega
theorem narrow_rung (a K R : Nat) (q : Int) (ha : a ≠ 0) (ha2 : a < 2 ^ 25) (hK : K = 100) (h : IsRt (a * 4 ^ K) R) (h1 : -200 ≤ q) (h2 : q ≤ -40) :
  rung double (rs (a * 4 ^ K) R) q < double.infRung ∧ rung single (keptOf double (rs (a * 4 ^ K) R) q) (lastOf double (rs (a * 4 ^ K) R) q) = rung single (rs (a * 4 ^ K) R) q ∧ rung single (rs (a * 4 ^ K) R) q < single.infRung ∧ 2 ^ 100 ≤ rs (a * 4 ^ K) R := by
 have hlow : 2 ^ 100 ≤ R := by
  have h3 : 2 ^ 100 * 2 ^ 100 ≤ a * 4 ^ K := by
   subst hK
   have : 1 * 4 ^ 100 ≤ a * 4 ^ 100 := Nat.mul_le_mul_right _ (by omega)
   rw [Nat.one_mul] at this
   exact this
  have := sq_lt (Nat.lt_of_le_of_lt h3 h.2)
  omega
 have hhigh : R < 2 ^ 113 := by
  have h3 : a * 4 ^ K < 2 ^ 113 * 2 ^ 113 := by
   subst hK
   have : a * 4 ^ 100 < 2 ^ 25 * 4 ^ 100 := Nat.mul_lt_mul_of_pos_right ha2 (by decide)
   exact Nat.lt_of_lt_of_le this (by decide)
  exact sq_lt (Nat.lt_of_le_of_lt h.1 h3)
 have hrs : rs (a * 4 ^ K) R = 2 * R + (R * R != a * 4 ^ K).toNat := rfl
 have hbit := bit_le (R * R != a * 4 ^ K)
 have hS1 : 2 ^ 101 ≤ rs (a * 4 ^ K) R := by omega
 have hS2 : rs (a * 4 ^ K) R < 2 ^ 114 := by omega
 have hS0 : rs (a * 4 ^ K) R ≠ 0 := by omega
 have hmid := fun D => root_middle a K R D h
 have l1 : 101 ≤ (rs (a * 4 ^ K) R).log2 := (Nat.le_log2 hS0).2 hS1
 have l2 : (rs (a * 4 ^ K) R).log2 ≤ 113 := log2_le_of hS2
 have l3 : rs (a * 4 ^ K) R < 2 ^ ((rs (a * 4 ^ K) R).log2 + 1) := Nat.lt_log2_self
 have l4 := Nat.log2_self_le hS0
 clear hrs hbit hlow hhigh hS2 h
 have hS3 : 2 ^ 100 ≤ rs (a * 4 ^ K) R := by omega
 clear hS1
 generalize rs (a * 4 ^ K) R = S at *
 obtain ⟨l, hl⟩ : ∃ l, S.log2 = l := ⟨_, rfl⟩
 rw [hl] at l1 l2 l3 l4
 obtain ⟨D, hD⟩ : ∃ D, l = 52 + D := ⟨l - 52, by omega⟩
 have hm := hmid D (by omega) (by omega) (by rw [show D + 53 = l + 1 from by omega]; exact l3)
 have htw := Lib.hid (rnd_twice S D 29 (by decide) hm)
 have hLd : lastOf double S q = q + D := by
  unfold lastOf; rw [hl, double_least]
  show max (q + (l : Int) - 52) (-1074) = q + D
  omega
 have hLs : lastOf single S q = q + D + 29 := by
  unfold lastOf; rw [hl, single_least]
  show max (q + (l : Int) - 23) (-149) = q + D + 29
  omega
 have hkd : keptOf double S q = rnd S D := by
  unfold keptOf; rw [hLd, show (q - (q + D)).toNat = 0 from by omega, show (q + D - q).toNat = D from by omega]; rfl
 have hks : keptOf single S q = rnd S (D + 29) := by
  unfold keptOf; rw [hLs, show (q - (q + D + 29)).toNat = 0 from by omega, show (q + D + 29 - q).toNat = D + 29 from by omega]; rfl
 have r1 : rnd S D ≤ 9007199254740992 := by
  refine rnd_le ?_
  rw [show (9007199254740992 : Nat) = 2 ^ 53 from rfl, ← Nat.pow_add, show 53 + D = l + 1 from by omega]; exact Nat.le_of_lt l3
 have r2 : 4503599627370496 ≤ rnd S D := by
  refine le_rnd ?_
  rw [show (4503599627370496 : Nat) = 2 ^ 52 from rfl, ← Nat.pow_add, ← hD]; exact l4
 have r3 : rnd S (D + 29) ≤ 16777216 := by
  refine rnd_le ?_
  rw [show (16777216 : Nat) = 2 ^ 24 from rfl, ← Nat.pow_add, show 24 + (D + 29) = l + 1 from by omega]; exact Nat.le_of_lt l3
 clear l3 l4 hm hmid ha ha2
 refine ⟨?_, ?_, ?_, hS3⟩
 ·clear hS3; unfold rung
  rw [if_neg hS0, hLd, hkd, double_least, double_binade, double_inf]
  have : (q + D - -1074).toNat ≤ 1200 := by omega
  refine Nat.lt_of_le_of_lt (Nat.min_le_left _ _) ?_
  omega
 ·clear hS3
  rw [hLd, hkd]
  have hne : rnd S D ≠ 0 := by omega
  have htw2 := htw.out
  clear htw
  generalize rnd S D = T at *
  have hs : rung single S q = min ((q + D + 29 - -149).toNat * 8388608 + rnd T 29) 2139095040 := by
   unfold rung
   rw [if_neg hS0, hLs, hks, single_least, single_binade, single_inf, ← htw2]
  rw [hs]
  by_cases c : T < 9007199254740992
  ·have hlT : T.log2 = 52 := by rw [Nat.log2_eq_iff (by omega)]; exact ⟨r2, c⟩
   have hL : lastOf single T (q + D) = q + D + 29 := by
    unfold lastOf; rw [hlT, single_least]
    show max (q + D + (52 : Int) - 23) (-149) = q + D + 29
    omega
   have hk : keptOf single T (q + D) = rnd T 29 := by
    unfold keptOf; rw [hL, show (q + D - (q + D + 29)).toNat = 0 from by omega, show (q + D + 29 - (q + D)).toNat = 29 from by omega]; rfl
   unfold rung
   rw [if_neg (by omega), hL, hk, single_least, single_binade, single_inf]
  ·obtain rfl : T = 9007199254740992 := by omega
   have hlT : (9007199254740992 : Nat).log2 = 53 := by rw [Nat.log2_eq_iff (by decide)]; decide
   have hL : lastOf single 9007199254740992 (q + D) = q + D + 30 := by
    unfold lastOf; rw [hlT, single_least]
    show max (q + D + (53 : Int) - 23) (-149) = q + D + 30
    omega
   have hk : keptOf single 9007199254740992 (q + D) = 8388608 := by
    unfold keptOf; rw [hL, show (q + D - (q + D + 30)).toNat = 0 from by omega, show (q + D + 30 - (q + D)).toNat = 30 from by omega]; decide
   have hk2 : rnd 9007199254740992 29 = 16777216 := by decide
   unfold rung
   rw [if_neg (by decide), hL, hk, hk2, single_least, single_binade, single_inf]
   rw [show (q + D + 30 - -149).toNat * 8388608 + 8388608 = (q + D + 29 - -149).toNat * 8388608 + 16777216 from by omega]
 ·clear hS3; unfold rung
  rw [if_neg hS0, hLs, hks, single_least, single_binade, single_inf]
  have : (q + D + 29 - -149).toNat ≤ 200 := by omega
  refine Nat.lt_of_le_of_lt (Nat.min_le_left _ _) ?_
  omega
end Fl

namespace Go.Proofs.YtmoimcblmmcffaaGreatDoor.NC
open Go.RowKit Go.Proofs.YtmoimcblmmcffaaGreatDoor.B Go.Proofs.YtmoimcblmmcffaaGreatDoor.N
set_option linter.unusedSimpArgs false
set_option linter.unusedVariables false
theorem nan_eq (s : Bool) : nanV s = (nanN s : Int) := by cases s <;> rfl
theorem top_sgn (s : Bool) : topV s = ((2 * signN s : Nat) : Int) := by cases s <;> rfl
end Go.Proofs.YtmoimcblmmcffaaGreatDoor.NC

namespace Go.Proofs.YtmoimcblmmcffaaGreatDoor.NC
open Go.RowKit Go.Proofs.YtmoimcblmmcffaaGreatDoor.B Go.Proofs.YtmoimcblmmcffaaGreatDoor.N
set_option linter.unusedSimpArgs false
set_option linter.unusedVariables false
def fromR (s : Bool) (n : Int) : Nat := roundR s (decide (n < 0)) n.natAbs 0 false
end Go.Proofs.YtmoimcblmmcffaaGreatDoor.NC

namespace Go.Proofs.YtmoimcblmmcffaaGreatDoor.NC
open Go.RowKit Go.Proofs.YtmoimcblmmcffaaGreatDoor.B Go.Proofs.YtmoimcblmmcffaaGreatDoor.N
set_option linter.unusedSimpArgs false
set_option linter.unusedVariables false
abbrev fm (s : Bool) : Ieee.Format := (fkOf s).format
theorem fm_binade (s : Bool) : (fm s).binade = lowN s := by cases s <;> decide
theorem fm_least (s : Bool) : (fm s).leastPlace = leastN s := by cases s <;> decide
theorem fm_sign (s : Bool) : (fm s).signWeight = signN s := by cases s <;> decide
theorem fm_inf (s : Bool) : (fm s).infRung = lowN s * (fieldN s - 1) := by cases s <;> decide
theorem fm_prec (s : Bool) : precN s = (fm s).fractionBits + 1 := by cases s <;> rfl
theorem low_prec (s : Bool) : 2 ^ precN s = 2 * lowN s := by cases s <;> rfl
theorem low_pos (s : Bool) : 0 < lowN s := by cases s <;> decide
theorem field_three (s : Bool) : 3 ≤ fieldN s := by cases s <;> decide
theorem low_field (s : Bool) : lowN s * fieldN s = signN s := by cases s <;> rfl
theorem most_field (s : Bool) : (fieldN s : Int) - 3 + leastN s = mostN s := by cases s <;> decide
theorem fm_word (s neg : Bool) (r : Nat) : (fm s).word neg r = sgnN s neg + r := by
 unfold Ieee.Format.word sgnN
 rw [fm_sign]
 cases neg <;> simp
inductive Told (s : Bool) (a : Nat) : PP → Prop
 | zero (neg : Bool) (h : a = (fm s).word neg 0) (hr : (fm s).read a = .number neg 0 (leastN s)) : Told s a ⟨0, neg, 0, 0⟩
 | fin (neg : Bool) (m : Nat) (e : Int) (r : Nat) (h0 : 0 < r) (h1 : r < (fm s).infRung) (h : a = (fm s).word neg r) (hm : 1 ≤ m) (hm2 : m < 2 * lowN s) (he : leastN s ≤ e) (he2 : e ≤ mostN s) (hb : ∀ n, bitsR s ⟨1, n, m, e⟩ = (fm s).word n r) (hr : (fm s).read a = .number neg m e) : Told s a ⟨1, neg, m, e⟩
 | inf (neg : Bool) (h : a = (fm s).word neg (fm s).infRung) (hr : (fm s).read a = .infinity neg) : Told s a ⟨2, neg, 0, 0⟩
 | nan (neg : Bool) (r t : Nat) (n : Bool) (h0 : (fm s).infRung < r) (h1 : r < signN s) (h : a = (fm s).word neg r) (hr : (fm s).read a = .nan n t) : Told s a ⟨3, false, 0, 0⟩
theorem told (s : Bool) (a : Nat) (ha : a < 2 * signN s) : Told s a (partsR s a) := by
 have hl := low_pos s
 have hf3 := field_three s
 have hlf := low_field s
 have hmf := most_field s
 have hr : a % lowN s < lowN s := Nat.mod_lt _ hl
 have hf : a / lowN s % fieldN s < fieldN s := Nat.mod_lt _ (by omega)
 have hrung : a % signN s = a % lowN s + lowN s * (a / lowN s % fieldN s) := by rw [← hlf, Nat.mod_mul]
 have hdiv : a / lowN s / fieldN s = a / signN s := by rw [Nat.div_div_eq_div_mul, hlf]
 have hs0 : 0 < signN s := by cases s <;> decide
 have hd2 : a / signN s < 2 := (Nat.div_lt_iff_lt_mul hs0).2 ha
 have hneg : (a / signN s % 2 == 1) = decide (a / lowN s / fieldN s = 1) := by
  rw [hdiv, Nat.mod_eq_of_lt hd2]
  rw [Bool.eq_iff_iff]; simp
 have hword : a = (fm s).word (decide (a / lowN s / fieldN s = 1)) (a % signN s) := by
  rw [fm_word, hdiv]
  unfold sgnN
  have e := Nat.div_add_mod a (signN s)
  by_cases h1 : a / signN s = 1
  ·rw [decide_eq_true h1, if_pos rfl]; rw [h1, Nat.mul_one] at e; omega
  ·rw [decide_eq_false h1, if_neg (by decide)]
   have h0 : a / signN s = 0 := (by omega : ∀ q : Nat, q < 2 → ¬ q = 1 → q = 0) _ hd2 h1
   rw [h0, Nat.mul_zero] at e; omega
 have hread : (fm s).read a = if a % signN s < lowN s then .number (decide (a / lowN s / fieldN s = 1)) (a % signN s) (leastN s)
   else if a % signN s < lowN s * (fieldN s - 1) then .number (decide (a / lowN s / fieldN s = 1)) (lowN s + a % signN s % lowN s) (leastN s + (a % signN s / lowN s - 1 : Nat))
   else if a % signN s = lowN s * (fieldN s - 1) then .infinity (decide (a / lowN s / fieldN s = 1)) else .nan (decide (a / lowN s / fieldN s = 1)) (a % signN s - lowN s * (fieldN s - 1)) := by
  unfold Ieee.Format.read
  simp only [fm_binade, fm_least, fm_sign, fm_inf, hneg]
 have hlt : a % signN s < signN s := Nat.mod_lt _ hs0
 unfold partsR
 generalize decide (a / lowN s / fieldN s = 1) = neg at *
 generalize a / lowN s % fieldN s = f at *
 have hdv : a % signN s / lowN s = f := by rw [hrung, Nat.add_mul_div_left _ _ hl, Nat.div_eq_of_lt hr, Nat.zero_add]
 have hmd : a % signN s % lowN s = a % lowN s := by rw [hrung, Nat.add_mul_mod_self_left, Nat.mod_mod]
 have hfin := fm_inf s
 rw [hdv, hmd] at hread
 generalize a % signN s = u at *
 generalize a % lowN s = r at *
 clear hneg hdiv hd2 hdv hmd
 have hcase := parts_leaf (s := s) (f := f) (r := r) (neg := neg) rfl
 rcases hcase with ⟨h1, h2, h⟩ | ⟨h1, h2, h⟩ | ⟨h1, h2, h3, h⟩ | ⟨h1, h2, h3, h⟩ | ⟨h1, h2, h⟩ <;> rw [h]
 ·subst h2
  have hu : u = lowN s * (fieldN s - 1) := by rw [hrung, show fieldN s - 1 = f from by omega]; omega
  have hge : lowN s * 1 ≤ lowN s * (fieldN s - 1) := Nat.mul_le_mul_left _ (by omega)
  rw [if_neg (by omega), if_neg (by omega), if_pos hu] at hread
  refine .inf neg ?_ hread
  rw [hfin, ← hu]; exact hword
 ·have hu : u = r + lowN s * (fieldN s - 1) := by rw [hrung, show fieldN s - 1 = f from by omega]
  have hge : lowN s * 1 ≤ lowN s * (fieldN s - 1) := Nat.mul_le_mul_left _ (by omega)
  rw [if_neg (by omega), if_neg (by omega), if_neg (by omega)] at hread
  exact .nan neg u _ neg (by rw [hfin]; omega) hlt hword hread
 ·subst h2 h3
  have hu : u = 0 := by rw [hrung]; omega
  rw [hu] at hread hword
  rw [if_pos hl] at hread
  exact .zero neg hword hread
 ·subst h2
  have hu : u = r := by rw [hrung]; omega
  have hge : lowN s * 1 ≤ lowN s * (fieldN s - 1) := Nat.mul_le_mul_left _ (by omega)
  rw [hu] at hread hword
  rw [if_pos hr] at hread
  exact .fin neg r (leastN s) r (by omega) (by rw [hfin]; omega) hword (by omega) (by omega) (Int.le_refl _) (by omega) (fun n => by
   rw [fm_word]
   unfold bitsR sgnN
   simp [hr]) hread
 ·have hge : lowN s * 1 ≤ lowN s * f := Nat.mul_le_mul_left _ (by omega)
  have hlt2 : lowN s * (f + 1) ≤ lowN s * (fieldN s - 1) := Nat.mul_le_mul_left _ (by omega)
  rw [Nat.mul_add] at hlt2
  rw [if_neg (by omega), if_pos (by omega)] at hread
  have e1 : leastN s + ((f - 1 : Nat) : Int) = (f : Int) - 1 + leastN s := by omega
  rw [e1, Nat.add_comm (lowN s) r] at hread
  exact .fin neg (r + lowN s) ((f : Int) - 1 + leastN s) u (by omega) (by rw [hfin]; omega) hword (by omega) (by omega) (by omega) (by omega) (fun n => by
   rw [fm_word]
   unfold bitsR sgnN
   have n1 : ¬ r + lowN s < lowN s := by omega
   simp only [n1, if_false]
   rw [show ((f : Int) - 1 + leastN s - leastN s + 1).toNat = f from by omega]
   simp
   omega) hread
end Go.Proofs.YtmoimcblmmcffaaGreatDoor.NC

namespace Go.Proofs.YtmoimcblmmcffaaGreatDoor.NC
open Go.RowKit Go.Proofs.YtmoimcblmmcffaaGreatDoor.B Go.Proofs.YtmoimcblmmcffaaGreatDoor.N
set_option linter.unusedSimpArgs false
set_option linter.unusedVariables false
theorem bits_zero (s neg : Bool) : bitsR s ⟨0, neg, 0, 0⟩ = (fm s).word neg 0 := by
 rw [fm_word]; unfold bitsR sgnN; simp
theorem bits_inf (s neg : Bool) : bitsR s ⟨2, neg, 0, 0⟩ = (fm s).word neg (fm s).infRung := by
 rw [fm_word, fm_inf]; unfold bitsR sgnN; simp
theorem bits_nan (s neg : Bool) : bitsR s ⟨3, neg, 0, 0⟩ = nanN s := by unfold bitsR; simp
theorem bits_log (m : Nat) (h : m ≠ 0) : N.bits m = m.log2 + 1 := by unfold N.bits; rw [if_neg h]
theorem round_zero (s neg : Bool) (e : Int) (more : Bool) : roundR s neg 0 e more = (fm s).word neg 0 := by
 unfold roundR; rw [if_pos rfl, bits_zero]
theorem round_word (s neg : Bool) (m : Nat) (e : Int) (more : Bool) (hm : m ≠ 0) : roundR s neg m e more = (fm s).word neg (Fl.rung (fm s) (m * 8 + more.toNat) (e - 3)) := by
 have hm1 : m * 8 + more.toNat ≠ 0 := by omega
 unfold roundR
 rw [if_neg hm]
 simp only [moreOf]
 generalize m * 8 + more.toNat = M at *
 generalize e - 3 = E at *
 have hplace : placeOf s M E = Fl.lastOf (fm s) M E := by
  unfold placeOf Fl.lastOf
  rw [bits_log M hm1, fm_prec, fm_least]
  congr 1; omega
 have hkept : keptOf M E (Fl.lastOf (fm s) M E) = Fl.keptOf (fm s) M E := by
  unfold keptOf Fl.keptOf
  generalize Fl.lastOf (fm s) M E = L
  by_cases h : L ≤ E
  ·rw [if_pos h, show (L - E).toNat = 0 from by omega, Fl.rnd_zero, Nat.shiftLeft_eq]
  ·rw [if_neg h, show (E - L).toNat = 0 from by omega, Nat.shiftLeft_eq, Nat.pow_zero, Nat.mul_one]
 obtain ⟨r1, r2⟩ := Fl.kept_range (fm s) hm1 E
 have r3 := Fl.last_ge (fm s) M E
 rw [hplace, hkept]
 unfold Fl.rung
 rw [if_neg hm1]
 rw [fm_binade, fm_least] at *
 generalize Fl.lastOf (fm s) M E = L at *
 generalize Fl.keptOf (fm s) M E = k at *
 have hl := low_pos s
 have hlp := low_prec s
 have hmf := most_field s
 have hf3 := field_three s
 rw [fm_inf, fm_word]
 have hov : overOf s k L = if k = 2 * lowN s then (lowN s, L + 1) else (k, L) := by
  unfold overOf
  by_cases hk0 : k = 0
  ·subst hk0
   rw [if_neg (by unfold N.bits; simp), if_neg (by omega)]
  ·rw [bits_log k hk0]
   have hb : precN s < k.log2 + 1 ↔ 2 * lowN s ≤ k := by
    rw [← hlp, ← Nat.le_log2 hk0]; omega
   by_cases h2 : k = 2 * lowN s
   ·rw [if_pos (hb.2 (by omega)), if_pos h2, h2]; simp
   ·rw [if_neg (fun h => h2 (by have := hb.1 h; omega)), if_neg h2]
 rw [hov]
 have hpos : ∀ (m : Nat) (e : Int), m ≠ 0 → m < 2 * lowN s → leastN s ≤ e → (leastN s < e → lowN s ≤ m) → bitsR s (packOf s neg m e) = sgnN s neg + min ((e - leastN s).toNat * lowN s + m) (lowN s * (fieldN s - 1)) := by
  intro m e h0 h1 h2 h3
  unfold packOf
  rw [if_neg h0]
  by_cases hbig : e > mostN s
  ·rw [if_pos hbig]
   have hlow : lowN s ≤ m := h3 (by omega)
   have hge : lowN s * (fieldN s - 1) ≤ (e - leastN s).toNat * lowN s + m := by
    have : (fieldN s - 2) * lowN s ≤ (e - leastN s).toNat * lowN s := Nat.mul_le_mul_right _ (by omega)
    rw [show fieldN s - 1 = fieldN s - 2 + 1 from by omega, Nat.mul_comm, Nat.add_mul, Nat.one_mul]
    omega
   rw [Nat.min_eq_right hge, bits_inf, fm_word, fm_inf]
  ·rw [if_neg hbig]
   unfold bitsR sgnN
   simp only [Int.reduceEq, if_false]
   congr 1
   by_cases hlow : m < lowN s
   ·have he : e = leastN s := by
     rcases Int.lt_or_le (leastN s) e with h | h
     ·have := h3 h; omega
     ·omega
    rw [if_pos hlow, he, Int.sub_self]
    have : lowN s * 1 ≤ lowN s * (fieldN s - 1) := Nat.mul_le_mul_left _ (by omega)
    simp; omega
   ·rw [show (e - leastN s + 1).toNat = (e - leastN s).toNat + 1 from by omega]
    have : ((e - leastN s).toNat + 2) * lowN s ≤ (fieldN s - 1) * lowN s := Nat.mul_le_mul_right _ (by omega)
    rw [Nat.mul_comm (lowN s) (fieldN s - 1), Nat.mul_comm (lowN s)]
    rw [Nat.add_mul] at this ⊢
    rw [if_neg hlow]
    omega
 by_cases hk0 : k = 0
 ·subst hk0
  have hL : L = leastN s := by
   rcases Int.lt_or_le (leastN s) L with h | h
   ·have := r2 h; omega
   ·omega
  rw [if_neg (by omega), hL, Int.sub_self]
  unfold packOf
  rw [if_pos rfl]
  unfold bitsR sgnN
  simp
 ·by_cases h2 : k = 2 * lowN s
  ·rw [if_pos h2]
   rw [hpos (lowN s) (L + 1) (by omega) (by omega) (by omega) (fun _ => Nat.le_refl _), h2, show (L + 1 - leastN s).toNat = (L - leastN s).toNat + 1 from by omega, Nat.add_mul]
   congr 2; omega
  ·rw [if_neg h2]
   exact hpos k L hk0 (by omega) r3 r2
theorem round_exact (s neg : Bool) (m : Nat) (e : Int) : roundR s neg m e false = (fm s).word neg (Fl.rung (fm s) m e) := by
 by_cases hm : m = 0
 ·subst hm; rw [round_zero, Fl.rung_zero]
 ·rw [round_word s neg m e false hm]
  have := Fl.rung_scale (fm s) m 3 (e - 3)
  rw [show e - 3 + ((3 : Nat) : Int) = e from by omega] at this
  simp only [Bool.toNat_false, Nat.add_zero]
  rw [← this]
theorem round_near (s neg : Bool) (m : Nat) (e : Int) : roundR s neg m e false = (fm s).nearest neg m e := by rw [round_exact, Fl.nearest_rung]
theorem word_lt (s neg : Bool) {r : Nat} (h : r < signN s) : (fm s).word neg r < 2 * signN s := by
 rw [fm_word]; unfold sgnN; cases neg <;> simp <;> omega
theorem word_mod (s neg : Bool) {r : Nat} (h : r < signN s) : (((fm s).word neg r : Nat) : Int) % signV s = (r : Int) := by
 have hs : signV s = (signN s : Int) := by cases s <;> rfl
 rw [hs, fm_word]
 unfold sgnN
 have : (sgnN s neg + r) % signN s = r := by
  unfold sgnN
  cases neg
  ·simp [Nat.mod_eq_of_lt h]
  ·simp [Nat.mod_eq_of_lt h]
 unfold sgnN at this
 exact_mod_cast this
theorem inf_lt (s : Bool) : (fm s).infRung < signN s := by cases s <;> decide
theorem infV_eq (s : Bool) : infV s = ((fm s).infRung : Int) := by cases s <;> decide
theorem nothing_word (s neg : Bool) {r : Nat} (h : r < signN s) : nothingV s ((fm s).word neg r : Nat) = decide ((fm s).infRung < r) := by
 rw [nothing_iff s _ (by omega) (by rw [top_sgn]; exact_mod_cast word_lt s neg h), word_mod s neg h, infV_eq]
 exact decide_eq_decide.2 (by omega)
theorem clean_word (s neg : Bool) {r : Nat} (h : r ≤ (fm s).infRung) : cleanV s ((fm s).word neg r : Nat) = ((fm s).word neg r : Nat) := by
 unfold cleanV
 rw [nothing_word s neg (Nat.lt_of_le_of_lt h (inf_lt s)), decide_eq_false (by omega)]
 simp
theorem clean_near (s neg : Bool) (m : Nat) (e : Int) : cleanV s ((fm s).nearest neg m e : Nat) = ((fm s).nearest neg m e : Nat) := by
 rw [Fl.nearest_rung]; exact clean_word s neg (Fl.rung_le _ _ _)
end Go.Proofs.YtmoimcblmmcffaaGreatDoor.NC

namespace Go.Proofs.YtmoimcblmmcffaaGreatDoor.NC
open Go.RowKit Go.Proofs.YtmoimcblmmcffaaGreatDoor.B Go.Proofs.YtmoimcblmmcffaaGreatDoor.N
set_option linter.unusedSimpArgs false
set_option linter.unusedVariables false
theorem res_num {s : Bool} {op : BinOp} {a b : Nat} {n : Bool} {m : Nat} {e : Int} (h : floatBits op (fkOf s) a b = some ((fm s).nearest n m e)) : resV s op a b = ((fm s).nearest n m e : Nat) := by
 unfold resV; rw [h]; exact clean_near s n m e
theorem res_inf {s : Bool} {op : BinOp} {a b : Nat} {n : Bool} (h : floatBits op (fkOf s) a b = some ((fm s).word n (fm s).infRung)) : resV s op a b = (bitsR s ⟨2, n, 0, 0⟩ : Nat) := by
 unfold resV; rw [h, bits_inf]; exact clean_word s n (Nat.le_refl _)
theorem res_nan {s : Bool} {op : BinOp} {a b : Nat} (h : floatBits op (fkOf s) a b = none) : resV s op a b = (nanN s : Nat) := by
 unfold resV; rw [h]; exact nan_eq s
theorem near_zero (s n : Bool) (e : Int) : (fm s).nearest n 0 e = bitsR s ⟨0, n, 0, 0⟩ := by
 rw [Fl.nearest_rung, Fl.rung_zero, bits_zero]
end Go.Proofs.YtmoimcblmmcffaaGreatDoor.NC
