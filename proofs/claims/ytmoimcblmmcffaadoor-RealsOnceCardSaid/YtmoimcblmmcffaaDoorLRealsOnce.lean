/- PROVED: formularylaw08.RealsOnce returns true for every input, and leaves its arguments as they were: a number with a neutral one is itself, sums and products are rounded once and so are monotone. CONDITIONS: the row's own: math/bits.deBruijn64tab holds at the start what the program's text lays (tied by the card); nothing else. -/
import Derived.Test.YtmoimcblmmcffaaDoorCards
import Derived.Test.YtmoimcblmmcffaaDoorTie
import Derived.WalkKit
import Derived.ProofKit
import Derived.OpenShut
import Derived.Deep.DeepHandedRow
import Derived.Lib.LaidTab
import Derived.Lib.SmallJoins
import Derived.Test.YtmoimcblmmcffaaDoorMF

/-! A world for the witness of a row that lists the table, and what both cards ask. -/
namespace Go.Proofs.YtmoimcblmmcffaaDoor.Law
open Go.ChangeShapes Go.WideShapes Go.ChangeAt Go.RowKit

theorem own : ownKnob Tryd.prog.godebug = none := by kernel_rfl
def tab : Array Value := #[.int .u8 0, .int .u8 1, .int .u8 56, .int .u8 2, .int .u8 57, .int .u8 49, .int .u8 28, .int .u8 3, .int .u8 61, .int .u8 58, .int .u8 42, .int .u8 50, .int .u8 38, .int .u8 29, .int .u8 17, .int .u8 4, .int .u8 62, .int .u8 47, .int .u8 59, .int .u8 36, .int .u8 45, .int .u8 43, .int .u8 51, .int .u8 22, .int .u8 53, .int .u8 39, .int .u8 33, .int .u8 30, .int .u8 24, .int .u8 18, .int .u8 12, .int .u8 5, .int .u8 63, .int .u8 55, .int .u8 48, .int .u8 27, .int .u8 60, .int .u8 41, .int .u8 37, .int .u8 16, .int .u8 46, .int .u8 35, .int .u8 44, .int .u8 21, .int .u8 52, .int .u8 32, .int .u8 23, .int .u8 11, .int .u8 54, .int .u8 26, .int .u8 40, .int .u8 15, .int .u8 34, .int .u8 20, .int .u8 31, .int .u8 10, .int .u8 25, .int .u8 14, .int .u8 19, .int .u8 9, .int .u8 13, .int .u8 8, .int .u8 7, .int .u8 6]
/-- The settled world, the table holding what the program lays. -/
noncomputable def laidWorld (os : Os) : World :=
  { World.holding Tryd.prog os ⟨#[], #[], []⟩ with heap := (World.holding Tryd.prog os ⟨#[], #[], []⟩).heap.modify 1 fun
      | .cells _ t frozen => .cells tab t frozen
      | o => o }
theorem u64_wf {a : Int} (h : (Lit.int .u64 a).wf = true) : 0 ≤ a ∧ a ≤ 18446744073709551615 := by
  have h' : (decide (0 ≤ a) && decide (a ≤ 18446744073709551615)) = true := h
  simpa using h'
theorem i64_wf {a : Int} (h : (Lit.int .i64 a).wf = true) : -9223372036854775808 ≤ a ∧ a ≤ 9223372036854775807 := by
  have h' : (decide (-9223372036854775808 ≤ a) && decide (a ≤ 9223372036854775807)) = true := h
  simpa using h'
end Go.Proofs.YtmoimcblmmcffaaDoor.Law

/-! Rounded once: sums and products of numbers, by their exact values. No walk here. -/
namespace Go.Proofs.YtmoimcblmmcffaaDoor.NC
open Go.RowKit Go.Proofs.YtmoimcblmmcffaaDoor.B Go.Proofs.YtmoimcblmmcffaaDoor.N
set_option linter.unusedSimpArgs false
set_option linter.unusedVariables false

/-- A number: its word's sign and rung, and what it reads as. -/
structure Num (s : Bool) (a : Nat) (n : Bool) (r m : Nat) (e : Int) : Prop where
  word : a = (fm s).word n r
  lt : r < (fm s).infRung
  read : (fm s).read a = .number n m e
  least : leastN s ≤ e
  val : m * 2 ^ (e - leastN s).toNat = Fl.V (fm s) r
  zero : m = 0 ↔ r = 0
  back : Fl.rung (fm s) m e = r
theorem num_word (s n : Bool) {r : Nat} (h : r < (fm s).infRung) : ∃ m e, Num s ((fm s).word n r) n r m e := by
  obtain ⟨m, p, h1, h2, h3, h4, h5⟩ := Fl.read_number (fm s) n r h
  rw [fm_least] at h2 h3
  exact ⟨m, p, rfl, h, h1, h2, h3, h4, h5⟩
theorem num_of {s : Bool} {a : Nat} (ha : a < 2 * signN s) (hn : isNumR s a = true) : ∃ n r m e, Num s a n r m e := by
  have ht := told s a ha
  unfold isNumR at hn
  generalize partsR s a = p at *
  cases ht with
  | zero n h hr => obtain ⟨m, e, hk⟩ := num_word s n (r := 0) (by have := inf_ge s; have := Fl.binade_pos (fm s); omega); rw [← h] at hk; exact ⟨n, 0, m, e, hk⟩
  | fin n m' e' r h0 h1 h hm hm2 he he2 hbn hr => obtain ⟨m, e, hk⟩ := num_word s n h1; rw [← h] at hk; exact ⟨n, r, m, e, hk⟩
  | inf n h hr => simp at hn
  | nan n r t u h0 h1 h hr => simp at hn

/-- A number's value, in units of the last place. -/
def sv (s n : Bool) (r : Nat) : Int := Ieee.signed n (Fl.V (fm s) r) 0
/-- What an exact value is rounded to: its rank. -/
def rkT (s : Bool) (T p : Int) : Int := if T < 0 then -(Fl.rung (fm s) T.natAbs p : Int) else (Fl.rung (fm s) T.natAbs p : Int)
theorem rkT_mono (s : Bool) {T U p : Int} (h : T ≤ U) : rkT s T p ≤ rkT s U p := by
  unfold rkT
  by_cases h1 : T < 0
  · rw [if_pos h1]
    by_cases h2 : U < 0
    · rw [if_pos h2]
      have := Fl.rung_mono1 (fm s) (show U.natAbs ≤ T.natAbs by omega) p
      omega
    · rw [if_neg h2]; omega
  · rw [if_neg h1, if_neg (by omega)]
    have := Fl.rung_mono1 (fm s) (show T.natAbs ≤ U.natAbs by omega) p
    omega

/-- A word that is what an exact value is rounded to. -/
def IsT (s : Bool) (y : Nat) (T p : Int) : Prop := ∃ n, y = (fm s).word n (Fl.rung (fm s) T.natAbs p) ∧ (T < 0 → n = true) ∧ (0 < T → n = false)
theorem IsT.rank {s : Bool} {y : Nat} {T p : Int} (h : IsT s y T p) : ∃ n r, r ≤ (fm s).infRung ∧ y = (fm s).word n r ∧ Fl.rk n r = rkT s T p := by
  obtain ⟨n, h1, h2, h3⟩ := h
  refine ⟨n, _, Fl.rung_le _ _ _, h1, ?_⟩
  unfold Fl.rk rkT
  by_cases k1 : T < 0
  · rw [h2 k1, if_pos k1]; rfl
  · rw [if_neg k1]
    by_cases k2 : 0 < T
    · rw [h3 k2]; rfl
    · obtain rfl : T = 0 := by omega
      rw [Int.natAbs_zero, Fl.rung_zero]
      cases n <;> rfl
theorem cmp_word {s n m : Bool} {q r : Nat} (h : q ≤ (fm s).infRung) (h' : r ≤ (fm s).infRung) : cmpR s ((fm s).word n q) ((fm s).word m r) = if Fl.rk n q < Fl.rk m r then -1 else if Fl.rk n q = Fl.rk m r then 0 else 1 := by
  have h1 : (fm s).word n q < 2 * signN s := word_lt s n (Nat.lt_of_le_of_lt h (inf_lt s))
  have h2 : (fm s).word m r < 2 * signN s := word_lt s m (Nat.lt_of_le_of_lt h' (inf_lt s))
  rw [← cmp_eq h1 h2]
  have ho := Fl.order_word (fm s) (inf_ge s) n m h h'
  show cmpV ((fm s).order _ _) = _
  rw [Int.toNat_natCast, Int.toNat_natCast, ho]
  rcases Int.lt_trichotomy (Fl.rk n q) (Fl.rk m r) with k | k | k
  · rw [Int.compare_eq_lt.2 k, if_pos k]; rfl
  · rw [Int.compare_eq_eq.2 k, if_neg (by omega), if_pos k]; rfl
  · rw [Int.compare_eq_gt.2 k, if_neg (by omega), if_neg (by omega)]; rfl
theorem cmp_T {s : Bool} {y z : Nat} {T U p : Int} (hy : IsT s y T p) (hz : IsT s z U p) : cmpR s y z = if rkT s T p < rkT s U p then -1 else if rkT s T p = rkT s U p then 0 else 1 := by
  obtain ⟨n, q, h1, rfl, h3⟩ := hy.rank
  obtain ⟨m, r, k1, rfl, k3⟩ := hz.rank
  rw [cmp_word h1 k1, h3, k3]
theorem cmp_num {s : Bool} {a b : Nat} {n m : Bool} {q r ma mb : Nat} {ea eb : Int} (ha : Num s a n q ma ea) (hb : Num s b m r mb eb) : cmpR s a b = if sv s n q < sv s m r then -1 else if sv s n q = sv s m r then 0 else 1 := by
  rw [ha.word, hb.word, cmp_word (Nat.le_of_lt ha.lt) (Nat.le_of_lt hb.lt)]
  have c1 := Fl.V_cmp (fm s) q r
  have c2 := Fl.V_cmp (fm s) r q
  have z1 := (Fl.V_cmp (fm s) q 0).2
  have z2 := (Fl.V_cmp (fm s) r 0).2
  rw [Fl.V_zero] at z1 z2
  have key : (Fl.rk n q < Fl.rk m r ↔ sv s n q < sv s m r) ∧ (Fl.rk n q = Fl.rk m r ↔ sv s n q = sv s m r) := by
    unfold Fl.rk sv
    rw [sg_val, sg_val]
    cases n <;> cases m <;> simp only [if_true, if_false, Bool.false_eq_true] <;> omega
  by_cases k1 : Fl.rk n q < Fl.rk m r
  · rw [if_pos k1, if_pos (key.1.1 k1)]
  · rw [if_neg k1, if_neg (fun h => k1 (key.1.2 h))]
    by_cases k2 : Fl.rk n q = Fl.rk m r
    · rw [if_pos k2, if_pos (key.2.1 k2)]
    · rw [if_neg k2, if_neg (fun h => k2 (key.2.2 h))]

/-- A sum of numbers is the exact sum, rounded. -/
theorem add_T {s : Bool} {a b : Nat} {n m : Bool} {q r ma mb : Nat} {ea eb : Int} (ha : Num s a n q ma ea) (hb : Num s b m r mb eb) : IsT s (addR s a b) (sv s n q + sv s m r) (leastN s) := by
  have la : a < 2 * signN s := by rw [ha.word]; exact word_lt s n (Nat.lt_trans ha.lt (inf_lt s))
  have lb : b < 2 * signN s := by rw [hb.word]; exact word_lt s m (Nat.lt_trans hb.lt (inf_lt s))
  have hl1 := ha.least
  have hl2 := hb.least
  have hf : floatBits .add (fkOf s) a b = ((((fm s).read a).sum ((fm s).read b)).map (fm s).write) := rfl
  -- both over the common place, and over the last place of all
  have hT : (Ieee.signed n ma (ea - min ea eb).toNat + Ieee.signed m mb (eb - min ea eb).toNat) * 2 ^ (min ea eb - leastN s).toNat = sv s n q + sv s m r := by
    rw [Int.add_mul, ← Fl.signed_mul, ← Fl.signed_mul, show (ea - min ea eb).toNat + (min ea eb - leastN s).toNat = (ea - leastN s).toNat from by omega, show (eb - min ea eb).toNat + (min ea eb - leastN s).toNat = (eb - leastN s).toNat from by omega, Fl.signed_eq n ma, Fl.signed_eq m mb, ha.val, hb.val]
    rfl
  generalize hX : Ieee.signed n ma (ea - min ea eb).toNat + Ieee.signed m mb (eb - min ea eb).toNat = X at *
  have hpp : (0 : Int) < 2 ^ (min ea eb - leastN s).toNat := Fl.two_pow_pos _
  have hr : resV s .add a b = ((fm s).nearest (if X = 0 then n && m else decide (X < 0)) X.natAbs (min ea eb) : Nat) := by
    refine res_num ?_
    rw [hf, ha.read, hb.read]
    show some ((fm s).nearest _ _ _) = _
    rw [← hX]
  rw [add_eq la lb] at hr
  have hr' : addR s a b = (fm s).nearest (if X = 0 then n && m else decide (X < 0)) X.natAbs (min ea eb) := by exact_mod_cast hr
  refine ⟨if X = 0 then n && m else decide (X < 0), ?_, fun h => ?_, fun h => ?_⟩
  · rw [hr', Fl.nearest_rung]
    congr 1
    have := Fl.rung_scale (fm s) X.natAbs (min ea eb - leastN s).toNat (leastN s)
    rw [show leastN s + ((min ea eb - leastN s).toNat : Int) = min ea eb from by omega] at this
    rw [← this, ← hT]
    congr 1
    rw [Int.natAbs_mul, Int.natAbs_pow]
    rfl
  · rw [← hT] at h
    have hx : X < 0 := by
      rcases Int.lt_or_le X 0 with k | k
      · exact k
      · have := Int.mul_nonneg k (Int.le_of_lt hpp); omega
    rw [if_neg (by omega)]; simpa using hx
  · rw [← hT] at h
    have hx : 0 < X := by
      rcases Int.lt_or_le 0 X with k | k
      · exact k
      · have := Int.mul_nonneg (show 0 ≤ -X by omega) (Int.le_of_lt hpp); rw [Int.neg_mul] at this; omega
    rw [if_neg (by omega)]; simp; omega
end Go.Proofs.YtmoimcblmmcffaaDoor.NC

/-! Rounded once: what the theorem of the chapter asks of sums, products, quotients and differences. No walk here. -/
namespace Go.Proofs.YtmoimcblmmcffaaDoor.NC
open Go.RowKit Go.Proofs.YtmoimcblmmcffaaDoor.B Go.Proofs.YtmoimcblmmcffaaDoor.N
set_option linter.unusedSimpArgs false
set_option linter.unusedVariables false

theorem Num.bound {s : Bool} {a : Nat} {n : Bool} {r m : Nat} {e : Int} (h : Num s a n r m e) : a < 2 * signN s := by rw [h.word]; exact word_lt s n (Nat.lt_trans h.lt (inf_lt s))
theorem add_val {s : Bool} {a b : Nat} {n m : Bool} {q r ma mb : Nat} {ea eb : Int} (ha : Num s a n q ma ea) (hb : Num s b m r mb eb) :
    addR s a b = (fm s).nearest (if Ieee.signed n ma (ea - min ea eb).toNat + Ieee.signed m mb (eb - min ea eb).toNat = 0 then n && m else decide (Ieee.signed n ma (ea - min ea eb).toNat + Ieee.signed m mb (eb - min ea eb).toNat < 0)) (Ieee.signed n ma (ea - min ea eb).toNat + Ieee.signed m mb (eb - min ea eb).toNat).natAbs (min ea eb) := by
  have hf : floatBits .add (fkOf s) a b = ((((fm s).read a).sum ((fm s).read b)).map (fm s).write) := rfl
  have hr : resV s .add a b = _ := res_num (by rw [hf, ha.read, hb.read]; rfl)
  rw [add_eq ha.bound hb.bound] at hr
  exact_mod_cast hr
theorem add_comm {s : Bool} {a b : Nat} {n m : Bool} {q r ma mb : Nat} {ea eb : Int} (ha : Num s a n q ma ea) (hb : Num s b m r mb eb) : addR s a b = addR s b a := by
  rw [add_val ha hb, add_val hb ha, Int.min_comm eb ea, Int.add_comm (Ieee.signed m mb _), Bool.and_comm m n]
theorem mul_val {s : Bool} {a b : Nat} {n m : Bool} {q r ma mb : Nat} {ea eb : Int} (ha : Num s a n q ma ea) (hb : Num s b m r mb eb) : mulR s a b = (fm s).nearest (n ^^ m) (ma * mb) (ea + eb) := by
  have hf : floatBits .mul (fkOf s) a b = ((((fm s).read a).product ((fm s).read b)).map (fm s).write) := rfl
  have hr : resV s .mul a b = _ := res_num (by rw [hf, ha.read, hb.read]; rfl)
  rw [mul_eq ha.bound hb.bound] at hr
  exact_mod_cast hr
theorem mul_comm {s : Bool} {a b : Nat} {n m : Bool} {q r ma mb : Nat} {ea eb : Int} (ha : Num s a n q ma ea) (hb : Num s b m r mb eb) : mulR s a b = mulR s b a := by
  rw [mul_val ha hb, mul_val hb ha, Nat.mul_comm mb, Int.add_comm eb]
  congr 1
  cases n <;> cases m <;> rfl
theorem sv_mul (s n m : Bool) (q r : Nat) : sv s n q * sv s m r = Ieee.signed (n ^^ m) (Fl.V (fm s) q * Fl.V (fm s) r) 0 := by
  unfold sv
  rw [sg_val, sg_val, sg_val]
  cases n <;> cases m <;> simp [Int.neg_mul, Int.mul_neg]
/-- A product of numbers is the exact product, rounded. -/
theorem mul_T {s : Bool} {a b : Nat} {n m : Bool} {q r ma mb : Nat} {ea eb : Int} (ha : Num s a n q ma ea) (hb : Num s b m r mb eb) : IsT s (mulR s a b) (sv s n q * sv s m r) (leastN s + leastN s) := by
  have hl1 := ha.least
  have hl2 := hb.least
  rw [sv_mul]
  refine ⟨n ^^ m, ?_, fun h => ?_, fun h => ?_⟩
  · rw [mul_val ha hb, Fl.nearest_rung, sg_val]
    congr 1
    have hv : Fl.V (fm s) q * Fl.V (fm s) r = ma * mb * 2 ^ ((ea - leastN s).toNat + (eb - leastN s).toNat) := by
      rw [← ha.val, ← hb.val, Nat.pow_add, Nat.mul_mul_mul_comm]
    have hn : (if (n ^^ m) = true then -((Fl.V (fm s) q * Fl.V (fm s) r : Nat) : Int) else ((Fl.V (fm s) q * Fl.V (fm s) r : Nat) : Int)).natAbs = Fl.V (fm s) q * Fl.V (fm s) r := by
      generalize Fl.V (fm s) q * Fl.V (fm s) r = z
      split <;> simp
    rw [hn, hv, Fl.rung_scale]
    congr 1; omega
  · rw [sg_val] at h
    generalize Fl.V (fm s) q * Fl.V (fm s) r = z at h
    cases hx : (n ^^ m)
    · rw [hx] at h; simp at h; omega
    · rfl
  · rw [sg_val] at h
    generalize Fl.V (fm s) q * Fl.V (fm s) r = z at h
    cases hx : (n ^^ m)
    · rfl
    · rw [hx] at h; simp at h; omega

theorem num_T {s : Bool} {a : Nat} {n : Bool} {r m : Nat} {e : Int} (h : Num s a n r m e) : IsT s a (sv s n r) (leastN s) := by
  have hl := h.least
  have hq : (sv s n r).natAbs = Fl.V (fm s) r := by unfold sv; rw [sg_val]; cases n <;> simp
  refine ⟨n, ?_, fun k => ?_, fun k => ?_⟩
  · rw [hq, ← h.val, Fl.rung_scale, show leastN s + ((e - leastN s).toNat : Int) = e from by omega, h.back]; exact h.word
  · unfold sv at k; rw [sg_val] at k
    cases n
    · simp at k; omega
    · rfl
  · unfold sv at k; rw [sg_val] at k
    cases n
    · rfl
    · simp at k; omega
/-- The same exact value, not zero: the same word. -/
theorem T_uniq {s : Bool} {y z : Nat} {T p : Int} (hy : IsT s y T p) (hz : IsT s z T p) (h : T ≠ 0) : y = z := by
  obtain ⟨n, h1, h2, h3⟩ := hy
  obtain ⟨m, k1, k2, k3⟩ := hz
  have hnm : n = m := by
    rcases Int.lt_or_lt_of_ne h with hl | hl
    · rw [h2 hl, k2 hl]
    · rw [h3 hl, k3 hl]
  rw [h1, k1, hnm]
theorem num_zero (s : Bool) : ∃ m e, Num s 0 false 0 m e := by
  obtain ⟨m, e, h⟩ := num_word s false (r := 0) (by have := inf_ge s; have := Fl.binade_pos (fm s); omega)
  have : (fm s).word false 0 = 0 := rfl
  rw [this] at h
  exact ⟨m, e, h⟩
theorem sv_zero (s n : Bool) : sv s n 0 = 0 := by unfold sv; rw [Fl.V_zero, sg_zero]
theorem sv_ne (s n : Bool) {r : Nat} (h : r ≠ 0) : sv s n r ≠ 0 := by
  have := (Fl.V_cmp (fm s) r 0).2
  rw [Fl.V_zero] at this
  unfold sv; rw [sg_val]
  cases n <;> simp <;> omega
theorem one_word (s : Bool) : fromR s 1 < (fm s).infRung ∧ Fl.V (fm s) (fromR s 1) = 2 ^ (-leastN s).toNat ∧ (fm s).read (fromR s 1) = .number false (2 ^ (fm s).fractionBits) (-((fm s).fractionBits : Int)) := by
  cases s <;> refine ⟨by decide +kernel, by decide +kernel, by decide +kernel⟩
theorem num_one (s : Bool) : ∃ m e, Num s (fromR s 1) false (fromR s 1) m e := num_word s false (one_word s).1
theorem kind_zero {s : Bool} {a : Nat} {n : Bool} {r m : Nat} {e : Int} (h : Num s a n r m e) (hr : r = 0) : (partsR s a).kind = 0 := by
  have ht := told s a h.bound
  have hrd := h.read
  have hm := h.zero.2 hr
  subst hm
  generalize partsR s a = p at *
  cases ht with
  | zero n h hr => rfl
  | fin n m' e' r h0 h1 h hm hm2 he he2 hbn hr => rw [hr] at hrd; cases hrd; omega
  | inf n h hr => rw [hr] at hrd; cases hrd
  | nan n r t u h0 h1 h hr => rw [hr] at hrd; cases hrd

theorem cmp_same {s : Bool} {y z : Nat} {T p : Int} (hy : IsT s y T p) (hz : IsT s z T p) : cmpR s y z = 0 := by
  rw [cmp_T hy hz, if_neg (by omega), if_pos rfl]
theorem add_end {s : Bool} {a : Nat} {n : Bool} {r m : Nat} {e : Int} (h : Num s a n r m e) : cmpR s (addR s a 0) a = 0 ∧ (addR s a 0 = a ∨ (partsR s a).kind = 0) := by
  obtain ⟨m0, e0, h0⟩ := num_zero s
  have hT := add_T h h0
  rw [sv_zero, Int.add_zero] at hT
  refine ⟨cmp_same hT (num_T h), ?_⟩
  by_cases hr : r = 0
  · exact .inr (kind_zero h hr)
  · exact .inl (T_uniq hT (num_T h) (sv_ne s n hr))
theorem shift_T {s : Bool} {y : Nat} {T p : Int} {k : Nat} (h : IsT s y (T * 2 ^ k) p) : IsT s y T (p + k) := by
  have hp : (0 : Int) < 2 ^ k := Fl.two_pow_pos _
  obtain ⟨n, h1, h2, h3⟩ := h
  refine ⟨n, ?_, fun hl => h2 ?_, fun hl => h3 (Int.mul_pos hl hp)⟩
  · rw [h1, Int.natAbs_mul, Int.natAbs_pow]
    show (fm s).word n (Fl.rung (fm s) (T.natAbs * 2 ^ k) p) = _
    rw [Fl.rung_scale]
  · have := Int.mul_pos (show 0 < -T by omega) hp
    rw [Int.neg_mul] at this; omega
theorem mul_end {s : Bool} {a : Nat} {n : Bool} {r m : Nat} {e : Int} (h : Num s a n r m e) : cmpR s (mulR s a (fromR s 1)) a = 0 ∧ (mulR s a (fromR s 1) = a ∨ (partsR s a).kind = 0) := by
  obtain ⟨m0, e0, h0⟩ := num_one s
  have hT := mul_T h h0
  have h1 : sv s false (fromR s 1) = 2 ^ (-leastN s).toNat := by
    unfold sv; rw [sg_val, (one_word s).2.1]; simp
  rw [h1] at hT
  have hT2 := shift_T hT
  have hle : leastN s ≤ 0 := by cases s <;> decide
  rw [show leastN s + leastN s + ((-leastN s).toNat : Int) = leastN s from by omega] at hT2
  refine ⟨cmp_same hT2 (num_T h), ?_⟩
  by_cases hr : r = 0
  · exact .inr (kind_zero h hr)
  · exact .inl (T_uniq hT2 (num_T h) (sv_ne s n hr))
/-- The order of two numbers, and that of two results. -/
def Keeps (o r : Int) : Prop := (o = -1 ∧ (r = -1 ∨ r = 0)) ∨ (o = 0 ∧ r = 0) ∨ (o = 1 ∧ (r = 0 ∨ r = 1))
theorem keeps_of {s : Bool} {y z : Nat} {T U p : Int} {A B : Int} (hy : IsT s y T p) (hz : IsT s z U p) (h1 : A < B → T ≤ U) (h2 : A = B → T = U) (h3 : B < A → U ≤ T) : Keeps (if A < B then -1 else if A = B then 0 else 1) (cmpR s y z) := by
  rw [cmp_T hy hz]
  unfold Keeps
  rcases Int.lt_trichotomy A B with k | k | k
  · rw [if_pos k]
    have := rkT_mono s (p := p) (h1 k)
    left
    refine ⟨rfl, ?_⟩
    by_cases c : rkT s T p < rkT s U p
    · rw [if_pos c]; exact .inl rfl
    · rw [if_neg c, if_pos (by omega)]; exact .inr rfl
  · rw [if_neg (by omega), if_pos k, h2 k, if_neg (by omega), if_pos rfl]
    exact .inr (.inl ⟨rfl, rfl⟩)
  · rw [if_neg (by omega), if_neg (by omega)]
    have := rkT_mono s (p := p) (h3 k)
    right; right
    refine ⟨rfl, ?_⟩
    by_cases c : rkT s T p = rkT s U p
    · rw [if_neg (by omega), if_pos c]; exact .inl rfl
    · rw [if_neg (by omega), if_neg c]; exact .inr rfl
theorem add_keeps {s : Bool} {a b c : Nat} {n m k : Bool} {q r t ma mb mc : Nat} {ea eb ec : Int} (ha : Num s a n q ma ea) (hb : Num s b m r mb eb) (hc : Num s c k t mc ec) : Keeps (cmpR s a b) (cmpR s (addR s a c) (addR s b c)) := by
  rw [cmp_num ha hb]
  exact keeps_of (add_T ha hc) (add_T hb hc) (fun h => by omega) (fun h => by rw [h]) (fun h => by omega)
theorem mul_keeps {s : Bool} {a b c : Nat} {n m : Bool} {q r t ma mb mc : Nat} {ea eb ec : Int} (ha : Num s a n q ma ea) (hb : Num s b m r mb eb) (hc : Num s c false t mc ec) : Keeps (cmpR s a b) (cmpR s (mulR s a c) (mulR s b c)) := by
  have h0 : 0 ≤ sv s false t := by unfold sv; rw [sg_val]; simp
  rw [cmp_num ha hb]
  exact keeps_of (mul_T ha hc) (mul_T hb hc) (fun h => Int.mul_le_mul_of_nonneg_right (Int.le_of_lt h) h0) (fun h => by rw [h]) (fun h => Int.mul_le_mul_of_nonneg_right (Int.le_of_lt h) h0)
theorem size_num {s : Bool} {c : Nat} {k : Bool} {t mc : Nat} {ec : Int} (hc : Num s c k t mc ec) : ∃ m e, Num s (sizeR s c) false t m e := by
  have ht := told s c hc.bound
  rcases told_size ht with h | ⟨r, h1, h2, h3, h4⟩
  · have hrd := hc.read
    generalize partsR s c = p at *
    cases ht with
    | zero n h hr => simp at h
    | fin n m' e' r h0 h1 h hm hm2 he he2 hbn hr => simp at h
    | inf n h hr => simp at h
    | nan n r t u h0 h1 h hr => rw [hr] at hrd; cases hrd
  · unfold sizeR
    rw [h4 false]
    have hw : r = t := by
      have e1 := h2.symm.trans hc.word
      have a1 := (Fl.word_parts (fm s) (partsR s c).neg r (by rw [fm_sign]; exact Nat.lt_of_le_of_lt h1 (inf_lt s))).2
      have a2 := (Fl.word_parts (fm s) k t (by rw [fm_sign]; exact Nat.lt_trans hc.lt (inf_lt s))).2
      rw [e1] at a1
      exact a1.symm.trans a2
    rw [hw]
    exact num_word s false hc.lt
theorem div_one {s : Bool} {a : Nat} {n : Bool} {r m : Nat} {e : Int} (h : Num s a n r m e) : divR s a (fromR s 1) = a := by
  obtain ⟨o1, o2, o3⟩ := one_word s
  have hf : floatBits .quo (fkOf s) a (fromR s 1) = ((((fm s).read a).quotient ((fm s).fractionBits + 2) ((fm s).read (fromR s 1))).map (fm s).write) := rfl
  have hp : 0 < 2 ^ (fm s).fractionBits := Nat.two_pow_pos _
  have hl : (2 ^ (fm s).fractionBits : Nat).log2 = (fm s).fractionBits := Nat.log2_two_pow
  have hm53 : m.log2 ≤ (fm s).fractionBits + 1 := by
    have ht := told s a h.bound
    have hrd := h.read
    obtain ⟨f1, f2⟩ := frac_le s
    have hb : m < 2 * lowN s := by
      generalize partsR s a = p at *
      cases ht with
      | zero n h hr => rw [hr] at hrd; cases hrd; have := low_pos s; omega
      | fin n m' e' r h0 h1 h hm hm2 he he2 hbn hr => rw [hr] at hrd; cases hrd; exact hm2
      | inf n h hr => rw [hr] at hrd; cases hrd
      | nan n r t u h0 h1 h hr => rw [hr] at hrd; cases hrd
    rw [f2, ← Nat.pow_succ'] at hb
    have := Fl.log2_le_of hb
    omega
  have hr : resV s .quo a (fromR s 1) = _ := res_num (n := n) (m := m * 2 ^ ((fm s).fractionBits + 3 - m.log2)) (e := e - ((fm s).fractionBits + 3 - m.log2 : Nat)) (by
    rw [hf, h.read, o3]
    simp only [Ieee.Datum.quotient, if_neg (show ¬ 2 ^ (fm s).fractionBits = 0 by omega), hl]
    show some ((fm s).nearest _ _ _) = _
    congr 1
    have hd : m <<< ((fm s).fractionBits + 2 + (fm s).fractionBits - m.log2) = m * 2 ^ ((fm s).fractionBits + 2 - m.log2) * 2 ^ (fm s).fractionBits := by
      rw [Nat.shiftLeft_eq, Nat.mul_assoc, ← Nat.pow_add]
      congr 2; omega
    rw [hd, Nat.mul_div_cancel _ hp, Nat.mul_mod_left]
    have hx : (n ^^ false) = n := by cases n <;> rfl
    rw [hx]
    have e1 : 2 * (m * 2 ^ ((fm s).fractionBits + 2 - m.log2)) + ((0 : Nat) != 0).toNat = m * 2 ^ ((fm s).fractionBits + 3 - m.log2) := by
      rw [show (fm s).fractionBits + 3 - m.log2 = (fm s).fractionBits + 2 - m.log2 + 1 from by omega, Nat.pow_succ, ← Nat.mul_assoc m]
      simp; omega
    rw [e1]
    congr 1
    omega)
  rw [div_eq h.bound (fromR_lt s 1)] at hr
  have hr' : divR s a (fromR s 1) = (fm s).nearest n (m * 2 ^ ((fm s).fractionBits + 3 - m.log2)) (e - ((fm s).fractionBits + 3 - m.log2 : Nat)) := by exact_mod_cast hr
  rw [hr', Fl.nearest_rung, Fl.rung_scale, show e - (((fm s).fractionBits + 3 - m.log2 : Nat) : Int) + (((fm s).fractionBits + 3 - m.log2 : Nat) : Int) = e from by omega, h.back, ← h.word]
theorem sub_self {s : Bool} {a : Nat} {n : Bool} {r m : Nat} {e : Int} (h : Num s a n r m e) : cmpR s (subR s a a) 0 = 0 := by
  obtain ⟨m0, e0, h0⟩ := num_zero s
  have ht := told s a h.bound
  have hk : (partsR s a).kind ≠ 3 := by
    have hrd := h.read
    generalize partsR s a = p at *
    cases ht with
    | zero n h hr => simp
    | fin n m' e' r h0 h1 h hm hm2 he he2 hbn hr => simp
    | inf n h hr => rw [hr] at hrd; cases hrd
    | nan n r t u h0 h1 h hr => rw [hr] at hrd; cases hrd
  rcases told_size ht with k | ⟨t, h1, h2, h3, h4⟩
  · exact absurd k hk
  · unfold subR
    rw [if_neg hk]
    unfold negR
    rw [h4 _]
    have hw := h2.symm.trans h.word
    have b1 := Fl.word_parts (fm s) (partsR s a).neg t (by rw [fm_sign]; exact Nat.lt_of_le_of_lt h1 (inf_lt s))
    have b2 := Fl.word_parts (fm s) n r (by rw [fm_sign]; exact Nat.lt_trans h.lt (inf_lt s))
    rw [hw] at b1
    have hn : (partsR s a).neg = n := b1.1.symm.trans b2.1
    have htr : t = r := b1.2.symm.trans b2.2
    have hk2 : ((partsR s a).kind != 3) = true := by simpa using hk
    rw [hn, htr, hk2, Bool.and_true]
    obtain ⟨m', e', hneg⟩ := num_word s (!n) h.lt
    have hT := add_T h hneg
    have hz : sv s n r + sv s (!n) r = 0 := by unfold sv; rw [sg_val, sg_val]; cases n <;> simp <;> omega
    rw [hz] at hT
    have h0T := num_T h0
    rw [sv_zero] at h0T
    exact cmp_same hT h0T
end Go.Proofs.YtmoimcblmmcffaaDoor.NC

/-! The law on operations, walked. -/
namespace Go.Proofs.YtmoimcblmmcffaaDoor.NC
open Go.RowKit Go.Proofs.YtmoimcblmmcffaaDoor.B Go.Proofs.YtmoimcblmmcffaaDoor.N
set_option linter.unusedSimpArgs false
set_option linter.unusedVariables false

theorem op_eq {op : Int} {s : Bool} {a b : Nat} (ha : a < 2 * signN s) (hb : b < 2 * signN s) (h0 : 0 ≤ op) (h6 : op ≤ 6) : applyV op s a b = (opR op s a b : Nat) := by
  have ho : op = 0 ∨ op = 1 ∨ op = 2 ∨ op = 3 ∨ op = 4 ∨ op = 5 ∨ op = 6 := by omega
  have k4 := sign_eq ha hb
  have k0 := add_eq ha hb
  have k1 := sub_eq ha hb
  have k2 := mul_eq ha hb
  have k3 := div_eq ha hb
  have k5 := ext_eq (least := true) ha hb
  have k6 := ext_eq (least := false) ha hb
  rcases ho with rfl | rfl | rfl | rfl | rfl | rfl | rfl
  all_goals
    simp only [applyV, opR, opB, Int.reduceEq, if_true, if_false, Int.toNat_natCast, decide_true, decide_false]
  · exact k0
  · exact k1
  · exact k2
  · exact k3
  · exact k4
  · exact k5
  · exact k6

set_option maxRecDepth 100000 in
set_option maxHeartbeats 1000000 in
theorem law_apply (op t a b : Int) (w : World) (ha : U64 a) (hb : U64 b) : Calls Tryd.prog 3 #[.int .i64 op, .int .i64 t, .agg #[.int .u64 a, .int .u64 b]] w (Ret (.bool true) w) := by
  have c1 := awake_c
  have c2 := fun w => Apply_c op t a b w ha hb
  have c3 := fun w => opErr_c op 7 w (by decide) (by decide)
  have c4 := fun w => threeErr_c t a b w
  by_cases hk : kindErrV op 7 = 0
  · have he : applyErrV op t a b = validV t [a, b] := by unfold applyErrV; rw [if_pos hk]
    rw [he] at c2
    rw [hk] at c3
    by_cases hv : validV t [a, b] = 0
    · obtain ⟨h0, h6⟩ := kindErr_ok hk
      obtain ⟨s, ht, hs, h1, h2⟩ := valid_s2 ha hb hv
      obtain rfl : t = tv s := ht

      obtain ⟨x, rfl⟩ := Int.eq_ofNat_of_zero_le ha.1
      obtain ⟨y, rfl⟩ := Int.eq_ofNat_of_zero_le hb.1
      have hx : x < 2 * signN s := by rw [top_sgn] at h1; exact_mod_cast h1
      have hy : y < 2 * signN s := by rw [top_sgn] at h2; exact_mod_cast h2
      have c5 := fun w => applyR_c op s x y w h1 h2 h0 (by omega)
      rw [hv] at c2 c4
      unfold orErr at c2
      rw [if_pos rfl, hs, op_eq hx hy h0 (by omega)] at c2
      generalize opR op s x y = R at *
      generalize tv s = t at *
      clear ha hb hk he hv h0 h6 hs h1 h2 hx hy
      go_enter Tryd.func3, Tryd.ntmps3
      go_upto_region 1 with (fail)
      refine hide1 w (fun W k0 s0 HE => ?_)
      go_wp2_with (first | (go_at_call 10; refine (c1 _).mono ?_; rintro e w1 ⟨rfl, hb1⟩; have HE1 := HE.call hb1) | (go_at_call 11; refine (c2 _).mono ?_; rintro e w2 ⟨rfl, hb2⟩; have HE2 := HE1.call hb2) | (go_at_call 12; refine (c3 _).mono ?_; rintro e w3 ⟨rfl, hb3⟩; have HE3 := HE2.call hb3) | (go_at_call 13; refine (c4 _).mono ?_; rintro e w4 ⟨rfl, hb4⟩; have HE4 := HE3.call hb4) | (go_at_call 14; refine (c5 _).mono ?_; rintro e w5 ⟨rfl, hb5⟩; have HE5 := HE4.call hb5))
      go_ret
      exact ⟨rfl, Ext.end HE5⟩
    · unfold orErr at c2
      rw [if_neg hv] at c2
      have b1 : (validV t [a, b] != 0) = true := by simpa using hv
      clear ha hb hk he hv
      generalize validV t [a, b] = V at *
      go_enter Tryd.func3, Tryd.ntmps3
      go_upto_region 1 with (fail)
      refine hide1 w (fun W k0 s0 HE => ?_)
      go_wp2_with (first | (go_at_call 10; refine (c1 _).mono ?_; rintro e w1 ⟨rfl, hb1⟩; have HE1 := HE.call hb1) | (go_at_call 11; refine (c2 _).mono ?_; rintro e w2 ⟨rfl, hb2⟩; have HE2 := HE1.call hb2) | (go_at_call 12; refine (c3 _).mono ?_; rintro e w3 ⟨rfl, hb3⟩; have HE3 := HE2.call hb3) | (go_at_call 13; refine (c4 _).mono ?_; rintro e w4 ⟨rfl, hb4⟩; have HE4 := HE3.call hb4))
      go_ret
      exact ⟨rfl, Ext.end HE4⟩
  · have he : applyErrV op t a b = kindErrV op 7 := by unfold applyErrV; rw [if_neg hk]
    rw [he] at c2
    unfold orErr at c2
    rw [if_neg hk] at c2
    have b1 : (kindErrV op 7 != 0) = true := by simpa using hk
    have b2 : (kindErrV op 7 == 0) = false := by simpa using hk
    clear ha hb hk he c4
    generalize kindErrV op 7 = K at *
    go_enter Tryd.func3, Tryd.ntmps3
    go_upto_region 1 with (fail)
    refine hide1 w (fun W k0 s0 HE => ?_)
    go_wp2_with (first | (go_at_call 10; refine (c1 _).mono ?_; rintro e w1 ⟨rfl, hb1⟩; have HE1 := HE.call hb1) | (go_at_call 11; refine (c2 _).mono ?_; rintro e w2 ⟨rfl, hb2⟩; have HE2 := HE1.call hb2) | (go_at_call 12; refine (c3 _).mono ?_; rintro e w3 ⟨rfl, hb3⟩; have HE3 := HE2.call hb3))
    go_ret
    exact ⟨rfl, Ext.end HE3⟩
end Go.Proofs.YtmoimcblmmcffaaDoor.NC

/-! The theorem 'rounded once', walked. -/
namespace Go.Proofs.YtmoimcblmmcffaaDoor.NC
open Go.RowKit Go.Proofs.YtmoimcblmmcffaaDoor.B Go.Proofs.YtmoimcblmmcffaaDoor.N
set_option linter.unusedSimpArgs false
set_option linter.unusedVariables false

theorem applyN (op : Int) (s : Bool) (x y : Nat) (w : World) (h0 : 0 ≤ op) (h6 : op ≤ 6) (hx : x < 2 * signN s) (hy : y < 2 * signN s) : Calls Tryd.prog 11 #[.int .i64 op, .int .i64 (tv s), .int .u64 (x : Int), .int .u64 (y : Int)] w (Ret (.tuple #[.int .u64 (opR op s x y : Int), .int .i64 0]) w) := by
  have h := Apply_c op (tv s) (x : Int) (y : Int) w (rg_nat hx).u64 (rg_nat hy).u64
  have e : applyErrV op (tv s) (x : Int) (y : Int) = 0 := by unfold applyErrV; rw [if_pos (kind0 h0 h6)]; exact (rg_nat hx).valid2 (rg_nat hy)
  rw [e, tv_eq, op_eq hx hy h0 h6] at h
  exact h
theorem compareN (s : Bool) (x y : Nat) (w : World) (hx : x < 2 * signN s) (hy : y < 2 * signN s) : Calls Tryd.prog 32 #[.int .i64 (tv s), .int .u64 (x : Int), .int .u64 (y : Int)] w (Ret (.tuple #[.int .i64 (cmpR s x y), .int .i64 0]) w) := by
  have h := Compare_c (tv s) (x : Int) (y : Int) w (rg_nat hx).u64 (rg_nat hy).u64
  rw [(rg_nat hx).valid2 (rg_nat hy), tv_eq, cmp_eq hx hy] at h
  exact h
theorem hide3 {P : Program} {c : Code} {Q : Exit → Act → World → Prop} {a : Act} {w W0 w1 : World} {cs cs' cs'' : Array Value} {t t' t'' : TypeId} (hE : Ext w W0 w1)
    (h : ∀ W, (∀ i, W.cell? ⟨w1.heap.size, i, none⟩ = cs[i]?) → (∀ i, W.cell? ⟨w1.heap.size + 1, i, none⟩ = cs'[i]?) → (∀ i, W.cell? ⟨w1.heap.size + 2, i, none⟩ = cs''[i]?) → w1.heap.size + 2 < W.heap.size → Ext w W0 W → c.wp P Q a W) :
    c.wp P Q a (((w1.alloc (.cells cs t (0, 0))).alloc (.cells cs' t' (0, 0))).alloc (.cells cs'' t'' (0, 0))) := by
  have e1 : (w1.alloc (.cells cs t (0, 0))).heap.size = w1.heap.size + 1 := by simp
  have e2 : ((w1.alloc (.cells cs t (0, 0))).alloc (.cells cs' t' (0, 0))).heap.size = w1.heap.size + 2 := by simp
  refine h _ (fun i => ?_) (fun i => ?_) (fun i => ?_) (by simp) (((hE.alloc _).alloc _).alloc _)
  · rw [cell_of_row _ _ i cs t (0, 0) ((Below.heap_alloc _ _ _ (by rw [e2]; omega)).trans ((Below.heap_alloc _ _ _ (by rw [e1]; omega)).trans (heap_alloc_new w1 _)))]
  · have k := heap_alloc_new (w1.alloc (.cells cs t (0, 0))) (.cells cs' t' (0, 0))
    rw [e1] at k
    rw [cell_of_row _ _ i cs' t' (0, 0) ((Below.heap_alloc _ _ _ (by rw [e2]; omega)).trans k)]
  · have k := cell_of_row (((w1.alloc (.cells cs t (0, 0))).alloc (.cells cs' t' (0, 0))).alloc (.cells cs'' t'' (0, 0))) _ i cs'' t'' (0, 0) (heap_alloc_new _ _)
    rw [e2] at k
    exact k

theorem op0 (s : Bool) (x y : Nat) : opR 0 s x y = addR s x y := by unfold opR; rw [if_pos rfl]
theorem op1 (s : Bool) (x y : Nat) : opR 1 s x y = subR s x y := by unfold opR; rw [if_neg (by decide), if_pos rfl]
theorem op2 (s : Bool) (x y : Nat) : opR 2 s x y = mulR s x y := by unfold opR; rw [if_neg (by decide), if_neg (by decide), if_pos rfl]
theorem op3 (s : Bool) (x y : Nat) : opR 3 s x y = divR s x y := by unfold opR; rw [if_neg (by decide), if_neg (by decide), if_neg (by decide), if_pos rfl]
theorem Ext.trans {w0 W w1 w2 : World} (h : Ext w0 W w1) (h' : Ext w0 w1 w2) : Ext w0 W w2 :=
  ⟨fun b o hb => (h'.1 b o (Nat.lt_of_lt_of_le hb h.2.2.1)).trans (h.1 b o hb), fun b o hb => (h'.2.1 b o (Nat.lt_of_lt_of_le hb h.2.2.1)).trans (h.2.1 b o hb), Nat.le_trans h.2.2.1 h'.2.2.1, h'.2.2.2⟩
/-- What one round asks of an operation. -/
structure Round (s : Bool) (op : Int) (A B e v : Nat) : Prop where
  comm : opR op s A B = opR op s B A
  lt1 : opR op s A B < 2 * signN s
  lt2 : opR op s A e < 2 * signN s
  lt3 : opR op s A v < 2 * signN s
  lt4 : opR op s B v < 2 * signN s
  elt : e < 2 * signN s
  vlt : v < 2 * signN s
  same : cmpR s (opR op s A e) A = 0
  last : opR op s A e = A ∨ (partsR s A).kind = 0
  keep : Keeps (cmpR s A B) (cmpR s (opR op s A v) (opR op s B v))
theorem opR_lt {s : Bool} {x y : Nat} {op : Int} (h0 : 0 ≤ op) (h3 : op ≤ 3) (hx : x < 2 * signN s) (hy : y < 2 * signN s) : opR op s x y < 2 * signN s := by
  have := arith_rg (op := op) s (x : Int) (y : Int) h0 h3
  rw [op_eq hx hy h0 (by omega)] at this
  exact nat_rg this
theorem round_add {s : Bool} {A B c : Nat} (hA : A < 2 * signN s) (hB : B < 2 * signN s) (hc : c < 2 * signN s) (nA : isNumR s A = true) (nB : isNumR s B = true) (nc : isNumR s c = true) : Round s 0 A B 0 c := by
  obtain ⟨n1, r1, m1, e1, h1⟩ := num_of hA nA
  obtain ⟨n2, r2, m2, e2, h2⟩ := num_of hB nB
  obtain ⟨n3, r3, m3, e3, h3⟩ := num_of hc nc
  have hz : 0 < 2 * signN s := by cases s <;> decide
  exact ⟨by rw [op0, op0]; exact add_comm h1 h2, opR_lt (by decide) (by decide) hA hB, opR_lt (by decide) (by decide) hA hz, opR_lt (by decide) (by decide) hA hc, opR_lt (by decide) (by decide) hB hc, hz, hc, by rw [op0]; exact (add_end h1).1, by rw [op0]; exact (add_end h1).2, by rw [op0, op0]; exact add_keeps h1 h2 h3⟩
theorem round_mul {s : Bool} {A B c : Nat} (hA : A < 2 * signN s) (hB : B < 2 * signN s) (hc : c < 2 * signN s) (nA : isNumR s A = true) (nB : isNumR s B = true) (nc : isNumR s c = true) : Round s 2 A B (fromR s 1) (sizeR s c) := by
  obtain ⟨n1, r1, m1, e1, h1⟩ := num_of hA nA
  obtain ⟨n2, r2, m2, e2, h2⟩ := num_of hB nB
  obtain ⟨n3, r3, m3, e3, h3⟩ := num_of hc nc
  obtain ⟨m4, e4, h4⟩ := size_num h3
  have hz := fromR_lt s 1
  exact ⟨by rw [op2, op2]; exact mul_comm h1 h2, opR_lt (by decide) (by decide) hA hB, opR_lt (by decide) (by decide) hA hz, opR_lt (by decide) (by decide) hA h4.bound, opR_lt (by decide) (by decide) hB h4.bound, hz, h4.bound, by rw [op2]; exact (mul_end h1).1, by rw [op2]; exact (mul_end h1).2, by rw [op2, op2]; exact mul_keeps h1 h2 h4⟩

set_option maxRecDepth 100000 in
set_option maxHeartbeats 8000000 in
theorem once_main (s : Bool) (A B c : Nat) (w : World) (hA : A < 2 * signN s) (hB : B < 2 * signN s) (hc : c < 2 * signN s) (nA : isNumR s A = true) (nB : isNumR s B = true) (nc : isNumR s c = true) :
    Calls Tryd.prog 8 #[.int .i64 (tv s), .agg #[.int .u64 (A : Int), .int .u64 (B : Int)], .int .u64 (c : Int)] w (Ret (.bool true) w) := by
  have c1 := awake_c
  have c2 := fun w => threeErr_c (tv s) (A : Int) (B : Int) w
  have c3 := fun w => bitsErrR_c (tv s) (c : Int) w
  have c4 := fun w => isNum_c s A w (rg_nat hA).2
  have c5 := fun w => isNum_c s B w (rg_nat hB).2
  have c6 := fun w => isNum_c s c w (rg_nat hc).2
  rw [(rg_nat hA).valid2 (rg_nat hB)] at c2
  have hb0 : bitsErrV (tv s) [(c : Int)] = 0 := by
    have := (rg_nat hc).valid1
    unfold validV at this
    have ht : typeErrV (tv s) = 0 := by cases s <;> rfl
    rw [if_pos ht] at this
    exact this
  rw [hb0] at c3
  rw [nA] at c4
  rw [nB] at c5
  rw [nc] at c6
  have c7 := fun w => FromInteger_c (tv s) 1 w
  have he7 : fromErrV (tv s) 1 = 0 := by cases s <;> rfl
  rw [he7, tv_eq, from_eq] at c7
  have c8 := fun w => SizeOf_c (tv s) (c : Int) w (rg_nat hc).u64
  rw [(rg_nat hc).valid1, size_eq hc] at c8
  unfold orErr at c7 c8
  simp only [if_true] at c7 c8
  have R0 := round_add hA hB hc nA nB nc
  have R1 := round_mul hA hB hc nA nB nc
  have d1 := fun w => applyN 3 s A (fromR s 1) w (by decide) (by decide) hA (fromR_lt s 1)
  have hd : opR 3 s A (fromR s 1) = A := by
    obtain ⟨n1, r1, m1, e1, h1⟩ := num_of hA nA
    rw [op3]; exact div_one h1
  rw [hd] at d1
  have d2 := fun w => applyN 1 s A A w (by decide) (by decide) hA hA
  have hD := opR_lt (op := 1) (by decide) (by decide) hA hA
  have hz0 : 0 < 2 * signN s := by cases s <;> decide
  have d3 := fun w => compareN s (opR 1 s A A) 0 w hD hz0
  clear hz0
  have hs : cmpR s (opR 1 s A A) 0 = 0 := by
    obtain ⟨n1, r1, m1, e1, h1⟩ := num_of hA nA
    rw [op1]; exact sub_self h1
  rw [hs] at d3
  generalize opR 1 s A A = D at *
  generalize fromR s 1 = one at *
  generalize sizeR s c = size at *
  have K := fun (op : Int) (e v : Nat) (w : World) (h : Round s op A B e v) (h0 : 0 ≤ op) (h6 : op ≤ 6) => (show
      (∀ w, Calls Tryd.prog 11 #[.int .i64 op, .int .i64 (tv s), .int .u64 (A : Int), .int .u64 (B : Int)] w (Ret (.tuple #[.int .u64 (opR op s A B : Int), .int .i64 0]) w)) ∧
      (∀ w, Calls Tryd.prog 11 #[.int .i64 op, .int .i64 (tv s), .int .u64 (B : Int), .int .u64 (A : Int)] w (Ret (.tuple #[.int .u64 (opR op s A B : Int), .int .i64 0]) w)) ∧
      (∀ w, Calls Tryd.prog 11 #[.int .i64 op, .int .i64 (tv s), .int .u64 (A : Int), .int .u64 (e : Int)] w (Ret (.tuple #[.int .u64 (opR op s A e : Int), .int .i64 0]) w)) ∧
      (∀ w, Calls Tryd.prog 32 #[.int .i64 (tv s), .int .u64 (opR op s A e : Int), .int .u64 (A : Int)] w (Ret (.tuple #[.int .i64 0, .int .i64 0]) w)) ∧
      (∀ w, Calls Tryd.prog 32 #[.int .i64 (tv s), .int .u64 (A : Int), .int .u64 (B : Int)] w (Ret (.tuple #[.int .i64 (cmpR s A B), .int .i64 0]) w)) ∧
      (∀ w, Calls Tryd.prog 11 #[.int .i64 op, .int .i64 (tv s), .int .u64 (A : Int), .int .u64 (v : Int)] w (Ret (.tuple #[.int .u64 (opR op s A v : Int), .int .i64 0]) w)) ∧
      (∀ w, Calls Tryd.prog 11 #[.int .i64 op, .int .i64 (tv s), .int .u64 (B : Int), .int .u64 (v : Int)] w (Ret (.tuple #[.int .u64 (opR op s B v : Int), .int .i64 0]) w)) ∧
      (∀ w, Calls Tryd.prog 32 #[.int .i64 (tv s), .int .u64 (opR op s A v : Int), .int .u64 (opR op s B v : Int)] w (Ret (.tuple #[.int .i64 (cmpR s (opR op s A v) (opR op s B v)), .int .i64 0]) w)) from
    ⟨fun w => applyN op s A B w h0 h6 hA hB, fun w => by rw [h.comm]; exact applyN op s B A w h0 h6 hB hA, fun w => applyN op s A e w h0 h6 hA h.elt,
      fun w => by have := compareN s (opR op s A e) A w h.lt2 hA; rw [h.same] at this; exact this, fun w => compareN s A B w hA hB,
      fun w => applyN op s A v w h0 h6 hA h.vlt, fun w => applyN op s B v w h0 h6 hB h.vlt, fun w => compareN s _ _ w h.lt3 h.lt4⟩)
  have K0 := K 0 0 c w R0 (by decide) (by decide)
  have K1 := K 2 one size w R1 (by decide) (by decide)
  have cp := fun w => parts_c s A w (rg_nat hA).2
  have L0 := R0.last
  have L1 := R1.last
  have P0 := R0.keep
  have P1 := R1.keep
  clear K R0 R1 hA hB hc nA nB nc hb0 he7 hd hD hs
  obtain ⟨p, hp⟩ : ∃ p, partsR s A = p := ⟨_, rfl⟩
  rw [hp] at cp L0 L1
  clear hp
  obtain ⟨pk, pn, pg, px⟩ := p
  simp only [PP.v] at cp
  simp only at L0 L1
  generalize opR 0 s A B = ab0 at *
  generalize opR 0 s A 0 = ae0 at *
  generalize opR 0 s A c = ac0 at *
  generalize opR 0 s B c = bc0 at *
  generalize opR 2 s A B = ab1 at *
  generalize opR 2 s A one = ae1 at *
  generalize opR 2 s A size = ac1 at *
  generalize opR 2 s B size = bc1 at *
  generalize cmpR s A B = o at *
  generalize cmpR s ac0 bc0 = r0 at *
  generalize cmpR s ac1 bc1 = r1 at *
  generalize tv s = t at *
  have hfd := fun w => fld0 w pk pn pg px
  go_enter Tryd.func8, Tryd.ntmps8
  go_upto_region 1 with (fail)
  refine hide1 w (fun W0 k0 s0 HE => ?_)
  go_upto_region 12 with (first | (go_at_call 10; refine (c1 _).mono ?_; rintro e w1 ⟨rfl, hb1⟩; have HE1 := HE.call hb1) | (go_at_call 13; refine (c2 _).mono ?_; rintro e w2 ⟨rfl, hb2⟩; have HE2 := HE1.call hb2) | (go_at_call 17; refine (c3 _).mono ?_; rintro e w3 ⟨rfl, hb3⟩; have HE3 := HE2.call hb3) | (go_at_call 36; (with_reducible refine (c4 _).mono ?_); rintro e w4 ⟨rfl, hb4⟩; have HE4 := HE3.call hb4) | (go_at_call 36; (with_reducible refine (c5 _).mono ?_); rintro e w5 ⟨rfl, hb5⟩; have HE5 := HE4.call hb5) | (go_at_call 36; (with_reducible refine (c6 _).mono ?_); rintro e w6 ⟨rfl, hb6⟩; have HE6 := HE5.call hb6) | (go_at_call 20; refine (c7 _).mono ?_; rintro e w7 ⟨rfl, hb7⟩; have HE7 := HE6.call hb7) | (go_at_call 25; refine (c8 _).mono ?_; rintro e w8 ⟨rfl, hb8⟩; have HE8 := HE7.call hb8))
  refine hide3 HE8 (fun W q1 q2 q3 sz HW => ?_)
  have k1 : ∀ i, W.cell? ⟨w.heap.size, i, none⟩ = _ := fun i => (HW.1 _ i s0).trans (k0 i)
  have hs8 : w.heap.size < w8.heap.size := Nat.lt_of_lt_of_le s0 HE8.2.2.1
  have hz : w.heap.size < W.heap.size := by omega
  have HV : Ext w W W := Ext.refl HW.2.2.2
  clear k0 HE HE1 HE2 HE3 HE4 HE5 HE6 HE7 HE8 HW hb1 hb2 hb3 hb4 hb5 hb6 hb7 hb8 c1 c2 c3 c4 c5 c6 c7 c8
  generalize w8.heap.size = g at *
  go_wp2
  go_loopw [14] (fun v14 wr => ∃ i : Nat, i ≤ 2 ∧ v14 = .int .i64 i ∧ Ext w W wr) (fun v14 _ => 2 - (intOf v14).toNat)
  case atStart => exact ⟨0, by omega, rfl, HV⟩
  case round =>
    obtain ⟨i, hi, rfl, hE⟩ := hrel
    have z0 : ∀ i, wr.cell? ⟨w.heap.size, i, none⟩ = _ := fun i => (hE.1 _ i hz).trans (k1 i)
    have z1 : ∀ i, wr.cell? ⟨g, i, none⟩ = _ := fun i => (hE.1 _ i (by omega)).trans (q1 i)
    have z2 : ∀ i, wr.cell? ⟨g + 1, i, none⟩ = _ := fun i => (hE.1 _ i (by omega)).trans (q2 i)
    have z3 : ∀ i, wr.cell? ⟨g + 2, i, none⟩ = _ := fun i => (hE.1 _ i (by omega)).trans (q3 i)
    have hsz := hE.2.2.1
    have hbr := hE.2.2.2
    have hEE : Ext w wr wr := Ext.refl hbr
    have y0 : w.heap.size < wr.heap.size := by omega
    have y1 : g + 2 < wr.heap.size := by omega
    have y2 : g < wr.heap.size := by omega
    have y3 : g + 1 < wr.heap.size := by omega
    have HX := Lib.hid hE
    clear hE HV k1 q1 q2 q3 hsz sz hz
    have hi3 : i = 2 ∨ i = 0 ∨ i = 1 := by omega
    clear hi
    rcases hi3 with rfl | rfl | rfl
    · as_aux_lemma =>
      clear K0 K1 L0 L1 P0 P1 cp hfd
      go_wp2_with (first | (go_at_call 11; (with_reducible refine (d1 _).mono ?_); rintro e w1 ⟨rfl, hb1⟩; have HE1 := hEE.call hb1) | (go_at_call 11; (with_reducible refine (d2 _).mono ?_); rintro e w2 ⟨rfl, hb2⟩; have HE2 := HE1.call hb2) | (go_at_call 32; refine (d3 _).mono ?_; rintro e w3 ⟨rfl, hb3⟩; have HE3 := HE2.call hb3))
      go_ret
      exact ⟨rfl, Ext.end HE3⟩
    · as_aux_lemma =>
      obtain ⟨a1, a2, a3, a4, a5, a6, a7, a8⟩ := K0
      clear K1 L1 P1 d1 d2 d3
      go_upto_region 15 with (fail)
      go_region_held3 (fun w' => Ext w wr w') (first | assumption | (with_reducible exact Ext.call (by assumption) hb1) | ((with_reducible refine Ext.drew ?_); assumption)) (((go_at_call 11; refine (a1 _).mono ?_; rintro e w1 ⟨rfl, hb1⟩; have HE1 : Ext w wr w1 := Ext.call (by assumption) hb1)))
      go_upto_region 16 with (fail)
      go_region_held3 (fun w' => Ext w wr w') (first | assumption | (with_reducible exact Ext.call (by assumption) hb2) | ((with_reducible refine Ext.drew ?_); assumption)) (((go_at_call 11; refine (a2 _).mono ?_; rintro e w2 ⟨rfl, hb2⟩; have HE2 : Ext w wr w2 := Ext.call (by assumption) hb2)))
      go_upto_region 17 with (fail)
      go_region_held3 (fun w' => Ext w wr w') (first | assumption | (with_reducible exact Ext.call (by assumption) hb3) | ((with_reducible refine Ext.drew ?_); assumption)) (((go_at_call 11; refine (a3 _).mono ?_; rintro e w3 ⟨rfl, hb3⟩; have HE3 : Ext w wr w3 := Ext.call (by assumption) hb3)))
      clear HE1 HE2 hb1 hb2
      go_upto_region 19 with ((go_at_call 32; refine (a4 _).mono ?_; rintro e w4 ⟨rfl, hb4⟩; have HE4 : Ext w wr w4 := HE3.call hb4))
      have hlast : (ae0 = A ∧ ((ae0 : Int) != (A : Int)) = false) ∨ (((ae0 : Int) != (A : Int)) = true ∧ pk = 0) := by
        by_cases hq : ae0 = A
        · left; refine ⟨hq, ?_⟩; rw [hq]; simp
        · right; rcases L0 with h | h
          · exact absurd h hq
          · refine ⟨?_, h⟩; rw [bne_iff_ne]; intro h'; exact hq (by omega)
      clear L0
      rcases hlast with ⟨-, hq⟩ | ⟨hq, rfl⟩
      all_goals as_aux_lemma =>
        go_upto_region 21 with (first | (go_at_call 19; refine (cp _).mono ?_; rintro e w5 ⟨rfl, hb5⟩; have HE4 := HE4.call hb5))
        go_upto_region 22 with ((go_at_call 32; refine (a5 _).mono ?_; rintro e w6 ⟨rfl, hb6⟩; have HE6 : Ext w wr w6 := HE4.call hb6))
        clear HE3 HE4 hb4
        go_region_held3 (fun w' => Ext w wr w') (first | assumption | (with_reducible exact Ext.call (by assumption) hb7) | ((with_reducible refine Ext.drew ?_); assumption)) (((go_at_call 11; refine (a6 _).mono ?_; rintro e w7 ⟨rfl, hb7⟩; have HE7 : Ext w wr w7 := Ext.call (by assumption) hb7)))
        go_upto_region 23 with (fail)
        clear HE6
        go_region_held3 (fun w' => Ext w wr w') (first | assumption | (with_reducible exact Ext.call (by assumption) hb8) | ((with_reducible refine Ext.drew ?_); assumption)) (((go_at_call 11; refine (a7 _).mono ?_; rintro e w8 ⟨rfl, hb8⟩; have HE8 : Ext w wr w8 := Ext.call (by assumption) hb8)))
        clear HE7
        go_upto_region 25 with ((go_at_call 32; refine (a8 _).mono ?_; rintro e w9 ⟨rfl, hb9⟩; have HE9 : Ext w wr w9 := HE8.call hb9))
        have hfin : Ext w W w9 := NC.Ext.trans HX.out HE9
        clear HE8 hb9
        rcases P0 with ⟨rfl, rfl | rfl⟩ | ⟨rfl, rfl⟩ | ⟨rfl, rfl | rfl⟩
        all_goals as_aux_lemma =>
          go_wp2
          go_roundw
          case rel => exact ⟨1, by omega, rfl, hfin⟩
          case measure => simp [intOf]
    · as_aux_lemma =>
      obtain ⟨a1, a2, a3, a4, a5, a6, a7, a8⟩ := K1
      clear K0 L0 P0 d1 d2 d3
      go_upto_region 15 with (fail)
      go_region_held3 (fun w' => Ext w wr w') (first | assumption | (with_reducible exact Ext.call (by assumption) hb1) | ((with_reducible refine Ext.drew ?_); assumption)) (((go_at_call 11; refine (a1 _).mono ?_; rintro e w1 ⟨rfl, hb1⟩; have HE1 : Ext w wr w1 := Ext.call (by assumption) hb1)))
      go_upto_region 16 with (fail)
      go_region_held3 (fun w' => Ext w wr w') (first | assumption | (with_reducible exact Ext.call (by assumption) hb2) | ((with_reducible refine Ext.drew ?_); assumption)) (((go_at_call 11; refine (a2 _).mono ?_; rintro e w2 ⟨rfl, hb2⟩; have HE2 : Ext w wr w2 := Ext.call (by assumption) hb2)))
      go_upto_region 17 with (fail)
      go_region_held3 (fun w' => Ext w wr w') (first | assumption | (with_reducible exact Ext.call (by assumption) hb3) | ((with_reducible refine Ext.drew ?_); assumption)) (((go_at_call 11; refine (a3 _).mono ?_; rintro e w3 ⟨rfl, hb3⟩; have HE3 : Ext w wr w3 := Ext.call (by assumption) hb3)))
      clear HE1 HE2 hb1 hb2
      go_upto_region 19 with ((go_at_call 32; refine (a4 _).mono ?_; rintro e w4 ⟨rfl, hb4⟩; have HE4 : Ext w wr w4 := HE3.call hb4))
      have hlast : (ae1 = A ∧ ((ae1 : Int) != (A : Int)) = false) ∨ (((ae1 : Int) != (A : Int)) = true ∧ pk = 0) := by
        by_cases hq : ae1 = A
        · left; refine ⟨hq, ?_⟩; rw [hq]; simp
        · right; rcases L1 with h | h
          · exact absurd h hq
          · refine ⟨?_, h⟩; rw [bne_iff_ne]; intro h'; exact hq (by omega)
      clear L1
      rcases hlast with ⟨-, hq⟩ | ⟨hq, rfl⟩
      all_goals as_aux_lemma =>
        go_upto_region 21 with (first | (go_at_call 19; refine (cp _).mono ?_; rintro e w5 ⟨rfl, hb5⟩; have HE4 := HE4.call hb5))
        go_upto_region 22 with ((go_at_call 32; refine (a5 _).mono ?_; rintro e w6 ⟨rfl, hb6⟩; have HE6 : Ext w wr w6 := HE4.call hb6))
        clear HE3 HE4 hb4
        go_region_held3 (fun w' => Ext w wr w') (first | assumption | (with_reducible exact Ext.call (by assumption) hb7) | ((with_reducible refine Ext.drew ?_); assumption)) (((go_at_call 11; refine (a6 _).mono ?_; rintro e w7 ⟨rfl, hb7⟩; have HE7 : Ext w wr w7 := Ext.call (by assumption) hb7)))
        go_upto_region 23 with (fail)
        clear HE6
        go_region_held3 (fun w' => Ext w wr w') (first | assumption | (with_reducible exact Ext.call (by assumption) hb8) | ((with_reducible refine Ext.drew ?_); assumption)) (((go_at_call 11; refine (a7 _).mono ?_; rintro e w8 ⟨rfl, hb8⟩; have HE8 : Ext w wr w8 := Ext.call (by assumption) hb8)))
        clear HE7
        go_upto_region 25 with ((go_at_call 32; refine (a8 _).mono ?_; rintro e w9 ⟨rfl, hb9⟩; have HE9 : Ext w wr w9 := HE8.call hb9))
        have hfin : Ext w W w9 := NC.Ext.trans HX.out HE9
        clear HE8 hb9
        rcases P1 with ⟨rfl, rfl | rfl⟩ | ⟨rfl, rfl⟩ | ⟨rfl, rfl | rfl⟩
        all_goals as_aux_lemma =>
          go_wp2
          go_roundw
          case rel => exact ⟨2, by omega, rfl, hfin⟩
          case measure => simp [intOf]
end Go.Proofs.YtmoimcblmmcffaaDoor.NC

/-! The theorem 'rounded once', walked: inputs that are no numbers, and all. -/
namespace Go.Proofs.YtmoimcblmmcffaaDoor.NC
open Go.RowKit Go.Proofs.YtmoimcblmmcffaaDoor.B Go.Proofs.YtmoimcblmmcffaaDoor.N
set_option linter.unusedSimpArgs false
set_option linter.unusedVariables false

set_option maxRecDepth 100000 in
set_option maxHeartbeats 4000000 in
theorem law_once (t a b c : Int) (w : World) (ha : U64 a) (hb : U64 b) (hc : U64 c) : Calls Tryd.prog 8 #[.int .i64 t, .agg #[.int .u64 a, .int .u64 b], .int .u64 c] w (Ret (.bool true) w) := by
  have c1 := awake_c
  have c2 := fun w => threeErr_c t a b w
  have c3 := fun w => bitsErrR_c t c w
  by_cases hv : validV t [a, b] = 0
  · obtain ⟨s, ht, hs, h1, h2⟩ := valid_s2 ha hb hv
    obtain rfl : t = tv s := ht
    obtain ⟨x, rfl⟩ := Int.eq_ofNat_of_zero_le ha.1
    obtain ⟨y, rfl⟩ := Int.eq_ofNat_of_zero_le hb.1
    obtain ⟨z, rfl⟩ := Int.eq_ofNat_of_zero_le hc.1
    have hx : x < 2 * signN s := by rw [top_sgn] at h1; exact_mod_cast h1
    have hy : y < 2 * signN s := by rw [top_sgn] at h2; exact_mod_cast h2
    rw [hv] at c2
    by_cases hz : bitsErrV (tv s) [(z : Int)] = 0
    · have hzz : z < 2 * signN s := by
        cases s
        · have : 2 * signN false = 18446744073709551616 := by decide
          rw [this]; have := hc.2; omega
        · have h2 : 2 * signN true = 4294967296 := by decide
          rw [h2]
          unfold bitsErrV at hz
          by_cases hq : tv true = 1 ∧ ([(z : Int)].any fun a => decide (4294967296 ≤ a)) = true
          · rw [if_pos hq] at hz; exact absurd hz (by decide)
          · have : ¬ (4294967296 : Int) ≤ (z : Int) := fun hc => hq ⟨rfl, by simpa using hc⟩
            omega
      rw [hz] at c3
      have c4 := fun w => isNum_c s x w h1
      have c5 := fun w => isNum_c s y w h2
      have c6 := fun w => isNum_c s z w (rg_nat hzz).2
      by_cases hn : isNumR s x = true ∧ isNumR s y = true ∧ isNumR s z = true
      · exact once_main s x y z w hx hy hzz hn.1 hn.2.1 hn.2.2
      · have hn3 : isNumR s x = false ∨ (isNumR s x = true ∧ isNumR s y = false) ∨ (isNumR s x = true ∧ isNumR s y = true ∧ isNumR s z = false) := by
          cases h1 : isNumR s x <;> cases h2 : isNumR s y <;> cases h3 : isNumR s z <;> simp_all
        clear hn hz hzz hx hy hv h1 h2 hs ha hb hc
        generalize tv s = t at *
        generalize isNumR s x = n1 at *
        generalize isNumR s y = n2 at *
        generalize isNumR s z = n3 at *
        rcases hn3 with rfl | ⟨rfl, rfl⟩ | ⟨rfl, rfl, rfl⟩
        all_goals
          go_enter Tryd.func8, Tryd.ntmps8
          go_upto_region 1 with (fail)
          refine hide1 w (fun W k0 s0 HE => ?_)
          go_wp2_with (first | (go_at_call 10; refine (c1 _).mono ?_; rintro e w1 ⟨rfl, hb1⟩; have HE := HE.call hb1) | (go_at_call 13; refine (c2 _).mono ?_; rintro e w2 ⟨rfl, hb2⟩; have HE := HE.call hb2) | (go_at_call 17; refine (c3 _).mono ?_; rintro e w3 ⟨rfl, hb3⟩; have HE := HE.call hb3) | (go_at_call 36; (with_reducible refine (c4 _).mono ?_); rintro e w4 ⟨rfl, hb4⟩; have HE := HE.call hb4) | (go_at_call 36; (with_reducible refine (c5 _).mono ?_); rintro e w5 ⟨rfl, hb5⟩; have HE := HE.call hb5) | (go_at_call 36; (with_reducible refine (c6 _).mono ?_); rintro e w6 ⟨rfl, hb6⟩; have HE := HE.call hb6))
          go_ret
          exact ⟨rfl, Ext.end HE⟩
    · have hq : (bitsErrV (tv s) [(z : Int)] != 0) = true := by simpa using hz
      clear hz hx hy hv h1 h2 hs ha hb hc
      generalize bitsErrV (tv s) [(z : Int)] = B at *
      generalize tv s = t at *
      go_enter Tryd.func8, Tryd.ntmps8
      go_upto_region 1 with (fail)
      refine hide1 w (fun W k0 s0 HE => ?_)
      go_wp2_with (first | (go_at_call 10; refine (c1 _).mono ?_; rintro e w1 ⟨rfl, hb1⟩; have HE := HE.call hb1) | (go_at_call 13; refine (c2 _).mono ?_; rintro e w2 ⟨rfl, hb2⟩; have HE := HE.call hb2) | (go_at_call 17; refine (c3 _).mono ?_; rintro e w3 ⟨rfl, hb3⟩; have HE := HE.call hb3))
      go_ret
      exact ⟨rfl, Ext.end HE⟩
  · have hq : (validV t [a, b] != 0) = true := by simpa using hv
    clear hv ha hb hc
    generalize validV t [a, b] = B at *
    go_enter Tryd.func8, Tryd.ntmps8
    go_upto_region 1 with (fail)
    refine hide1 w (fun W k0 s0 HE => ?_)
    go_wp2_with (first | (go_at_call 10; refine (c1 _).mono ?_; rintro e w1 ⟨rfl, hb1⟩; have HE := HE.call hb1) | (go_at_call 13; refine (c2 _).mono ?_; rintro e w2 ⟨rfl, hb2⟩; have HE := HE.call hb2))
    go_ret
    exact ⟨rfl, Ext.end HE⟩
end Go.Proofs.YtmoimcblmmcffaaDoor.NC

/-! PROVED: formularylaw08.RealsOnce returns true for every input, and leaves its arguments as they were: a number with a neutral one is itself, sums and products are rounded once and so are monotone. CONDITIONS: the row's own: math/bits.deBruijn64tab holds at the start what the program's text lays (tied by the card); nothing else. -/
namespace Go.Proofs.YtmoimcblmmcffaaDoor.Law
open Go.ChangeShapes Go.WideShapes Go.ChangeAt Go.RowKit

theorem realsOnce_cells2 : Tryd.prog.cellsOf 24 = 2 := by kernel_rfl
set_option maxRecDepth 100000 in
theorem realsOnce_contract (H : Type) (enc : TypeId × Value → H) (W : World) (base : Nat) (args : Array Value) (ds gs : List (DataW H)) (before : List MemPlace)
    (hval : ∀ (j : Nat) t v, Tryd.f8.params[j]? = some t → args[j]? = some v → Value.okWide Tryd.prog W .any base t v)
    (hW : DataW.Whole enc Tryd.prog Tryd.f8.params.toList Rows.realsOnceSpec.vars false W args.toList ds gs before) :
    Calls Tryd.prog 8 args W fun e W' => ∃ v, e = .returned v ∧ Rows.realsOnceSpec.post enc Tryd.prog Tryd.f8 false true false false W args v W' := by
  have hW' := hW
  obtain ⟨p, q, hA0, hV, rfl, hfz, hnd⟩ := hW
  have hA : DataW.TrodAll enc Tryd.prog W 0 (fun _ => true) true Tryd.f8.params.toList args.toList ds p := hA0
  rw [Tryd.params8] at hA hval
  obtain ⟨v0, vs0, d0, ds0, p0, q0, hargs, rfl, rfl, h0, r0⟩ := trodAll_cons hA
  obtain ⟨v1, vs1, d1, ds1, p1, q1, rfl, rfl, rfl, h1, r1⟩ := trodAll_cons r0
  obtain ⟨v2, vs2, d2, ds2, p2, q2, rfl, rfl, rfl, h2, r2⟩ := trodAll_cons r1
  obtain ⟨rfl, rfl, rfl⟩ := trodAll_nil r2
  obtain rfl : args = #[v0, v1, v2] := by cases args; simp_all
  obtain ⟨rfl, rfl⟩ := trodVars_none hV
  obtain ⟨z0, rfl, rfl, rfl, w0⟩ := open_int Tryd.underlying3 (hval 0 3 v0 rfl rfl) h0
  obtain ⟨c0, c1, y0, y1, m, rfl, rfl, rfl, hy0, hy1⟩ := Joins.open_agg2 Tryd.underlying24 (by kernel_rfl) realsOnce_cells2 (hval 1 24 v1 rfl rfl) h1
  obtain ⟨a, e0, rfl, wa⟩ := DataW.trod_int Tryd.underlying22 hy0
  obtain ⟨b, e1, rfl, wb⟩ := DataW.trod_int Tryd.underlying22 hy1
  simp at e0 e1
  subst e0 e1
  have pairReads : ∀ (W' : World) (sp : Nat → Bool), DataW.Trod enc Tryd.prog W' 0 sp true 24 (.agg #[.int .u64 a, .int .u64 b]) (.agg [.lit (.int .u64 a), .lit (.int .u64 b)]) [] := fun W' sp =>
    Joins.shut_agg2 (y0 := (.lit (.int .u64 a), [])) (y1 := (.lit (.int .u64 b), [])) Tryd.underlying24 (by kernel_rfl) realsOnce_cells2 ⟨1, by simp [DataW.trod, Tryd.underlying22, wa]⟩ ⟨1, by simp [DataW.trod, Tryd.underlying22, wb]⟩
  obtain ⟨z2, rfl, rfl, rfl, w2⟩ := open_int Tryd.underlying22 (hval 2 22 v2 rfl rfl) h2
  clear hA0
  simp only [List.append_nil] at hW'
  refine (NC.law_once z0 a b z2 W (u64_wf wa) (u64_wf wb) (u64_wf w2)).mono fun e W' ⟨he, hg⟩ => ?_
  subst he
  exact ⟨_, rfl, _, _, _, [], [], [], hW', trodAll_mk1 (shut_bool Tryd.underlying4 _), (trodAll_cons_mk (shut_int Tryd.underlying3 w0) (trodAll_cons_mk (pairReads _ _) (trodAll_cons_mk (shut_int Tryd.underlying22 w2) trodAll_mk0))), rfl, hg.frame _, fun h => by cases h⟩

theorem realsOnce_met (os : Os) : laidMet Tryd.prog Rows.realsOnceRow.laid ((laidWorld os).forCall (fun _ _ => 0) ⟨#[], #[Value.int .i64 0, .agg #[.int .u64 0, .int .u64 0], Value.int .u64 0], []⟩).memory :=
  laidMet_of_run' 8 (by kernel_rfl) (by kernel_rfl)
theorem realsOnce_reads (os : Os) {H : Type} (enc : TypeId × Value → H) : ∃ places, DataW.whole enc Tryd.prog ((laidWorld os).forCall (fun _ _ => 0) ⟨#[], #[Value.int .i64 0, .agg #[.int .u64 0, .int .u64 0], Value.int .u64 0], []⟩).memory Tryd.f8.params.toList Rows.realsOnceSpec.vars false (#[Value.int .i64 0, .agg #[.int .u64 0, .int .u64 0], Value.int .u64 0] : Array Value).toList 8 = some ([.lit (.int .i64 0), .agg [.lit (.int .u64 0), .lit (.int .u64 0)], .lit (.int .u64 0)], [], places) :=
  ⟨[], by kernel_rfl⟩
set_option maxRecDepth 100000 in
theorem realsOnce_lifted (os : Os) (started : os.Started) (H : Type) (enc : TypeId × Value → H) (F : Stop.Interp) :
    ReturnsInHanded {} Tryd.checked os 8 .any ((OpenSpec.ofChange Rows.realsOnceSpec).preRow enc Tryd.prog Tryd.f8 Rows.realsOnceRow.domain false Rows.realsOnceRow.laid) (((OpenSpec.ofChange Rows.realsOnceSpec).at F).post enc Tryd.prog Tryd.f8 false true false false) := by
  obtain ⟨places, hx⟩ := realsOnce_reads os enc
  refine returnsInHanded_of_row (C := Tryd.checked) (s := OpenSpec.ofChange Rows.realsOnceSpec) own started (by kernel_rfl) Tryd.func8
    (witness_row_at (enc := enc) (C := Tryd.checked) false (laidWorld os) #[Value.int .i64 0, .agg #[.int .u64 0, .int .u64 0], Value.int .u64 0] rfl (by kernel_rfl) (by kernel_rfl) (by kernel_rfl)
      (OpenSpec.preRow_of_cond 8 hx (by kernel_rfl) (fun k hk => by cases hk) (by kernel_rfl) (realsOnce_met os))) ?_
  intro W base args ds gs before hval hW _ _ _ hL _ _
  exact realsOnce_contract H enc W base args ds gs before hval hW
theorem realsOnce_said : Rows.RealsOnceSaid :=
  OpenClaim.holds_of_cond 8 Tryd.f8 rfl rfl rfl rfl rfl rfl rfl ⟨rfl, rfl, rfl, rfl, rfl⟩ rfl rfl rfl rfl rfl (by kernel_rfl) Tryd.func8 (by kernel_rfl)
    (of_decide_eq_true (by kernel_rfl)) (by unfold Func.isWrapper; first | (rw [if_pos (by decide +kernel)]; kernel_rfl) | (rw [if_neg (by decide +kernel)]; exact ⟨rfl, rfl⟩))
    (fun os started H enc _ F => by rw [OpenClaim.pre_eq_preRow]; exact realsOnce_lifted os started H enc F)
theorem realsOnce_plain (f : FuncId) (fn : Func) (hf : Tryd.pinned.checked.prog.funcNamed "formulary/formularylaw08.RealsOnce" = some f) (hfn : Tryd.pinned.checked.prog.funcs[f]? = some fn) :
    false = Tryd.pinned.checked.prog.looks [] ∧ ∀ (j : Nat) t, fn.params[j]? = some t → Tryd.pinned.checked.prog.wantsStandIn t = false := by
  obtain rfl : f = 8 := Option.some.inj ((show Tryd.prog.funcNamed "formulary/formularylaw08.RealsOnce" = some 8 by kernel_rfl).symm.trans hf) |>.symm
  obtain rfl : fn = Tryd.f8 := (Option.some.inj (Tryd.func8.symm.trans hfn)).symm
  refine ⟨by kernel_rfl, fun j t ht => ?_⟩
  rw [Tryd.params8] at ht
  have hm := Array.mem_of_getElem? ht
  simp at hm
  rcases hm with rfl | rfl | rfl
  · exact (show Tryd.prog.wantsStandIn 3 = false by kernel_rfl)
  · exact (show Tryd.prog.wantsStandIn 24 = false by kernel_rfl)
  · exact (show Tryd.prog.wantsStandIn 22 = false by kernel_rfl)
theorem realsOnce_card : Rows.RealsOnceCardSaid :=
  Claim7.holds_tied_plain_at .later [] _ _ _ _ realsOnce_said (fun _ h => by cases h) (by kernel_rfl) (fun _ h => by cases h) realsOnce_row_tie rfl ⟨rfl, rfl⟩ (by kernel_rfl) rfl realsOnce_plain (by kernel_rfl)
end Go.Proofs.YtmoimcblmmcffaaDoor.Law
