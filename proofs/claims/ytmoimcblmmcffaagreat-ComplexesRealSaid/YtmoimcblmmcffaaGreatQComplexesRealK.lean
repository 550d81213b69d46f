/- Contracts and plain laws that the law ComplexesReal leans on (texts joined by program; what it does not come to is left out). -/
import Derived.Test.YtmoimcblmmcffaaGreatQComplexesRealJ
import Derived.Test.YtmoimcblmmcffaaGreatProg
import Derived.Below
import Derived.Deep.Draws
import Derived.Deep.AppendLies
import Derived.Maps.AppendAt
import Derived.OwnWalk
import Derived.Laws.BytesArg
import Derived.Laws.MakeOwn
import Derived.Laws.OwnMore
import Derived.Deep.OwnRows
import Derived.Tactics
import Derived.Lib.ConvBytes
import Derived.Laws.Slices
import Derived.WalkKit
import Derived.KernelRfl
import Derived.RowKit3
import Derived.Deep.LoopGhost
import Derived.Deep.QuietTactic
import Derived.BigQuiet
import Derived.WideLaws
import Derived.Deep.DeepCutAuto
import Derived.Deep.CutBlock
import Derived.Deep.RegionHeld3
import Derived.Laws.Rows
import Derived.Lib.AppendStr
import Derived.ArgAppend
import Derived.Laws.IdiomCopy
import Derived.OrdersHeld
import Derived.Laws.BitsLemmas
import Derived.RowKit
import Derived.Test.YtmoimcblmmcffaaGreatQComplexesRealA
import Derived.Test.YtmoimcblmmcffaaGreatQComplexesRealB

namespace Go.Proofs.YtmoimcblmmcffaaGreat.NC
open Go.RowKit Go.Proofs.YtmoimcblmmcffaaGreat.B Go.Proofs.YtmoimcblmmcffaaGreat.N
set_option linter.unusedSimpArgs false
set_option linter.unusedVariables false
theorem Num.bound {s : Bool} {a : Nat} {n : Bool} {r m : Nat} {e : Int} (h : Num s a n r m e) : a < 2 * signN s := by rw [h.word]; exact word_lt s n (Nat.lt_trans h.lt (inf_lt s))
theorem add_val {s : Bool} {a b : Nat} {n m : Bool} {q r ma mb : Nat} {ea eb : Int} (ha : Num s a n q ma ea) (hb : Num s b m r mb eb) :
  addR s a b = (fm s).nearest (if Ieee.signed n ma (ea - min ea eb).toNat + Ieee.signed m mb (eb - min ea eb).toNat = 0 then n && m else decide (Ieee.signed n ma (ea - min ea eb).toNat + Ieee.signed m mb (eb - min ea eb).toNat < 0)) (Ieee.signed n ma (ea - min ea eb).toNat + Ieee.signed m mb (eb - min ea eb).toNat).natAbs (min ea eb) := by
 have hf : floatBits .add (fkOf s) a b = ((((fm s).read a).sum ((fm s).read b)).map (fm s).write) := rfl
 have hr : resV s .add a b = _ := res_num (by rw [hf, ha.read, hb.read]; rfl)
 rw [add_eq ha.bound hb.bound] at hr
 exact_mod_cast hr
theorem add_comm {s : Bool} {a b : Nat} {n m : Bool} {q r ma mb : Nat} {ea eb : Int} (ha : Num s a n q ma ea) (hb : Num s b m r mb eb) : addR s a b = addR s b a := by
 rw [add_val ha hb, add_val hb ha, Int.min_comm eb ea, Int.add_comm (Ieee.signed m mb _), Bool.and_comm m n]
theorem mul_val {s : Bool} {a b : Nat} {n m : Bool} {q r ma mb : Nat} {ea eb : Int} (ha : Num s a n q ma ea) (hb : Num s b m r mb eb) : mulR s a b = (fm s).nearest (n ^^ m) (ma * mb) (ea + eb) := by
 have hf : floatBits .mul (fkOf s) a b = ((((fm s).read a).product ((fm s).read b)).map (fm s).write) := rfl
 have hr : resV s .mul a b = _ := res_num (by rw [hf, ha.read, hb.read]; rfl)
 rw [mul_eq ha.bound hb.bound] at hr
 exact_mod_cast hr
theorem mul_comm {s : Bool} {a b : Nat} {n m : Bool} {q r ma mb : Nat} {ea eb : Int} (ha : Num s a n q ma ea) (hb : Num s b m r mb eb) : mulR s a b = mulR s b a := by
 rw [mul_val ha hb, mul_val hb ha, Nat.mul_comm mb, Int.add_comm eb]
 congr 1
 cases n <;> cases m <;> rfl
theorem sv_mul (s n m : Bool) (q r : Nat) : sv s n q * sv s m r = Ieee.signed (n ^^ m) (Fl.V (fm s) q * Fl.V (fm s) r) 0 := by
 unfold sv
 rw [sg_val, sg_val, sg_val]
 cases n <;> cases m <;> simp [Int.neg_mul, Int.mul_neg]
theorem mul_T {s : Bool} {a b : Nat} {n m : Bool} {q r ma mb : Nat} {ea eb : Int} (ha : Num s a n q ma ea) (hb : Num s b m r mb eb) : IsT s (mulR s a b) (sv s n q * sv s m r) (leastN s + leastN s) := by
 have hl1 := ha.least
 have hl2 := hb.least
 rw [sv_mul]
 refine ⟨n ^^ m, ?_, fun h => ?_, fun h => ?_⟩
 ·rw [mul_val ha hb, Fl.nearest_rung, sg_val]
  congr 1
  have hv : Fl.V (fm s) q * Fl.V (fm s) r = ma * mb * 2 ^ ((ea - leastN s).toNat + (eb - leastN s).toNat) := by
   rw [← ha.val, ← hb.val, Nat.pow_add, Nat.mul_mul_mul_comm]
  have hn : (if (n ^^ m) = true then -((Fl.V (fm s) q * Fl.V (fm s) r : Nat) : Int) else ((Fl.V (fm s) q * Fl.V (fm s) r : Nat) : Int)).natAbs = Fl.V (fm s) q * Fl.V (fm s) r := by
   generalize Fl.V (fm s) q * Fl.V (fm s) r = z
   split <;> simp
  rw [hn, hv, Fl.rung_scale]
  congr 1; omega
 ·rw [sg_val] at h
  generalize Fl.V (fm s) q * Fl.V (fm s) r = z at h
  cases hx : (n ^^ m)
  ·rw [hx] at h; simp at h; omega
  ·rfl
 ·rw [sg_val] at h
  generalize Fl.V (fm s) q * Fl.V (fm s) r = z at h
  cases hx : (n ^^ m)
  ·rfl
  ·rw [hx] at h; simp at h; omega
theorem num_T {s : Bool} {a : Nat} {n : Bool} {r m : Nat} {e : Int} (h : Num s a n r m e) : IsT s a (sv s n r) (leastN s) := by
 have hl := h.least
 have hq : (sv s n r).natAbs = Fl.V (fm s) r := by unfold sv; rw [sg_val]; cases n <;> simp
 refine ⟨n, ?_, fun k => ?_, fun k => ?_⟩
 ·rw [hq, ← h.val, Fl.rung_scale, show leastN s + ((e - leastN s).toNat : Int) = e from by omega, h.back]; exact h.word
 ·unfold sv at k; rw [sg_val] at k
  cases n
  ·simp at k; omega
  ·rfl
 ·unfold sv at k; rw [sg_val] at k
  cases n
  ·rfl
  ·simp at k; omega
theorem T_uniq {s : Bool} {y z : Nat} {T p : Int} (hy : IsT s y T p) (hz : IsT s z T p) (h : T ≠ 0) : y = z := by
 obtain ⟨n, h1, h2, h3⟩ := hy
 obtain ⟨m, k1, k2, k3⟩ := hz
 have hnm : n = m := by
  rcases Int.lt_or_lt_of_ne h with hl | hl
  ·rw [h2 hl, k2 hl]
  ·rw [h3 hl, k3 hl]
 rw [h1, k1, hnm]
theorem num_zero (s : Bool) : ∃ m e, Num s 0 false 0 m e := by
 obtain ⟨m, e, h⟩ := num_word s false (r := 0) (by have := inf_ge s; have := Fl.binade_pos (fm s); omega)
 have : (fm s).word false 0 = 0 := rfl
 rw [this] at h
 exact ⟨m, e, h⟩
theorem sv_zero (s n : Bool) : sv s n 0 = 0 := by unfold sv; rw [Fl.V_zero, sg_zero]
theorem one_word (s : Bool) : fromR s 1 < (fm s).infRung ∧ Fl.V (fm s) (fromR s 1) = 2 ^ (-leastN s).toNat ∧ (fm s).read (fromR s 1) = .number false (2 ^ (fm s).fractionBits) (-((fm s).fractionBits : Int)) := by
 cases s <;> refine ⟨by decide +kernel, by decide +kernel, by decide +kernel⟩
theorem num_one (s : Bool) : ∃ m e, Num s (fromR s 1) false (fromR s 1) m e := num_word s false (one_word s).1
theorem kind_zero {s : Bool} {a : Nat} {n : Bool} {r m : Nat} {e : Int} (h : Num s a n r m e) (hr : r = 0) : (partsR s a).kind = 0 := by
 have ht := told s a h.bound
 have hrd := h.read
 have hm := h.zero.2 hr
 subst hm
 generalize partsR s a = p at *
 cases ht with
 | zero n h hr => rfl
 | fin n m' e' r h0 h1 h hm hm2 he he2 hbn hr => rw [hr] at hrd; cases hrd; omega
 | inf n h hr => rw [hr] at hrd; cases hrd
 | nan n r t u h0 h1 h hr => rw [hr] at hrd; cases hrd
theorem cmp_same {s : Bool} {y z : Nat} {T p : Int} (hy : IsT s y T p) (hz : IsT s z T p) : cmpR s y z = 0 := by
 rw [cmp_T hy hz, if_neg (by omega), if_pos rfl]
theorem shift_T {s : Bool} {y : Nat} {T p : Int} {k : Nat} (h : IsT s y (T * 2 ^ k) p) : IsT s y T (p + k) := by
 have hp : (0 : Int) < 2 ^ k := Fl.two_pow_pos _
 obtain ⟨n, h1, h2, h3⟩ := h
 refine ⟨n, ?_, fun hl => h2 ?_, fun hl => h3 (Int.mul_pos hl hp)⟩
 ·rw [h1, Int.natAbs_mul, Int.natAbs_pow]
  show (fm s).word n (Fl.rung (fm s) (T.natAbs * 2 ^ k) p) = _
  rw [Fl.rung_scale]
 ·have := Int.mul_pos (show 0 < -T by omega) hp
  rw [Int.neg_mul] at this; omega
theorem sub_self {s : Bool} {a : Nat} {n : Bool} {r m : Nat} {e : Int} (h : Num s a n r m e) : cmpR s (subR s a a) 0 = 0 := by
 obtain ⟨m0, e0, h0⟩ := num_zero s
 have ht := told s a h.bound
 have hk : (partsR s a).kind ≠ 3 := by
  have hrd := h.read
  generalize partsR s a = p at *
  cases ht with
  | zero n h hr => simp
  | fin n m' e' r h0 h1 h hm hm2 he he2 hbn hr => simp
  | inf n h hr => rw [hr] at hrd; cases hrd
  | nan n r t u h0 h1 h hr => rw [hr] at hrd; cases hrd
 rcases told_size ht with k | ⟨t, h1, h2, h3, h4⟩
 ·exact absurd k hk
 ·unfold subR
  rw [if_neg hk]
  unfold negR
  rw [h4 _]
  have hw := h2.symm.trans h.word
  have b1 := Fl.word_parts (fm s) (partsR s a).neg t (by rw [fm_sign]; exact Nat.lt_of_le_of_lt h1 (inf_lt s))
  have b2 := Fl.word_parts (fm s) n r (by rw [fm_sign]; exact Nat.lt_trans h.lt (inf_lt s))
  rw [hw] at b1
  have hn : (partsR s a).neg = n := b1.1.symm.trans b2.1
  have htr : t = r := b1.2.symm.trans b2.2
  have hk2 : ((partsR s a).kind != 3) = true := by simpa using hk
  rw [hn, htr, hk2, Bool.and_true]
  obtain ⟨m', e', hneg⟩ := num_word s (!n) h.lt
  have hT := add_T h hneg
  have hz : sv s n r + sv s (!n) r = 0 := by unfold sv; rw [sg_val, sg_val]; cases n <;> simp <;> omega
  rw [hz] at hT
  have h0T := num_T h0
  rw [sv_zero] at h0T
  exact cmp_same hT h0T
end Go.Proofs.YtmoimcblmmcffaaGreat.NC

namespace Go.Proofs.YtmoimcblmmcffaaGreat.NC
open Go.RowKit Go.Proofs.YtmoimcblmmcffaaGreat.B Go.Proofs.YtmoimcblmmcffaaGreat.N
set_option linter.unusedSimpArgs false
set_option linter.unusedVariables false
def Zr (s : Bool) (z : Nat) : Prop := ∃ n, z = (fm s).word n 0
def Eqv (s : Bool) (a b : Nat) : Prop := a = b ∨ (Zr s a ∧ Zr s b)
theorem Eqv.refl (s : Bool) (a : Nat) : Eqv s a a := .inl rfl
theorem Eqv.symm {s : Bool} {a b : Nat} (h : Eqv s a b) : Eqv s b a := h.elim (fun e => .inl e.symm) (fun e => .inr ⟨e.2, e.1⟩)
theorem Eqv.trans {s : Bool} {a b c : Nat} (h : Eqv s a b) (k : Eqv s b c) : Eqv s a c := by
 rcases h with rfl | ⟨h1, h2⟩
 ·exact k
 ·rcases k with rfl | ⟨k1, k2⟩
  ·exact .inr ⟨h1, h2⟩
  ·exact .inr ⟨h1, k2⟩
theorem cmp_zeros {s : Bool} {a b : Nat} (ha : Zr s a) (hb : Zr s b) : cmpR s a b = 0 := by
 obtain ⟨n, rfl⟩ := ha
 obtain ⟨m, rfl⟩ := hb
 rw [cmp_word (Nat.zero_le _) (Nat.zero_le _)]
 cases n <;> cases m <;> rfl
theorem Eqv.equal {s : Bool} {a b : Nat} (h : Eqv s a b) : a = b ∨ cmpR s a b = 0 := h.elim .inl (fun e => .inr (cmp_zeros e.1 e.2))
theorem zr_num {s : Bool} {z : Nat} (h : Zr s z) : ∃ n m e, Num s z n 0 m e := by
 obtain ⟨n, rfl⟩ := h
 obtain ⟨m, e, h⟩ := num_word s n (r := 0) (by have := inf_ge s; have := Fl.binade_pos (fm s); omega)
 exact ⟨n, m, e, h⟩
theorem zr_lt {s : Bool} {z : Nat} (h : Zr s z) : z < 2 * signN s := by obtain ⟨n, m, e, k⟩ := zr_num h; exact k.bound
theorem zr_zero (s : Bool) : Zr s 0 := ⟨false, by cases s <;> rfl⟩
theorem zr_kind {s : Bool} {z : Nat} (h : Zr s z) : (partsR s z).kind = 0 := by obtain ⟨n, m, e, k⟩ := zr_num h; exact kind_zero k rfl
theorem T_zero {s : Bool} {y : Nat} {p : Int} (h : IsT s y 0 p) : Zr s y := by
 obtain ⟨n, h1, _, _⟩ := h
 exact ⟨n, h1⟩
theorem T_eqv {s : Bool} {y z : Nat} {T p : Int} (hy : IsT s y T p) (hz : IsT s z T p) : Eqv s y z := by
 by_cases h : T = 0
 ·subst h; exact .inr ⟨T_zero hy, T_zero hz⟩
 ·exact .inl (T_uniq hy hz h)
theorem parts_word (s n : Bool) {r : Nat} (h : r < signN s) : partsR s ((fm s).word n r) = partsOf s (r / lowN s % fieldN s) (r % lowN s) n := by
 rw [fm_word]
 unfold partsR sgnN
 have e : signN s = lowN s * fieldN s := (low_field s).symm
 cases s
 ·have h' : r < 9223372036854775808 := h
  cases n
  ·simp only [Bool.false_eq_true, if_false, Nat.zero_add]
   congr 1
   simp only [lowN, fieldN]
   exact decide_eq_false (by omega)
  ·simp only [if_true, signN, lowN, fieldN]
   rw [show (9223372036854775808 + r) / 4503599627370496 % 2048 = r / 4503599627370496 % 2048 from by omega, show (9223372036854775808 + r) % 4503599627370496 = r % 4503599627370496 from by omega]
   congr 1
   exact decide_eq_true (by omega)
 ·have h' : r < 2147483648 := h
  cases n
  ·simp only [Bool.false_eq_true, if_false, Nat.zero_add]
   congr 1
   simp only [lowN, fieldN]
   exact decide_eq_false (by omega)
  ·simp only [if_true, signN, lowN, fieldN]
   rw [show (2147483648 + r) / 8388608 % 256 = r / 8388608 % 256 from by omega, show (2147483648 + r) % 8388608 = r % 8388608 from by omega]
   congr 1
   exact decide_eq_true (by omega)
theorem word_cases {s : Bool} {a : Nat} (ha : a < 2 * signN s) : (partsR s a = ⟨3, false, 0, 0⟩) ∨ (partsR s a).kind ≠ 3 ∧ ∃ n r, r ≤ (fm s).infRung ∧ a = (fm s).word n r ∧ (partsR s a).neg = n ∧ (∀ m, bitsR s { partsR s a with neg := m } = (fm s).word m r) ∧ (∀ m, partsR s ((fm s).word m r) = { partsR s a with neg := m }) := by
 have ht := told s a ha
 by_cases hk : (partsR s a).kind = 3
 ·exact .inl (told_nan ht hk).1
 ·refine .inr ⟨hk, ?_⟩
  rcases told_size ht with h | ⟨r, h1, h2, h3, h4⟩
  ·exact absurd h hk
  ·have hr := Nat.lt_of_le_of_lt h1 (inf_lt s)
   refine ⟨_, r, h1, h2, rfl, h4, fun m => ?_⟩
   have h5 := parts_word s (partsR s a).neg hr
   rw [← h2] at h5
   rw [parts_word s m hr, h5]
   unfold partsOf
   rw [h5] at hk
   unfold partsOf at hk
   by_cases c1 : r / lowN s % fieldN s + 1 = fieldN s
   ·rw [if_pos c1] at hk
    rw [if_pos c1, if_pos c1]
    by_cases c2 : r % lowN s = 0
    ·rw [if_pos c2, if_pos c2]
    ·rw [if_neg c2] at hk; exact absurd rfl hk
   ·rw [if_neg c1, if_neg c1]
    by_cases c2 : r / lowN s % fieldN s = 0
    ·rw [if_pos c2, if_pos c2]
     by_cases c3 : r % lowN s = 0
     ·rw [if_pos c3, if_pos c3]
     ·rw [if_neg c3, if_neg c3]
    ·rw [if_neg c2, if_neg c2]
theorem parts_nan (s : Bool) : partsR s (nanN s) = ⟨3, false, 0, 0⟩ := by cases s <;> rfl
theorem neg_nan {s : Bool} {a : Nat} (h : partsR s a = ⟨3, false, 0, 0⟩) : negR s a = nanN s := by
 unfold negR; rw [h]; exact bits_nan s _
theorem neg_word {s n : Bool} {r : Nat} (h : r ≤ (fm s).infRung) : negR s ((fm s).word n r) = (fm s).word (!n) r := by
 have hr := Nat.lt_of_le_of_lt h (inf_lt s)
 have hl := word_lt s n hr
 rcases word_cases hl with hk | ⟨hk, m, t, h1, h2, h3, h4, h5⟩
 ·exfalso
  have ht := told s _ hl
  obtain ⟨m, t, h0, h1, h2⟩ := (told_nan ht (by rw [hk])).2
  have a1 := (Fl.word_parts (fm s) n r (by rw [fm_sign]; exact hr)).2
  have a2 := (Fl.word_parts (fm s) m t (by rw [fm_sign]; exact h1)).2
  rw [h2] at a1
  omega
 ·have a1 := Fl.word_parts (fm s) n r (by rw [fm_sign]; exact hr)
  have a2 := Fl.word_parts (fm s) m t (by rw [fm_sign]; exact Nat.lt_of_le_of_lt h1 (inf_lt s))
  rw [← h2] at a2
  have e1 : n = m := a1.1.symm.trans a2.1
  have e2 : r = t := a1.2.symm.trans a2.2
  unfold negR
  rw [h4, h3, e1, e2]
  have hk2 : ((partsR s ((fm s).word n r)).kind != 3) = true := by simpa using hk
  rw [e1, e2] at hk2
  rw [hk2, Bool.and_true]
theorem neg_zr {s : Bool} {z : Nat} (h : Zr s z) : Zr s (negR s z) := by
 obtain ⟨n, rfl⟩ := h
 exact ⟨!n, neg_word (Nat.zero_le _)⟩
theorem Eqv.neg {s : Bool} {a b : Nat} (h : Eqv s a b) : Eqv s (negR s a) (negR s b) := h.elim (fun e => .inl (by rw [e])) (fun e => .inr ⟨neg_zr e.1, neg_zr e.2⟩)
theorem IsT.neg {s : Bool} {y : Nat} {T p : Int} (h : IsT s y T p) : IsT s (negR s y) (-T) p := by
 obtain ⟨n, rfl, h2, h3⟩ := h
 refine ⟨!n, ?_, fun k => ?_, fun k => ?_⟩
 ·rw [neg_word (Fl.rung_le _ _ _), Int.natAbs_neg]
 ·rw [h3 (by omega)]; rfl
 ·rw [h2 (by omega)]; rfl
theorem negR_lt {s : Bool} (b : Nat) : negR s b < 2 * signN s := by have := neg_lt s b; rw [top_sgn] at this; exact Int.ofNat_lt.1 this
theorem three {s : Bool} {a : Nat} (ha : a < 2 * signN s) : partsR s a = ⟨3, false, 0, 0⟩ ∨ (∃ n, a = (fm s).word n (fm s).infRung ∧ partsR s a = ⟨2, n, 0, 0⟩) ∨ ∃ n r m e, Num s a n r m e := by
 by_cases hn : isNumR s a = true
 ·exact .inr (.inr (num_of ha hn))
 ·have ht := told s a ha
  unfold isNumR at hn
  generalize partsR s a = p at *
  cases ht with
  | zero n h hr => simp at hn
  | fin n m e r h0 h1 h hm hm2 he he2 hb hr => simp at hn
  | inf n h hr => exact .inr (.inl ⟨n, h, rfl⟩)
  | nan n r t u h0 h1 h hr => exact .inl rfl
theorem num_kind {s : Bool} {a : Nat} {n : Bool} {r m : Nat} {e : Int} (h : Num s a n r m e) : (partsR s a).kind = 0 ∨ (partsR s a).kind = 1 := by
 have ht := told s a h.bound
 have hrd := h.read
 generalize partsR s a = p at *
 cases ht with
 | zero n h hr => exact .inl rfl
 | fin n m' e' r h0 h1 h hm hm2 he he2 hbn hr => exact .inr rfl
 | inf n h hr => rw [hr] at hrd; cases hrd
 | nan n r t u h0 h1 h hr => rw [hr] at hrd; cases hrd
theorem add_nan1 {s : Bool} {a b : Nat} (h : partsR s a = ⟨3, false, 0, 0⟩) : addR s a b = nanN s := by unfold addR addP; rw [h]; simp
theorem add_nan2 {s : Bool} {a b : Nat} (h : partsR s b = ⟨3, false, 0, 0⟩) : addR s a b = nanN s := by unfold addR addP; rw [h]; simp
theorem mul_nan2 {s : Bool} {a b : Nat} (h : partsR s b = ⟨3, false, 0, 0⟩) : mulR s a b = nanN s := by unfold mulR mulP; rw [h]; simp
theorem addR_comm {s : Bool} {a b : Nat} (ha : a < 2 * signN s) (hb : b < 2 * signN s) : addR s a b = addR s b a := by
 rcases three ha with h | ⟨n, h, hp⟩ | ⟨n, q, m, e, h⟩
 ·rw [add_nan1 h, add_nan2 h]
 ·rcases three hb with k | ⟨n', k, kp⟩ | ⟨n', q', m', e', k⟩
  ·rw [add_nan1 k, add_nan2 k]
  ·unfold addR addP; rw [hp, kp]
   cases n <;> cases n' <;> simp
  ·have kk := num_kind k
   unfold addR addP; rw [hp]
   rcases kk with kk | kk <;> simp [kk]
 ·rcases three hb with k | ⟨n', k, kp⟩ | ⟨n', q', m', e', k⟩
  ·rw [add_nan1 k, add_nan2 k]
  ·have kk := num_kind h
   unfold addR addP; rw [kp]
   rcases kk with kk | kk <;> simp [kk]
  ·exact add_comm h k
theorem mulR_comm {s : Bool} {a b : Nat} (ha : a < 2 * signN s) (hb : b < 2 * signN s) : mulR s a b = mulR s b a := by
 unfold mulR mulP
 generalize partsR s a = p
 generalize partsR s b = q
 have e1 : (p.neg != q.neg) = (q.neg != p.neg) := by cases p.neg <;> cases q.neg <;> rfl
 rw [e1, Nat.mul_comm p.sig, Int.add_comm p.exp]
 by_cases h : p.kind = 3 ∨ q.kind = 3 ∨ (p.kind = 2 ∧ q.kind = 0) ∨ (p.kind = 0 ∧ q.kind = 2)
 ·rw [if_pos h, if_pos (show q.kind = 3 ∨ p.kind = 3 ∨ (q.kind = 2 ∧ p.kind = 0) ∨ (q.kind = 0 ∧ p.kind = 2) by omega)]
 ·rw [if_neg h, if_neg (show ¬ (q.kind = 3 ∨ p.kind = 3 ∨ (q.kind = 2 ∧ p.kind = 0) ∨ (q.kind = 0 ∧ p.kind = 2)) by omega)]
  by_cases h2 : p.kind = 2 ∨ q.kind = 2
  ·rw [if_pos h2, if_pos (show q.kind = 2 ∨ p.kind = 2 by omega)]
  ·rw [if_neg h2, if_neg (show ¬ (q.kind = 2 ∨ p.kind = 2) by omega)]
theorem neg_inf (s n : Bool) : negR s ((fm s).word n (fm s).infRung) = (fm s).word (!n) (fm s).infRung := neg_word (Nat.le_refl _)
theorem parts_inf (s n : Bool) : partsR s ((fm s).word n (fm s).infRung) = ⟨2, n, 0, 0⟩ := by cases s <;> cases n <;> rfl
theorem add_infs {s n : Bool} {b : Nat} (hb : b < 2 * signN s) (h : (partsR s b).kind ≠ 3) (h2 : (partsR s b).kind = 2 → (partsR s b).neg = n) : addR s ((fm s).word n (fm s).infRung) b = (fm s).word n (fm s).infRung := by
 unfold addR addP
 rw [parts_inf]
 simp only [Int.reduceEq, false_or, if_true]
 rw [if_neg h, if_neg (fun k => k.2 (h2 k.1).symm), bits_inf]
theorem mul_neg {s : Bool} {a b : Nat} (hb : b < 2 * signN s) : mulR s a (negR s b) = negR s (mulR s a b) := by
 rcases word_cases hb with h | ⟨h, n, r, h1, h2, h3, h4, h5⟩
 ·rw [mul_nan2 h, neg_nan h, mul_nan2 (parts_nan s), neg_nan (parts_nan s)]
 ·have hp : partsR s (negR s b) = { partsR s b with neg := !n } := by rw [h2, neg_word h1, h5, ← h2]
  unfold mulR mulP
  rw [hp, h3]
  simp only
  generalize partsR s a = p
  generalize partsR s b = q at *
  have e1 : (p.neg != !n) = !(p.neg != n) := by cases p.neg <;> cases n <;> rfl
  rw [e1]
  by_cases c1 : p.kind = 3 ∨ q.kind = 3 ∨ (p.kind = 2 ∧ q.kind = 0) ∨ (p.kind = 0 ∧ q.kind = 2)
  ·rw [if_pos c1, if_pos c1, neg_nan (parts_nan s)]
  ·rw [if_neg c1, if_neg c1]
   by_cases c2 : p.kind = 2 ∨ q.kind = 2
   ·rw [if_pos c2, if_pos c2, bits_inf, bits_inf, neg_inf]
   ·rw [if_neg c2, if_neg c2, round_exact, round_exact, neg_word (Fl.rung_le _ _ _)]
theorem sub_add {s : Bool} (a b : Nat) (hb : b < 2 * signN s) : subR s a b = addR s a (negR s b) := by
 unfold subR
 by_cases h : (partsR s b).kind = 3
 ·rw [if_pos h]
  have hp := (told_nan (told s b hb) h).1
  rw [neg_nan hp, add_nan2 (parts_nan s)]
 ·rw [if_neg h]
theorem add_zero {s : Bool} {v z : Nat} (hv : v < 2 * signN s) (hz : Zr s z) (h : (partsR s v).kind ≠ 3) : Eqv s (addR s v z) v := by
 obtain ⟨n0, m0, e0, k0⟩ := zr_num hz
 rcases three hv with k | ⟨n, k, kp⟩ | ⟨n, q, m, e, k⟩
 ·rw [k] at h; exact absurd rfl h
 ·have := num_kind k0
  rw [k, add_infs k0.bound (by omega) (fun x => by omega)]; exact .refl _ _
 ·have hT := add_T k k0
  rw [sv_zero, Int.add_zero] at hT
  exact T_eqv hT (num_T k)
theorem Eqv.add {s : Bool} {u u' v v' : Nat} (hu : u < 2 * signN s) (hu' : u' < 2 * signN s) (hv : v < 2 * signN s) (hv' : v' < 2 * signN s) (h : Eqv s u u') (k : Eqv s v v') : Eqv s (addR s u v) (addR s u' v') := by
 have key : ∀ {u u' v v' : Nat}, u < 2 * signN s → u' < 2 * signN s → v < 2 * signN s → v' < 2 * signN s → Zr s u → Zr s u' → Eqv s v v' → Eqv s (addR s u v) (addR s u' v') := by
  intro u u' v v' hu hu' hv hv' h h' k
  by_cases c : (partsR s v).kind = 3
  ·have c' : partsR s v = ⟨3, false, 0, 0⟩ := (told_nan (told s v hv) c).1
   have e : v = v' := k.elim id (fun x => by have := zr_kind x.1; omega)
   subst e
   rw [add_nan2 c', add_nan2 c']; exact .refl _ _
  ·have c2 : (partsR s v').kind ≠ 3 := by
    rcases k with rfl | ⟨k1, k2⟩
    ·exact c
    ·have := zr_kind k2; omega
   have e1 := add_zero hv h c
   have e2 := add_zero hv' h' c2
   rw [addR_comm hu hv, addR_comm hu' hv']
   exact e1.trans (k.trans e2.symm)
 rcases h with rfl | ⟨h1, h2⟩
 ·rcases k with rfl | ⟨k1, k2⟩
  ·exact .refl _ _
  ·rw [addR_comm hu hv, addR_comm hu hv']
   exact key hv hv' hu hu k1 k2 (.refl _ _)
 ·exact key hu hu' hv hv' h1 h2 k
theorem mul_zr {s : Bool} {z a : Nat} {n : Bool} {r m : Nat} {e : Int} (hz : Zr s z) (h : Num s a n r m e) : Zr s (mulR s z a) := by
 obtain ⟨n0, m0, e0, k0⟩ := zr_num hz
 have hT := mul_T k0 h
 rw [sv_zero, Int.zero_mul] at hT
 exact T_zero hT
theorem Eqv.mul1 {s : Bool} {x x' y : Nat} {n : Bool} {r m : Nat} {e : Int} (h : Eqv s x x') (hy : Num s y n r m e) : Eqv s (mulR s x y) (mulR s x' y) := by
 rcases h with rfl | ⟨h1, h2⟩
 ·exact .refl _ _
 ·exact .inr ⟨mul_zr h1 hy, mul_zr h2 hy⟩
theorem Eqv.num {s : Bool} {x x' : Nat} {n : Bool} {r m : Nat} {e : Int} (h : Eqv s x x') (hx : Num s x n r m e) : ∃ n' r' m' e', Num s x' n' r' m' e' := by
 rcases h with rfl | ⟨h1, h2⟩
 ·exact ⟨_, _, _, _, hx⟩
 ·obtain ⟨n, m, e, k⟩ := zr_num h2; exact ⟨_, _, _, _, k⟩
theorem Eqv.mul {s : Bool} {x x' y y' : Nat} {n : Bool} {r m : Nat} {e : Int} {n2 : Bool} {r2 m2 : Nat} {e2 : Int} (h : Eqv s x x') (k : Eqv s y y') (hx : Num s x n r m e) (hy : Num s y n2 r2 m2 e2) : Eqv s (mulR s x y) (mulR s x' y') := by
 obtain ⟨n3, r3, m3, e3, hx'⟩ := h.num hx
 obtain ⟨n4, r4, m4, e4, hy'⟩ := k.num hy
 refine (h.mul1 hy).trans ?_
 rw [mulR_comm hx'.bound hy.bound, mulR_comm hx'.bound hy'.bound]
 exact k.mul1 hx'
theorem mul_one {s : Bool} {a : Nat} {n : Bool} {r m : Nat} {e : Int} (h : Num s a n r m e) : Eqv s (mulR s (fromR s 1) a) a := by
 rw [mulR_comm (fromR_lt s 1) h.bound]
 obtain ⟨m0, e0, h0⟩ := num_one s
 have hT := mul_T h h0
 have h1 : sv s false (fromR s 1) = 2 ^ (-leastN s).toNat := by
  unfold sv; rw [sg_val, (one_word s).2.1]; simp
 rw [h1] at hT
 have hT2 := shift_T hT
 have hle : leastN s ≤ 0 := by cases s <;> decide
 rw [show leastN s + leastN s + ((-leastN s).toNat : Int) = leastN s from by omega] at hT2
 exact T_eqv hT2 (num_T h)
end Go.Proofs.YtmoimcblmmcffaaGreat.NC

namespace Go.Proofs.YtmoimcblmmcffaaGreat.B
open Go.RowKit NC N PPC PRA Go.Proofs.YtmoimcblmmcffaaGreatW.PrintWords
set_option linter.unusedSimpArgs false
set_option linter.unusedVariables false
theorem okW_nat {s : Bool} {x : Nat} (hx : x < 2 * signN s) : okW (tv s) (x : Int) = true := by
 have h1 := (rg_nat hx)
 unfold okW
 rw [tv_eq, decide_eq_true h1.1, decide_eq_true h1.2]; cases s <;> rfl
theorem kind_word {s n : Bool} {r : Nat} (h : r ≤ (fm s).infRung) : (partsR s ((fm s).word n r)).kind ≠ 3 ∧ (partsR s ((fm s).word n r)).neg = n := by
 have hr := Nat.lt_of_le_of_lt h (inf_lt s)
 rcases word_cases (word_lt s n hr) with k | ⟨k, m, t, k1, k2, k3, k4, k5⟩
 ·exfalso
  obtain ⟨m, t, h0, h1, h2⟩ := (told_nan (told s _ (word_lt s n hr)) (by rw [k])).2
  have a1 := (Fl.word_parts (fm s) n r (by rw [fm_sign]; exact hr)).2
  have a2 := (Fl.word_parts (fm s) m t (by rw [fm_sign]; exact h1)).2
  rw [h2] at a1
  omega
 ·have a1 := (Fl.word_parts (fm s) n r (by rw [fm_sign]; exact hr)).1
  have a2 := (Fl.word_parts (fm s) m t (by rw [fm_sign]; exact Nat.lt_of_le_of_lt k1 (inf_lt s))).1
  rw [k2] at a1
  exact ⟨k, k3.trans (a2.symm.trans a1)⟩
end Go.Proofs.YtmoimcblmmcffaaGreat.B

namespace Go.Proofs.YtmoimcblmmcffaaGreat.B
open Go.RowKit NC N PPC PRA Go.Proofs.YtmoimcblmmcffaaGreatW.PrintWords
set_option linter.unusedSimpArgs false
set_option linter.unusedVariables false
def nearP (s : Bool) (p q : Nat × Nat) : Prop := Eqv s p.1 q.1 ∧ Eqv s p.2 q.2
theorem powC_skip {s : Bool} {size : Nat} {x : Nat × Nat} {j : Nat} (h : size < 2 ^ j) : ∀ (d : Nat) (o : Nat × Nat), powC s size x (d + j) o = powC s size x j o
 | 0, o => by rw [Nat.zero_add]
 | d + 1, o => by
  have hlt : size < 2 ^ (d + j) := Nat.lt_of_lt_of_le h (Nat.pow_le_pow_right (by decide) (by omega))
  rw [show d + 1 + j = (d + j) + 1 from by omega]
  show powC s size x (d + j) (if size / 2 ^ (d + j) = 0 then o else _) = _
  rw [if_pos (Nat.div_eq_of_lt hlt)]
  exact powC_skip h d o
theorem one_one (s : Bool) : timesP s (fromR s 1, 0) (fromR s 1, 0) = (fromR s 1, 0) := by
 cases s <;> decide +kernel
theorem pow_zero (s : Bool) (x : Nat × Nat) : powC s 0 x 32 (fromR s 1, 0) = (fromR s 1, 0) := powC_skip (j := 0) (by decide) 32 _
theorem powC_succ (s : Bool) (size : Nat) (x : Nat × Nat) (i : Nat) (o : Nat × Nat) : powC s size x (i + 1) o = powC s size x i (if size / 2 ^ i = 0 then o else if size / 2 ^ i % 2 = 1 then timesP s (timesP s o o) x else timesP s o o) := rfl
theorem powC_nil (s : Bool) (size : Nat) (x : Nat × Nat) (o : Nat × Nat) : powC s size x 0 o = o := rfl
theorem pow_one (s : Bool) (x : Nat × Nat) : powC s 1 x 32 (fromR s 1, 0) = timesP s (fromR s 1, 0) x := by
 refine (powC_skip (s := s) (size := 1) (x := x) (j := 1) (by decide) 31 (fromR s 1, 0)).trans ?_
 rw [powC_succ s 1 x 0, powC_nil, if_neg (by decide), if_pos (by decide), one_one]
theorem pow_two (s : Bool) (x : Nat × Nat) : powC s 2 x 32 (fromR s 1, 0) = timesP s (timesP s (fromR s 1, 0) x) (timesP s (fromR s 1, 0) x) := by
 refine (powC_skip (s := s) (size := 2) (x := x) (j := 2) (by decide) 30 (fromR s 1, 0)).trans ?_
 rw [powC_succ s 2 x 1, if_neg (by decide), if_pos (by decide), powC_succ s 2 x 0, powC_nil, if_neg (by decide), if_neg (by decide), one_one]
section
variable {s : Bool} {a b u : Nat} {na nb nu : Bool} {qa qb qu ma mb mu : Nat} {ea eb eu : Int} (ha : Num s a na qa ma ea) (hb : Num s b nb qb mb eb) (hu : Num s u nu qu mu eu)
include ha hb
theorem one_near : nearP s (timesP s (fromR s 1, 0) (a, b)) (a, b) := by
 have key : ∀ {a b : Nat} {na nb : Bool} {qa qb ma mb : Nat} {ea eb : Int}, Num s a na qa ma ea → Num s b nb qb mb eb → Eqv s (addR s (mulR s (fromR s 1) a) (mulR s 0 b)) a ∧ Eqv s (addR s (mulR s (fromR s 1) a) (negR s (mulR s 0 b))) a := fun {a b} _ _ _ _ _ _ _ _ ha hb => by
  have h1 := mul_one ha
  have hl := mulR_lt (fromR_lt s 1) ha.bound
  have hz := mul_zr (zr_zero s) hb
  have hk : (partsR s a).kind ≠ 3 := by have := num_kind ha; omega
  exact ⟨(Eqv.add hl ha.bound (zr_lt hz) (zr_lt hz) h1 (.refl _ _)).trans (add_zero ha.bound hz hk), (Eqv.add hl ha.bound (zr_lt (neg_zr hz)) (zr_lt (neg_zr hz)) h1 (.refl _ _)).trans (add_zero ha.bound (neg_zr hz) hk)⟩
 unfold timesP nearP
 have hz : mulR s 0 b < 2 * signN s := zr_lt (mul_zr (zr_zero s) hb)
 rw [sub_add _ _ hz]
 exact ⟨(key ha hb).2, (key hb ha).1⟩
theorem times_near {p : Nat × Nat} (hp : nearP s p (a, b)) : nearP s (timesP s p p) (timesP s (a, b) (a, b)) := by
 obtain ⟨n1, q1, m1, e1, k1⟩ := hp.1.symm.num ha
 obtain ⟨n2, q2, m2, e2, k2⟩ := hp.2.symm.num hb
 have l1 := k1.bound
 have l2 := k2.bound
 have g1 := ha.bound
 have g2 := hb.bound
 unfold timesP nearP
 rw [sub_add _ _ (mulR_lt l2 l2), sub_add _ _ (mulR_lt g2 g2)]
 exact ⟨Eqv.add (mulR_lt l1 l1) (mulR_lt g1 g1) (negR_lt _) (negR_lt _) (Eqv.mul hp.1 hp.1 k1 k1) (Eqv.mul hp.2 hp.2 k2 k2).neg, Eqv.add (mulR_lt l1 l2) (mulR_lt g1 g2) (mulR_lt l2 l1) (mulR_lt g2 g1) (Eqv.mul hp.1 hp.2 k1 k2) (Eqv.mul hp.2 hp.1 k2 k1)⟩
omit hb
include hu
theorem real_mul : Eqv s (subR s (mulR s a u) (mulR s 0 0)) (mulR s a u) ∧ (partsR s (addR s (mulR s a 0) (mulR s 0 u))).kind = 0 := by
 obtain ⟨n0, m0, e0, k0⟩ := zr_num (zr_zero s)
 have z1 := mul_zr (zr_zero s) k0
 have hk : (partsR s (mulR s a u)).kind ≠ 3 := by
  rw [mul_val ha hu, Fl.nearest_rung]
  exact (kind_word (Fl.rung_le _ _ _)).1
 constructor
 ·rw [sub_add _ _ (zr_lt z1)]
  exact add_zero (mulR_lt ha.bound hu.bound) (neg_zr z1) hk
 ·have z2 := mul_zr (zr_zero s) ha
  rw [mulR_comm (zr_lt (zr_zero s)) ha.bound] at z2
  have z3 := mul_zr (zr_zero s) hu
  obtain ⟨n2, m2, e2, k2⟩ := zr_num z2
  obtain ⟨n3, m3, e3, k3⟩ := zr_num z3
  have hT := add_T k2 k3
  rw [sv_zero, sv_zero, Int.add_zero] at hT
  exact zr_kind (T_zero hT)
end
theorem real_zero (s : Bool) : (partsR s (addR s 0 0)).kind = 0 ∧ (partsR s (subR s 0 0)).kind = 0 := by
 cases s <;> exact ⟨by decide +kernel, by decide +kernel⟩
def plusP (s : Bool) (p q : Nat × Nat) : Nat × Nat := (addR s p.1 q.1, addR s p.2 q.2)
end Go.Proofs.YtmoimcblmmcffaaGreat.B

namespace Go.Proofs.YtmoimcblmmcffaaGreat.B
open Go.RowKit NC N PPC PRA Go.Proofs.YtmoimcblmmcffaaGreatW.PrintWords
set_option linter.unusedSimpArgs false
set_option linter.unusedVariables false
theorem valueErr_f {t a b : Int} (S : ByteArray) (ha : U64 a) (hb : U64 b) : r10_ValueErr.f t a b S = some (openErrV t a b S) := by
 unfold r10_ValueErr.f r10_TypeErr.f openErrV ctypeErrV cpart bitsErrV
 by_cases h3 : t = 3
 ·subst h3
  simp only [if_true, Option.bind_some]
  by_cases hs : S.toList = []
  ·rw [if_pos hs, if_pos hs]
   by_cases h1 : a ≥ 4294967296
   ·rw [if_pos h1, if_neg]
    simp; omega
   ·rw [if_neg h1]
    by_cases h2 : b ≥ 4294967296
    ·rw [if_pos h2, if_neg]
     simp; omega
    ·rw [if_neg h2, if_pos]
     simp; omega
  ·rw [if_neg hs, if_neg hs]
 ·by_cases h4 : t = 4
  ·subst h4
   by_cases hs : S.toList = []
   ·simp [hs]
   ·simp [hs]
  ·rw [if_neg h3, if_neg h4]
   simp [h3, h4]
def twoV (t a b : Int) (S : ByteArray) (t' a' b' : Int) (S' : ByteArray) : Int :=
 if openErrV t a b S = 0 then (if openErrV t' a' b' S' = 0 then (if t = t' then 0 else 27) else openErrV t' a' b' S') else openErrV t a b S
theorem twoErr_f {t a b t' a' b' : Int} (S S' : ByteArray) (ha : U64 a) (hb : U64 b) (ha' : U64 a') (hb' : U64 b') : r10_TwoErr.f t a b S t' a' b' S' = some (twoV t a b S t' a' b' S') := by
 unfold r10_TwoErr.f twoV
 rw [valueErr_f S ha hb, valueErr_f S' ha' hb', Option.bind_some, Option.bind_some]
 by_cases h : openErrV t a b S = 0
 ·rw [if_pos h, if_pos h]
  by_cases h2 : openErrV t' a' b' S' = 0
  ·rw [if_pos h2, if_pos h2]
   by_cases h3 : t = t'
   ·rw [if_pos h3, if_pos h3]
   ·rw [if_neg h3, if_neg h3]
  ·rw [if_neg h2, if_neg h2]
 ·rw [if_neg h, if_neg h]
theorem open_ok {t a b : Int} {S : ByteArray} (ha : U64 a) (hb : U64 b) (h : openErrV t a b S = 0) : ∃ s x y, t = ct s ∧ a = ((x : Nat) : Int) ∧ b = ((y : Nat) : Int) ∧ x < 2 * signN s ∧ y < 2 * signN s := by
 obtain ⟨x, rfl⟩ := Int.eq_ofNat_of_zero_le ha.1
 obtain ⟨y, rfl⟩ := Int.eq_ofNat_of_zero_le hb.1
 unfold openErrV ctypeErrV cpart at h
 by_cases h3 : t = 3
 ·subst h3
  simp only [if_true] at h
  by_cases hs : S.toList = []
  ·rw [if_pos hs] at h
   by_cases hb : bitsErrV 1 [(x : Int), (y : Int)] = 0
   ·refine ⟨true, x, y, rfl, rfl, rfl, ?_, ?_⟩
    all_goals
     unfold bitsErrV at hb
     simp at hb
     show _ < 4294967296
     omega
   ·rw [if_neg hb] at h; cases h
  ·rw [if_neg hs] at h; cases h
 ·by_cases h4 : t = 4
  ·subst h4
   refine ⟨false, x, y, rfl, rfl, rfl, ?_, ?_⟩
   ·have := ha.2; show _ < 18446744073709551616; omega
   ·have := hb.2; show _ < 18446744073709551616; omega
  ·rw [if_neg h3, if_neg h4, if_neg (by decide)] at h; exact absurd h (by decide)
end Go.Proofs.YtmoimcblmmcffaaGreat.B

namespace Go.Proofs.YtmoimcblmmcffaaGreat.B
open Go.RowKit NC N PPC PRA Go.Proofs.YtmoimcblmmcffaaGreatW.PrintWords
set_option linter.unusedSimpArgs false
set_option linter.unusedVariables false
theorem open_ct {s : Bool} {x y : Nat} {S : ByteArray} (hS : S.toList = []) (hx : x < 2 * signN s) (hy : y < 2 * signN s) : openErrV (ct s) (x : Int) (y : Int) S = 0 := by
 unfold openErrV
 have hc : ctypeErrV (ct s) = 0 := by cases s <;> rfl
 rw [hc, if_pos rfl, if_pos hS, cpart_ct]
 have hb : bitsErrV (tv s) [(x : Int), (y : Int)] = 0 := by
  unfold bitsErrV
  rw [if_neg]
  cases s
  ·simp [tv]
  ·have h1 : x < 4294967296 := hx
   have h2 : y < 4294967296 := hy
   simp [tv]; omega
 rw [hb]; rfl
theorem open_text {s : Bool} {x y : Int} {S : ByteArray} (h : openErrV (ct s) x y S = 0) : S.toList = [] := by
 unfold openErrV at h
 have hc : ctypeErrV (ct s) = 0 := by cases s <;> rfl
 rw [hc, if_pos rfl] at h
 by_cases hs : S.toList = []
 ·exact hs
 ·rw [if_neg hs] at h; exact absurd h (by decide)
theorem nb_text : NB.toList = [] := by simp [ByteArray.toList, ByteArray.toList.loop, ByteArray.size]
theorem two_ok {t a b t' a' b' : Int} {S S' : ByteArray} (ha : U64 a) (hb : U64 b) (ha' : U64 a') (hb' : U64 b') (hv : twoV t a b S t' a' b' S' = 0) :
  ∃ s x1 x2 y1 y2, t = ct s ∧ t' = ct s ∧ a = ((x1 : Nat) : Int) ∧ b = ((x2 : Nat) : Int) ∧ a' = ((y1 : Nat) : Int) ∧ b' = ((y2 : Nat) : Int) ∧ x1 < 2 * signN s ∧ x2 < 2 * signN s ∧ y1 < 2 * signN s ∧ y2 < 2 * signN s ∧ S.toList = [] ∧ S'.toList = [] := by
 have hv2 := hv
 unfold twoV at hv2
 have e1 : openErrV t a b S = 0 := by
  by_cases h : openErrV t a b S = 0
  ·exact h
  ·rw [if_neg h] at hv2; exact absurd hv2 h
 rw [if_pos e1] at hv2
 have e2 : openErrV t' a' b' S' = 0 := by
  by_cases h : openErrV t' a' b' S' = 0
  ·exact h
  ·rw [if_neg h] at hv2; exact absurd hv2 h
 rw [if_pos e2] at hv2
 obtain rfl : t = t' := by
  by_cases h : t = t'
  ·exact h
  ·rw [if_neg h] at hv2; exact absurd hv2 (by decide)
 obtain ⟨s, x1, x2, rfl, rfl, rfl, hx1, hx2⟩ := open_ok ha hb e1
 obtain ⟨s', y1, y2, hs', rfl, rfl, hy1, hy2⟩ := open_ok ha' hb' e2
 obtain rfl : s = s' := by cases s <;> cases s' <;> first | rfl | (exact absurd hs' (by decide))
 exact ⟨s, x1, x2, y1, y2, rfl, rfl, rfl, rfl, rfl, rfl, hx1, hx2, hy1, hy2, open_text e1, open_text e2⟩
def minusP (s : Bool) (p q : Nat × Nat) : Nat × Nat := (subR s p.1 q.1, subR s p.2 q.2)
section
variable {s : Bool} {p q : Nat × Nat} {S S' : ByteArray} (hS : S.toList = []) (hS' : S'.toList = []) (hp : okP s p) (hq : okP s q)
include hS hS' hp hq
theorem both_f : cx_both.f (ct s) (p.1 : Int) (p.2 : Int) S (ct s) (q.1 : Int) (q.2 : Int) S' = some (tv s, (p.1 : Int), (p.2 : Int), (q.1 : Int), (q.2 : Int), 0) := by
 unfold cx_both.f
 rw [u64B_nat hp.1, u64B_nat hp.2, u64B_nat hq.1, u64B_nat hq.2, if_pos (by decide)]
 unfold bothV
 rw [if_pos (open_ct hS hp.1 hp.2), if_pos (open_ct hS' hq.1 hq.2), if_pos rfl, cpart_ct]
theorem val_add : cx_Apply.f 0 (ct s) (p.1 : Int) (p.2 : Int) S (ct s) (q.1 : Int) (q.2 : Int) S' = some (ct s, ((plusP s p q).1 : Int), ((plusP s p q).2 : Int), NB, 0) := by
 unfold cx_Apply.f
 rw [both_f hS hS' hp hq, Option.bind_some, if_pos rfl, if_pos rfl]
 unfold fd_plus.f plusP
 dsimp only
 rw [fadd hp.1 hq.1, Option.bind_some, fadd hp.2 hq.2, Option.bind_some, Option.bind_some, fvalue, Option.bind_some]
theorem val_sub : cx_Apply.f 1 (ct s) (p.1 : Int) (p.2 : Int) S (ct s) (q.1 : Int) (q.2 : Int) S' = some (ct s, ((minusP s p q).1 : Int), ((minusP s p q).2 : Int), NB, 0) := by
 unfold cx_Apply.f
 rw [both_f hS hS' hp hq, Option.bind_some, if_pos rfl, if_neg (by decide), if_pos rfl]
 unfold fd_minus.f minusP
 dsimp only
 rw [fsub hp.1 hq.1, Option.bind_some, fsub hp.2 hq.2, Option.bind_some, Option.bind_some, fvalue, Option.bind_some]
theorem val_mul : cx_Apply.f 2 (ct s) (p.1 : Int) (p.2 : Int) S (ct s) (q.1 : Int) (q.2 : Int) S' = some (ct s, ((timesP s p q).1 : Int), ((timesP s p q).2 : Int), NB, 0) := by
 unfold cx_Apply.f
 rw [both_f hS hS' hp hq, Option.bind_some, if_pos rfl, if_neg (by decide), if_neg (by decide), if_pos rfl]
 dsimp only
 rw [ftimes hp hq, Option.bind_some, fvalue, Option.bind_some]
end
section
variable {s : Bool} {p : Nat × Nat} {S : ByteArray} (hS : S.toList = []) (hp : okP s p)
include hS hp
theorem open_f : cx_open.f (ct s) (p.1 : Int) (p.2 : Int) S = some (tv s, (p.1 : Int), (p.2 : Int), 0) := by
 unfold cx_open.f
 rw [u64B_nat hp.1, u64B_nat hp.2, if_pos (by decide), open_ct hS hp.1 hp.2, cpart_ct]
theorem val_pow {n : Nat} (hn : n ≤ 2147483647) : cx_PowerOf.f 42 (ct s) (p.1 : Int) (p.2 : Int) S (n : Int) = some (ct s, ((powC s n p 32 (fromR s 1, 0)).1 : Int), ((powC s n p 32 (fromR s 1, 0)).2 : Int), NB, 0) := by
 unfold cx_PowerOf.f
 rw [open_f hS hp, Option.bind_some, if_pos rfl, if_neg (show ¬ ((n : Int) < -2147483648) by omega), decide_eq_false (show ¬ ((n : Int) > 2147483647) by omega)]
 simp only [cx_PowerOf.j0, cx_PowerOf.j1]
 rw [if_neg (by decide), if_pos trivial, fpower hn hp, Option.bind_some]
 dsimp only
 rw [fvalue, Option.bind_some]
end
end Go.Proofs.YtmoimcblmmcffaaGreat.B

namespace Go.Proofs.YtmoimcblmmcffaaGreat.PLR
open Go.RowKit Go.Proofs.YtmoimcblmmcffaaGreatW.PrintWords Go.Proofs.YtmoimcblmmcffaaGreatW.PrintLast Go.Proofs.YtmoimcblmmcffaaGreatW.PrintMore
attribute [local go_sem] max2_int min2_int max_two min_two max_three min_three max_four min_four   -- for this text's walks alone
set_option linter.unusedVariables false
set_option linter.unusedSimpArgs false
def errW : Option Int → Value
 | none => .nilIface
 | some c => .iface 0 (.int .i64 c)
theorem errW_none : errW none = .nilIface := rfl
theorem errW_some (c : Int) : errW (some c) = .iface 0 (.int .i64 c) := rfl
theorem info3 : (Tryz.prog.info? 3).map (fun i => (i.zero, i.size, i.bytes)) = some (some (.int .i64 0), 1, 8) := by kernel_rfl
end Go.Proofs.YtmoimcblmmcffaaGreat.PLR

namespace Go.Proofs.YtmoimcblmmcffaaGreat.PLR
open Go.RowKit Go.Proofs.YtmoimcblmmcffaaGreat.PPC Go.Proofs.YtmoimcblmmcffaaGreat.PRA Go.Proofs.YtmoimcblmmcffaaGreat.PN Go.Proofs.YtmoimcblmmcffaaGreatW.PrintWords Go.Proofs.YtmoimcblmmcffaaGreatW.PrintLast Go.Proofs.YtmoimcblmmcffaaGreatW.PrintMore Go.Proofs.YtmoimcblmmcffaaGreatW.PrintZ
attribute [local go_sem] max2_int min2_int max_two min_two max_three min_three max_four min_four   -- for this text's walks alone
set_option linter.unusedVariables false
set_option linter.unusedSimpArgs false
theorem eqA24 (d : Nat) (w : World) (x0 y0 : Int) (x1 y1 : Int) (x2 y2 : Int) (x3 y3 : ByteArray) :
  (Op.equalIn (d + 2) 24 (.agg #[.int .i64 x0, .int .u64 x1, .int .u64 x2, .string x3]) (.agg #[.int .i64 y0, .int .u64 y1, .int .u64 y2, .string y3])).run Tryz.prog w = .ok (x0 == y0 && (x1 == y1 && (x2 == y2 && (x3.toList == y3.toList)))) w := by
 refine eqA_of Tryz.underlying24 (by kernel_rfl) ?_
 refine eqf_cons (by rfl) (by go_simp; rfl) (by go_simp; rfl) (by go_simp) ?_
 refine eqf_cons (by rfl) (by go_simp; rfl) (by go_simp; rfl) (by go_simp) ?_
 refine eqf_cons (by rfl) (by go_simp; rfl) (by go_simp; rfl) (by go_simp) ?_
 exact eqf_last (by rfl) (by go_simp; rfl) (by go_simp; rfl) (by go_simp)
end Go.Proofs.YtmoimcblmmcffaaGreat.PLR

namespace Go.Proofs.YtmoimcblmmcffaaGreat.PLR
open Go.RowKit Go.Proofs.YtmoimcblmmcffaaGreat.PPC Go.Proofs.YtmoimcblmmcffaaGreat.PRA Go.Proofs.YtmoimcblmmcffaaGreat.PN Go.Proofs.YtmoimcblmmcffaaGreatW.PrintWords Go.Proofs.YtmoimcblmmcffaaGreatW.PrintLast Go.Proofs.YtmoimcblmmcffaaGreatW.PrintMore Go.Proofs.YtmoimcblmmcffaaGreatW.PrintZ
attribute [local go_sem] max2_int min2_int max_two min_two max_three min_three max_four min_four   -- for this text's walks alone
attribute [local go_sem high] Go.Proofs.YtmoimcblmmcffaaGreat.NC.fld0
set_option linter.unusedVariables false
set_option linter.unusedSimpArgs false
def l10_equal.f (a0 : Int) (a1 : Int) (a2 : Int) : Option (Bool) := if a1 = a2 then (some true) else ((r8_Compare.f a0 a1 a2).bind fun t101 => (some (t101 == 0)))
set_option maxHeartbeats 8000000 in
set_option maxRecDepth 100000 in
theorem l10_equal.calls (a0 : Int) (a1 : Int) (a2 : Int) (r : Bool) (w : World) (h : l10_equal.f a0 a1 a2 = some r) :
  Calls Tryz.prog 19 #[.int .i64 a0, .int .u64 a1, .int .u64 a2] w fun e w' => e = .returned (.bool r) ∧ Below w.heap.size w w' := by
 have HB := Aside0.mk (Below.refl w.heap.size w)
 have H : (if a1 = a2 then (some true) else ((r8_Compare.f a0 a1 a2).bind fun t101 => (some (t101 == 0)))) = some r := h
 clear h
 by_cases c4 : a1 = a2
 ·rw [if_pos c4] at H
  have c4b0 : (a1 == a2) = true := beq_iff_eq.mpr c4
  have c4b1 : (a1 != a2) = false := bne_eq_false_iff_eq.mpr c4
  clear c4
  obtain rfl := Option.some.inj H
  go_enter Tryz.func19, Tryz.ntmps19
  go_wp2
  go_ret
  exact fin_ (blt HB)
 ·rw [if_neg c4] at H
  have c4b0 : (a1 == a2) = false := beq_eq_false_iff_ne.mpr c4
  have c4b1 : (a1 != a2) = true := bne_iff_ne.mpr c4
  replace H := Option.bind_eq_some_iff.mp H
  obtain ⟨t101, A5, H⟩ := H
  try dsimp only at H
  replace A5 := Aside0.mk A5
  obtain rfl := Option.some.inj H
  go_enter Tryz.func19, Tryz.ntmps19
  go_wp2_with (first | (go_at_call 62; (with_reducible refine (r8_Compare.calls a0 a1 a2 t101 _ A5.out).mono ?_); rintro e w6 ⟨rfl, hb⟩; replace HB := bls HB hb; clear hb))
  go_ret
  exact fin_ (blt HB)
def l10_near.f (a0_0 : Int) (a0_1 : Int) (a0_2 : Int) (a0_3 : ByteArray) (a1_0 : Int) (a1_1 : Int) (a1_2 : Int) (a1_3 : ByteArray) : Option (Bool) := (r10_PartType.f a0_0).bind fun t104 => (if a0_0 = a1_0 then ((l10_equal.f t104 a0_1 a1_1).bind fun t105 => (if t105 = true then ((l10_equal.f t104 a0_2 a1_2).bind fun t106 => (some t106)) else (some false))) else (some false))
set_option maxHeartbeats 8000000 in
set_option maxRecDepth 100000 in
theorem l10_near.calls (a0_0 : Int) (a0_1 : Int) (a0_2 : Int) (a0_3 : ByteArray) (a1_0 : Int) (a1_1 : Int) (a1_2 : Int) (a1_3 : ByteArray) (r : Bool) (w : World) (h : l10_near.f a0_0 a0_1 a0_2 a0_3 a1_0 a1_1 a1_2 a1_3 = some r) :
  Calls Tryz.prog 24 #[.agg #[.int .i64 a0_0, .int .u64 a0_1, .int .u64 a0_2, .string a0_3], .agg #[.int .i64 a1_0, .int .u64 a1_1, .int .u64 a1_2, .string a1_3]] w fun e w' => e = .returned (.bool r) ∧ Below w.heap.size w w' := by
 have hu24 := Tryz.underlying24
 have HB := Aside0.mk (Below.refl w.heap.size w)
 have H : ((r10_PartType.f a0_0).bind fun t104 => (if a0_0 = a1_0 then ((l10_equal.f t104 a0_1 a1_1).bind fun t105 => (if t105 = true then ((l10_equal.f t104 a0_2 a1_2).bind fun t106 => (some t106)) else (some false))) else (some false))) = some r := h
 clear h
 replace H := Option.bind_eq_some_iff.mp H
 obtain ⟨t104, A3, H⟩ := H
 try dsimp only at H
 replace A3 := Aside0.mk A3
 by_cases c4 : a0_0 = a1_0
 ·rw [if_pos c4] at H
  have c4b0 : (a0_0 == a1_0) = true := beq_iff_eq.mpr c4
  have c4b1 : (a0_0 != a1_0) = false := bne_eq_false_iff_eq.mpr c4
  clear c4
  replace H := Option.bind_eq_some_iff.mp H
  obtain ⟨t105, A5, H⟩ := H
  try dsimp only at H
  replace A5 := Aside0.mk A5
  by_cases c6 : t105 = true
  ·subst c6
   rw [if_pos rfl] at H
   replace H := Option.bind_eq_some_iff.mp H
   obtain ⟨t106, A7, H⟩ := H
   try dsimp only at H
   replace A7 := Aside0.mk A7
   obtain rfl := Option.some.inj H
   go_enter Tryz.func24, Tryz.ntmps24
   go_wp2_with (first | ((with_reducible refine gate_dst (N := 2) rfl ?_); refine bxe 2 (cs := #[.int .i64 a0_0, .int .u64 a0_1, .int .u64 a0_2, .string a0_3]) (t := 24) ?_; intro gb102 hg w8 hbox hb; have BK102 := Aside0.mk hbox; have GW102 := bsz HB hg; have GE102 := bsz HB hg; replace HB := bls HB hb; clear hb hbox hg) | ((with_reducible refine gate_dst (N := 3) rfl ?_); refine bxe 3 (cs := #[.int .i64 a1_0, .int .u64 a1_1, .int .u64 a1_2, .string a1_3]) (t := 24) ?_; intro gb103 hg w9 hbox hb; have BK103 := Aside0.mk hbox; have GW103 := bsz HB hg; have GE103 := bsz HB hg; have NB102_103 := bnl BK102 hg; have NB103_102 := bng BK102 hg; replace BK102 := bkb BK102 hb; replace HB := bls HB hb; clear hb hbox hg; have hnb10 := NB102_103.out; have hnc10 := NB103_102.out; obtain ⟨hcz11_0, hcz11_1, hcz11_2, hcz11_3, hfz11_0, hfz11_1, hfz11_2, hfz11_3⟩ := cf4 BK102) | ((with_reducible refine gate_callee (f := 16) rfl ?_); refine gLc 8 Tryz.func16 (r10_PartType.calls a0_0 t104 _ A3.out) (fun _ h_ => ?_); obtain ⟨nd, rfl⟩ := h_; obtain ⟨hcz12_0, hcz12_1, hcz12_2, hcz12_3, hfz12_0, hfz12_1, hfz12_2, hfz12_3⟩ := cf4 BK103) | (go_at_call 19; (with_reducible refine (l10_equal.calls t104 a0_1 a1_1 true _ A5.out).mono ?_); rintro e w13 ⟨rfl, hb⟩; replace BK102 := bkb BK102 hb; replace BK103 := bkb BK103 hb; replace HB := bls HB hb; clear hb; obtain ⟨hcz14_0, hcz14_1, hcz14_2, hcz14_3, hfz14_0, hfz14_1, hfz14_2, hfz14_3⟩ := cf4 BK102; obtain ⟨hcz15_0, hcz15_1, hcz15_2, hcz15_3, hfz15_0, hfz15_1, hfz15_2, hfz15_3⟩ := cf4 BK103) | (go_at_call 19; (with_reducible refine (l10_equal.calls t104 a0_2 a1_2 t106 _ A7.out).mono ?_); rintro e w16 ⟨rfl, hb⟩; replace BK102 := bkb BK102 hb; replace BK103 := bkb BK103 hb; replace HB := bls HB hb; clear hb))
   go_ret
   exact fin_ (blt HB)
  ·replace c6 := Bool.eq_false_iff.mpr c6
   subst c6
   rw [if_neg (show ¬ (false = true) by decide)] at H
   obtain rfl := Option.some.inj H
   go_enter Tryz.func24, Tryz.ntmps24
   go_wp2_with (first | ((with_reducible refine gate_dst (N := 2) rfl ?_); refine bxe 2 (cs := #[.int .i64 a0_0, .int .u64 a0_1, .int .u64 a0_2, .string a0_3]) (t := 24) ?_; intro gb102 hg w17 hbox hb; have BK102 := Aside0.mk hbox; have GW102 := bsz HB hg; have GE102 := bsz HB hg; replace HB := bls HB hb; clear hb hbox hg) | ((with_reducible refine gate_dst (N := 3) rfl ?_); refine bxe 3 (cs := #[.int .i64 a1_0, .int .u64 a1_1, .int .u64 a1_2, .string a1_3]) (t := 24) ?_; intro gb103 hg w18 hbox hb; have BK103 := Aside0.mk hbox; have GW103 := bsz HB hg; have GE103 := bsz HB hg; have NB102_103 := bnl BK102 hg; have NB103_102 := bng BK102 hg; replace BK102 := bkb BK102 hb; replace HB := bls HB hb; clear hb hbox hg; have hnb19 := NB102_103.out; have hnc19 := NB103_102.out; obtain ⟨hcz20_0, hcz20_1, hcz20_2, hcz20_3, hfz20_0, hfz20_1, hfz20_2, hfz20_3⟩ := cf4 BK102) | ((with_reducible refine gate_callee (f := 16) rfl ?_); refine gLc 8 Tryz.func16 (r10_PartType.calls a0_0 t104 _ A3.out) (fun _ h_ => ?_); obtain ⟨nd, rfl⟩ := h_; obtain ⟨hcz21_0, hcz21_1, hcz21_2, hcz21_3, hfz21_0, hfz21_1, hfz21_2, hfz21_3⟩ := cf4 BK103) | (go_at_call 19; (with_reducible refine (l10_equal.calls t104 a0_1 a1_1 false _ A5.out).mono ?_); rintro e w22 ⟨rfl, hb⟩; replace BK102 := bkb BK102 hb; replace BK103 := bkb BK103 hb; replace HB := bls HB hb; clear hb))
   go_ret
   exact fin_ (blt HB)
 ·rw [if_neg c4] at H
  have c4b0 : (a0_0 == a1_0) = false := beq_eq_false_iff_ne.mpr c4
  have c4b1 : (a0_0 != a1_0) = true := bne_iff_ne.mpr c4
  obtain rfl := Option.some.inj H
  go_enter Tryz.func24, Tryz.ntmps24
  go_wp2_with (first | ((with_reducible refine gate_dst (N := 2) rfl ?_); refine bxe 2 (cs := #[.int .i64 a0_0, .int .u64 a0_1, .int .u64 a0_2, .string a0_3]) (t := 24) ?_; intro gb102 hg w23 hbox hb; have BK102 := Aside0.mk hbox; have GW102 := bsz HB hg; have GE102 := bsz HB hg; replace HB := bls HB hb; clear hb hbox hg) | ((with_reducible refine gate_dst (N := 3) rfl ?_); refine bxe 3 (cs := #[.int .i64 a1_0, .int .u64 a1_1, .int .u64 a1_2, .string a1_3]) (t := 24) ?_; intro gb103 hg w24 hbox hb; have BK103 := Aside0.mk hbox; have GW103 := bsz HB hg; have GE103 := bsz HB hg; have NB102_103 := bnl BK102 hg; have NB103_102 := bng BK102 hg; replace BK102 := bkb BK102 hb; replace HB := bls HB hb; clear hb hbox hg; have hnb25 := NB102_103.out; have hnc25 := NB103_102.out; obtain ⟨hcz26_0, hcz26_1, hcz26_2, hcz26_3, hfz26_0, hfz26_1, hfz26_2, hfz26_3⟩ := cf4 BK102) | ((with_reducible refine gate_callee (f := 16) rfl ?_); refine gLc 8 Tryz.func16 (r10_PartType.calls a0_0 t104 _ A3.out) (fun _ h_ => ?_); obtain ⟨nd, rfl⟩ := h_; obtain ⟨hcz27_0, hcz27_1, hcz27_2, hcz27_3, hfz27_0, hfz27_1, hfz27_2, hfz27_3⟩ := cf4 BK103))
  go_ret
  exact fin_ (blt HB)
end Go.Proofs.YtmoimcblmmcffaaGreat.PLR
