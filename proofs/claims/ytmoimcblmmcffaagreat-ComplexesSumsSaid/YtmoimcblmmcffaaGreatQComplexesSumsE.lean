/- Contracts and plain laws that the law ComplexesSums leans on (texts joined by program; what it does not come to is left out). -/
import Derived.Test.YtmoimcblmmcffaaGreatQComplexesSumsD
import Derived.Test.YtmoimcblmmcffaaGreatQComplexesSumsB
import Derived.Laws.FloatArith
import Derived.Lib.Hide

namespace Go.Proofs.YtmoimcblmmcffaaGreat.NC
open Go.RowKit Go.Proofs.YtmoimcblmmcffaaGreat.B Go.Proofs.YtmoimcblmmcffaaGreat.N
set_option linter.unusedSimpArgs false
set_option linter.unusedVariables false
def precN : Bool → Nat
 | true => 24
 | false => 53
def moreOf (m : Nat) (more : Bool) : Nat := m * 8 + more.toNat
def placeOf (s : Bool) (m : Nat) (e : Int) : Int := max ((N.bits m : Int) - precN s + e) (leastN s)
def keptOf (m : Nat) (e tp : Int) : Nat := if tp ≤ e then m * 2 ^ (e - tp).toNat else Fl.rnd m (tp - e).toNat
def overOf (s : Bool) (m : Nat) (e : Int) : Nat × Int := if precN s < N.bits m then (m / 2, e + 1) else (m, e)
def packOf (s neg : Bool) (m : Nat) (e : Int) : PP := if m = 0 then ⟨0, neg, 0, 0⟩ else if e > mostN s then ⟨2, neg, 0, 0⟩ else ⟨1, neg, m, e⟩
def roundR (s neg : Bool) (m : Nat) (e : Int) (more : Bool) : Nat :=
 if m = 0 then bitsR s ⟨0, neg, 0, 0⟩ else
  let m1 := moreOf m more
  let tp := placeOf s m1 (e - 3)
  let k := overOf s (keptOf m1 (e - 3) tp) tp
  bitsR s (packOf s neg k.1 k.2)
theorem len_mono {a b : Nat} (h : a ≤ b) : (digs a).length ≤ (digs b).length := by
 by_cases h2 : (digs a).length ≤ (digs b).length
 ·exact h2
 ·have := digs_len_lt (a := b) (b := a) (by omega); omega
theorem rnd_ord (n D : Nat) (hD : 1 ≤ D) : (ordN (n - n / 2 ^ D * 2 ^ D) (2 ^ (D - 1)) = -1 ∧ Fl.rnd n D = n / 2 ^ D) ∨ (ordN (n - n / 2 ^ D * 2 ^ D) (2 ^ (D - 1)) = 1 ∧ Fl.rnd n D = n / 2 ^ D + 1) ∨ (ordN (n - n / 2 ^ D * 2 ^ D) (2 ^ (D - 1)) = 0 ∧ Fl.rnd n D = if n / 2 ^ D % 2 = 1 then n / 2 ^ D + 1 else n / 2 ^ D) := by
 have e1 : n - n / 2 ^ D * 2 ^ D = n % 2 ^ D := by
  have := Nat.div_add_mod n (2 ^ D)
  rw [Nat.mul_comm] at this
  omega
 have e2 : 2 ^ D = 2 * 2 ^ (D - 1) := by
  obtain ⟨k, rfl⟩ : ∃ k, D = k + 1 := ⟨D - 1, by omega⟩
  rw [Nat.pow_succ, Nat.add_sub_cancel]; omega
 rw [e1]
 unfold Fl.rnd ordN
 generalize n / 2 ^ D = q
 generalize n % 2 ^ D = r
 rw [e2]
 generalize 2 ^ (D - 1) = h
 by_cases h1 : r < h
 ·left
  rw [if_pos h1, decide_eq_false (by omega : ¬ 2 * h < 2 * r), show (2 * h == 2 * r) = false from by simp; omega]
  simp
 ·by_cases h2 : r = h
  ·right; right
   subst h2
   rw [if_neg h1, if_pos rfl, decide_eq_false (by omega : ¬ 2 * r < 2 * r)]
   by_cases h3 : q % 2 = 1 <;> simp [h3]
  ·right; left
   rw [if_neg h1, if_neg h2, decide_eq_true (by omega : 2 * h < 2 * r)]
   simp
theorem kept_bound (s : Bool) (m : Nat) (e : Int) : keptOf m e (placeOf s m e) ≤ 2 ^ precN s := by
 have hm := log_lt m
 unfold keptOf
 by_cases hle : placeOf s m e ≤ e
 ·rw [if_pos hle]
  have hb : (N.bits m : Int) - precN s + e ≤ placeOf s m e := by unfold placeOf; omega
  obtain ⟨d, hd⟩ : ∃ d : Nat, e - placeOf s m e = d := ⟨(e - placeOf s m e).toNat, by omega⟩
  rw [hd, Int.toNat_natCast]
  have h1 : m * 2 ^ d ≤ 2 ^ N.bits m * 2 ^ d := Nat.mul_le_mul_right _ (by omega)
  rw [← Nat.pow_add] at h1
  exact Nat.le_trans h1 (Nat.pow_le_pow_right (by decide) (by omega))
 ·rw [if_neg hle]
  have hb : (N.bits m : Int) - precN s + e ≤ placeOf s m e := by unfold placeOf; omega
  obtain ⟨d, hd⟩ : ∃ d : Nat, placeOf s m e - e = d := ⟨(placeOf s m e - e).toNat, by omega⟩
  rw [hd, Int.toNat_natCast]
  have h1 : Fl.rnd m d ≤ m / 2 ^ d + 1 := by
   unfold Fl.rnd
   have : ∀ b : Bool, b.toNat ≤ 1 := by decide
   have := this (2 ^ d < 2 * (m % 2 ^ d) || (2 ^ d == 2 * (m % 2 ^ d) && m / 2 ^ d % 2 == 1))
   omega
  have h2 : m / 2 ^ d < 2 ^ precN s := by
   refine Nat.div_lt_of_lt_mul (Nat.lt_of_lt_of_le hm ?_)
   rw [← Nat.pow_add]
   exact Nat.pow_le_pow_right (by decide) (by omega)
  omega
theorem over_facts (s : Bool) (m : Nat) (e : Int) (hm : m ≤ 2 ^ precN s) : (overOf s m e).1 < 2 * lowN s ∧ (leastN s ≤ e → leastN s ≤ (overOf s m e).2) := by
 have h1 := log_lt m
 have hp : 2 ^ precN s = 2 * lowN s := by cases s <;> rfl
 unfold overOf
 by_cases h : precN s < N.bits m
 ·rw [if_pos h]
  have hl : 0 < lowN s := by cases s <;> decide
  exact ⟨by simp only; omega, fun _ => by simp only; omega⟩
 ·rw [if_neg h]
  refine ⟨?_, fun h => h⟩
  have : 2 ^ N.bits m ≤ 2 ^ precN s := Nat.pow_le_pow_right (by decide) (by omega)
  simp only
  omega
theorem par_facts (q : Nat) : Int.tmod ((q % 65536 : Nat) : Int) 2 = ((q % 2 : Nat) : Int) ∧ ((q % 65536 : Nat) : Int) % 2 = ((q % 2 : Nat) : Int) ∧ (q % 2 = 0 ∨ q % 2 = 1) := by
 refine ⟨?_, by omega, by omega⟩
 show ((q % 65536 % 2 : Nat) : Int) = _
 omega
theorem iwr {n : Int} (h0 : -9223372036854775808 ≤ n) (h1 : n ≤ 9223372036854775807) : IntKind.i64.wrap n = n := by
 unfold IntKind.wrap
 simp [IntKind.signed, IntKind.bits]
 omega
end Go.Proofs.YtmoimcblmmcffaaGreat.NC

namespace Go.Proofs.YtmoimcblmmcffaaGreat.NC
open Go.RowKit Go.Proofs.YtmoimcblmmcffaaGreat.B Go.Proofs.YtmoimcblmmcffaaGreat.N
set_option linter.unusedSimpArgs false
set_option linter.unusedVariables false
theorem hide_fmt {P : Program} {c : Code} {Q : Exit → Act → World → Prop} {a : Act} {w w1 : World} {cs' : Array Value} {t' : TypeId}
  (hb : Below w.heap.size w w1)
  (h : ∀ W, (∀ i, W.cell? ⟨w1.heap.size, i, none⟩ = cs'[i]?) → w1.heap.size < W.heap.size → Ext w W W → c.wp P Q a W) :
  c.wp P Q a (w1.alloc (.cells cs' t' (0, 0))) := by
 refine h _ (fun i => ?_) (by simp) ?_
 ·rw [cell_of_row _ _ i cs' t' (0, 0) (heap_alloc_new w1 _)]
 ·exact Ext.refl (below_alloc0 hb _)
set_option maxHeartbeats 8000000 in
theorem round_c0 (s neg : Bool) (e : Int) (more : Bool) (A : Option Addr) (c : Nat) (w : World) :
  Calls Tryz.prog 74 #[.int .i64 (tv s), .bool neg, .slice A 0 c, .int .i64 e, .bool more] w (Ret (.int .u64 (bitsR s ⟨0, neg, 0, 0⟩ : Int)) w) := by
 have c1 := formatOf_c s
 have hlay : fmtV s = .agg #[.int .i64 (precN s : Int), .int .i64 (if s then 8 else 11), .int .i64 (leastN s), .int .i64 (mostN s)] := by cases s <;> rfl
 rw [hlay] at c1
 clear hlay
 have c2 := fun w => bits_c s ⟨0, neg, 0, 0⟩ w (.inl rfl)
 unfold PP.v at c2
 generalize (if s then (8 : Int) else 11) = f8 at *
 generalize bitsR s ⟨0, neg, 0, 0⟩ = R at *
 generalize precN s = prec at *
 generalize leastN s = least at *
 generalize mostN s = most at *
 generalize tv s = t at *
 go_enter Tryz.func74, Tryz.ntmps74
 go_upto_region 2 with (go_at_call 68; refine (c1 _).mono ?_; rintro e w1 ⟨rfl, hb1⟩)
 refine hide_fmt hb1 (fun W kf hs HE => ?_)
 clear hb1 c1
 generalize w1.heap.size = g at *
 go_wp2_with (go_at_call 69; refine (c2 _).mono ?_; rintro e w1 ⟨rfl, hb1⟩; have HE1 := Ext.next (w0 := w) (W := W) hb1)
 go_ret
 exact ⟨rfl, Ext.end⟩
set_option maxRecDepth 100000 in
set_option maxHeartbeats 8000000 in
theorem round_c1 (s neg : Bool) (m : Nat) (e : Int) (more : Bool) (A : Option Addr) (c : Nat) (w : World) (hm : m ≠ 0) (hB : Big w A m) (hc : (digs m).length ≤ c) (hl : (digs m).length ≤ 1000) (h1 : -10000 ≤ e) (h2 : e ≤ 10000) :
  Calls Tryz.prog 74 #[.int .i64 (tv s), .bool neg, .slice A (digs m).length c, .int .i64 e, .bool more] w (Ret (.int .u64 (roundR s neg m e more : Int)) w) := by
 have c1 := formatOf_c s
 obtain ⟨R, hR⟩ : ∃ R : Nat, roundR s neg m e more = R := ⟨_, rfl⟩
 rw [hR]
 unfold roundR at hR
 rw [if_neg hm] at hR
 have hlay : fmtV s = .agg #[.int .i64 (precN s : Int), .int .i64 (if s then 8 else 11), .int .i64 (leastN s), .int .i64 (mostN s)] := by cases s <;> rfl
 rw [hlay] at c1
 clear hlay
 have hls : leastN s = -149 ∨ leastN s = -1074 := by cases s <;> simp [leastN]
 have hms : mostN s = 104 ∨ mostN s = 971 := by cases s <;> simp [mostN]
 have hps : precN s = 24 ∨ precN s = 53 := by cases s <;> simp [precN]
 have hml : (digs (m * 8)).length ≤ 1001 := by
  have h := val_lt (dig_digs m)
  rw [val_digs] at h
  have := digs_len (n := m * 8) (m := (digs m).length + 1) (by rw [Nat.pow_succ]; omega)
  omega
 have d3 : (digs m).length ≠ 0 := fun h => hm (digs_nil.1 h)
 have d1 : ((digs m).length : Int) ≠ 0 := by omega
 have d2 : wrap64 (e - 3) = e - 3 := wr (by omega) (by omega)
 have cl : ∀ w, Big w A m → Calls Tryz.prog 110 #[.slice A (digs m).length c, .int .i64 3] w (RetBig (m * 8) w) := fun w h => left_c (s := 3) w h hc (by omega) (by decide)
 have hmo1 : (digs (moreOf m more)).length ≤ 1002 := by
  have h := val_lt (dig_digs (m * 8))
  rw [val_digs] at h
  have := digs_len (n := moreOf m more) (m := (digs (m * 8)).length + 1) (by unfold moreOf; rw [Nat.pow_succ]; cases more <;> simp <;> omega)
  omega
 have hmb : N.bits (moreOf m more) ≤ 20000 := by have := bits_len (moreOf m more); omega
 have l1 : (digs 1).length ≤ Lim := by rw [digs_one]; decide
 have cp : ∀ (w : World) (A : Option Addr) (c : Nat) (A' : Option Addr) n, Big w A n → (digs n).length ≤ c → (digs n).length ≤ Lim → Big w A' 1 → Calls Tryz.prog 112 #[.slice A (digs n).length c, .slice A' 1 1] w (RetBig (n + 1) w) := by
  intro w A c A' n h hc hl h'
  have := plus_c (n1 := 1) w h hc h' (by rw [digs_one]; exact Nat.le_refl 1) hl l1
  rwa [digs_one] at this
 have cl1 : ∀ (w : World) (A' : Option Addr) (s : Nat), s ≤ 100000 → Big w A' 1 → Calls Tryz.prog 110 #[.slice A' 1 1, .int .i64 (s : Int)] w (RetBig (2 ^ s) w) := by
  intro w A' s hs h'
  have := left_c (n0 := 1) (s := s) w h' (by rw [digs_one]; exact Nat.le_refl 1) (by rw [digs_one]; decide) hs
  rwa [digs_one, Nat.one_mul] at this
 generalize (if s then (8 : Int) else 11) = f8 at *
 go_enter Tryz.func74, Tryz.ntmps74
 go_upto_region 2 with (go_at_call 68; refine (c1 _).mono ?_; rintro e w1 ⟨rfl, hb1⟩)
 refine hide_fmt hb1 (fun W kf hs HE => ?_)
 clear hb1 c1
 generalize w1.heap.size = g at *
 go_upto_if 31 with (go_at_call 110; refine (cl _ (hB.below (Ext.end))).mono ?_; rintro e w1 ⟨A1, c1, rfl, hc1, hB1, hb1⟩; have HE1 := Ext.next (w0 := w) (W := W) hb1)
 go_cut [2] (fun v2 wc => ∃ A c, v2 = .slice A (digs (moreOf m more)).length c ∧ (digs (moreOf m more)).length ≤ c ∧ Big wc A (moreOf m more) ∧ Ext w W wc)
 case first =>
  cases more
  ·clear hmo1 hmb hR
   go_wp2
   go_meet
   rw [show moreOf m false = m * 8 from rfl]
   exact ⟨A1, c1, rfl, hc1, hB1, HE1⟩
  ·clear hmo1 hmb hR
   go_wp2_with (go_at_call 112; refine (cp _ _ _ _ _ (hB1.alloc _) hc1 (by unfold Lim; omega) (big_lit digs_one)).mono ?_; rintro e w2 ⟨A2, c2, rfl, hc2, hB2, hb2⟩)
   go_meet
   rw [show moreOf m true = m * 8 + 1 from rfl]
   exact ⟨A2, c2, rfl, hc2, hB2, HE1.call (below_call (below_alloc0 (Below.refl _ _) _) hb2)⟩
 case rest =>
  obtain ⟨A2, c2, rfl, hc2, hB2, HE2⟩ := hcut
  generalize wc = V at *
  have kf2 : ∀ i, V.cell? ⟨g, i, none⟩ = _ := fun i => (HE2.1 g i hs).trans (kf i)
  have hs2 : g < V.heap.size := Nat.lt_of_lt_of_le hs HE2.2.2.1
  have HE3 : Ext w V V := Ext.refl HE2.2.2.2
  clear kf hs HE HE1 HE2 hb1 hB1 hc1 hB hc cl d2
  generalize moreOf m more = m1 at *
  have hR' : R = R := rfl
  have h3 : -10003 ≤ e - 3 := by omega
  have h4 : e - 3 ≤ 9997 := by omega
  clear h1 h2
  generalize e - 3 = e3 at *
  obtain ⟨tp, htp⟩ : ∃ x, placeOf s m1 e3 = x := ⟨_, rfl⟩
  rw [htp] at hR
  have htp2 : tp = max ((N.bits m1 : Int) - precN s + e3) (leastN s) := htp.symm
  have htb : -2000 ≤ tp ∧ tp ≤ 40000 := by omega
  go_upto_region 7 with (fail)
  go_cut [12] (fun v12 wx => v12 = .int .i64 tp ∧ Ext w V wx)
  case first =>
   have b1 : IntKind.i64.wrap ((N.bits m1 : Int) - (precN s : Int)) = (N.bits m1 : Int) - (precN s : Int) := iwr (by omega) (by omega)
   have b2 : IntKind.i64.wrap ((N.bits m1 : Int) - (precN s : Int) + e3) = (N.bits m1 : Int) - (precN s : Int) + e3 := iwr (by omega) (by omega)
   clear hR htp htb
   generalize precN s = prec at *
   generalize leastN s = least at *
   generalize mostN s = most at *
   go_region_held3 (fun w' => Ext w V w') (first | exact Ext.drew (by assumption) | exact Ext.next (by assumption)) ((go_at_call 113; refine (length_c _ (hB2.ext (by assumption)) hc2 (by unfold Lim; omega)).mono ?_; rintro e w1 ⟨rfl, hb1⟩))
   go_wp2
   ·go_meet
    refine ⟨?_, by assumption⟩
    congr 1
    omega
   ·go_meet
    refine ⟨?_, by assumption⟩
    congr 1
    omega
  case rest =>
   obtain ⟨rfl, HE4⟩ := hcut
   generalize wc = V1 at *
   have kf3 : ∀ i, V1.cell? ⟨g, i, none⟩ = _ := fun i => (HE4.1 g i hs2).trans (kf2 i)
   have hs3 : g < V1.heap.size := Nat.lt_of_lt_of_le hs2 HE4.2.2.1
   have HE5 : Ext w V1 V1 := Ext.refl HE4.2.2.2
   have hB3 := hB2.ext HE4
   clear kf2 hs2 HE3 HE4 hB2
   have hkb := kept_bound s m1 e3
   rw [htp] at hkb
   obtain ⟨kp, hkp⟩ : ∃ x, keptOf m1 e3 tp = x := ⟨_, rfl⟩
   rw [hkp] at hR hkb
   have htl : leastN s ≤ tp := by omega
   clear htp htp2
   go_upto_if 47 with (fail)
   go_cut [2, 3] (fun v2 v3 wc => ∃ A c, v2 = .slice A (digs kp).length c ∧ v3 = .int .i64 tp ∧ (digs kp).length ≤ c ∧ Big wc A kp ∧ Ext w V1 wc)
   case first =>
    clear hR hkb
    by_cases hle : tp ≤ e3
    ·rw [decide_eq_true hle]
     obtain ⟨d, hd⟩ : ∃ d : Nat, e3 = tp + (d : Int) := ⟨(e3 - tp).toNat, by omega⟩
     have hk : kp = m1 * 2 ^ d := by
      rw [← hkp]
      unfold keptOf
      rw [if_pos hle, show (e3 - tp).toNat = d from by omega]
     clear hkp
     have ce : ∀ w, Big w A2 m1 → Calls Tryz.prog 110 #[.slice A2 (digs m1).length c2, .int .i64 (d : Int)] w (RetBig kp w) := by
      intro w h
      rw [hk]
      exact left_c (s := d) w h hc2 (by omega) (by omega)
     have b3 : wrap64 (e3 - tp) = (d : Int) := by
      have hd9 : d ≤ 9223372036854775807 := by omega
      have hd8 : e3 - tp = (d : Int) := by omega
      rw [hd8]; exact wr_nat hd9
     clear hk hd hle htb h3 h4 htl
     clear hm hml d3 d1 l1 cp cl1 hmo1 hmb
     go_upto_region 9 with (fail)
     go_wp2_with (go_at_call 110; refine (ce _ hB3).mono ?_; rintro e w1 ⟨A1, c1, rfl, hc1, hB1, hb1⟩)
     go_meet
     exact ⟨A1, c1, rfl, rfl, hc1, hB1, Ext.next hb1⟩
    ·rw [decide_eq_false hle]
     obtain ⟨D, hD⟩ : ∃ D : Nat, tp = e3 + (D : Int) := ⟨(tp - e3).toNat, by omega⟩
     have hD1 : 1 ≤ D := by omega
     have hD2 : D ≤ 60000 := by omega
     have hk : Fl.rnd m1 D = kp := by
      rw [← hkp]
      unfold keptOf
      rw [if_neg hle, hD, show (e3 + (D : Int) - e3).toNat = D from by omega]
     clear hkp
     have hro := rnd_ord m1 D hD1
     rw [hk] at hro
     have hqm : m1 / 2 ^ D * 2 ^ D ≤ m1 := Nat.div_mul_le_self _ _
     have hqm2 : m1 / 2 ^ D ≤ m1 := Nat.div_le_self _ _
     have cr : ∀ w, Big w A2 m1 → Calls Tryz.prog 114 #[.slice A2 (digs m1).length c2, .int .i64 (D : Int)] w (fun e w' => ∃ A c, e = .returned (.tuple #[.slice A (digs (m1 / 2 ^ D)).length c, .bool (m1 % 2 ^ D != 0)]) ∧ (digs (m1 / 2 ^ D)).length ≤ c ∧ Big w' A (m1 / 2 ^ D) ∧ Below w.heap.size w w') :=
      fun w h => right_c (s := D) w h hc2 (by unfold Lim; omega) (by omega)
     have hlq := len_mono hqm2
     have hlr := len_mono (show m1 - m1 / 2 ^ D * 2 ^ D ≤ m1 from Nat.sub_le _ _)
     generalize (m1 % 2 ^ D != 0) = flag at *
     generalize m1 / 2 ^ D = q at *
     have cle : ∀ w A c, Big w A q → (digs q).length ≤ c → Calls Tryz.prog 110 #[.slice A (digs q).length c, .int .i64 (D : Int)] w (RetBig (q * 2 ^ D) w) := fun w A c h hc => left_c (s := D) w h hc (by omega) (by omega)
     have cm : ∀ w A c, Big w A2 m1 → Big w A (q * 2 ^ D) → (digs (q * 2 ^ D)).length ≤ c → Calls Tryz.prog 115 #[.slice A2 (digs m1).length c2, .slice A (digs (q * 2 ^ D)).length c] w (RetBig (m1 - q * 2 ^ D) w) := fun w A c h h' hc => minus_c w h hc2 h' hc (by unfold Lim; omega) hqm
     generalize q * 2 ^ D = lq at *
     generalize m1 - lq = rs at *
     have clh := fun w A' => cl1 w A' (D - 1) (by omega)
     have hl2 : (digs rs).length ≤ Lim := by unfold Lim; omega
     have hl3 : (digs q).length ≤ Lim := by unfold Lim; omega
     obtain ⟨b3, b4⟩ : wrap64 (tp - e3) = (D : Int) ∧ wrap64 ((D : Int) - 1) = ((D - 1 : Nat) : Int) := by
      have hd9 : D ≤ 9223372036854775807 := by omega
      have hd7 : D - 1 ≤ 9223372036854775807 := by omega
      have hd8 : tp - e3 = (D : Int) := by omega
      have hd6 : (D : Int) - 1 = ((D - 1 : Nat) : Int) := by omega
      exact ⟨by rw [hd8]; exact wr_nat hd9, by rw [hd6]; exact wr_nat hd7⟩
     generalize D - 1 = Dm at *
     generalize 2 ^ Dm = half at *
     clear htl hD hm hml d3 d1 hmb hmo1 hlq hlr hqm hqm2 l1 hD1 hD2 htb hle h3 h4
     go_upto_region 10 with (fail)
     go_upto_region 11 with (go_at_call 114; refine (cr _ hB3).mono ?_; rintro e w1 ⟨Aq, cq, rfl, hcq, hBq, hb1⟩)
     have hB4 := hB3.below hb1
     have HE6 : Ext w V1 w1 := Ext.next hb1
     clear cr hb1 hB3 HE5
     go_upto_region 12 with (first | (go_at_call 110; refine (cle _ _ _ hBq hcq).mono ?_; rintro e w2 ⟨Al, cl', rfl, hcl, hBl, hb2⟩) | (go_at_call 115; refine (cm _ _ _ (hB4.below hb2) hBl hcl).mono ?_; rintro e w3 ⟨Ar, cr, rfl, hcr, hBr, hb3⟩))
     have HE7 := HE6.call hb2
     have HE8 := HE7.call hb3
     have hBq2 := (hBq.below hb2).below hb3
     clear hBq hBl hB4 HE6 HE7 hb2 hb3 cle cm
     go_upto_region 13 with (go_at_call 110; refine (clh _ _ (big_lit digs_one)).mono ?_; rintro e w4 ⟨Ah, ch, rfl, hch, hBh, hb4⟩)
     have hb5 := below_call (below_alloc0 (Below.refl _ _) _) hb4
     have HE9 := HE8.call hb5
     have hBq3 := hBq2.below hb5
     have hBr2 := hBr.below hb5
     clear hb4 hb5 HE8 hBq2 hBr clh cl1
     go_upto_region 14 with (go_at_call 116; refine (order_c _ hBr2 hcr hBh hch hl2).mono ?_; rintro e w5 ⟨rfl, hb6⟩)
     have HE10 := HE9.call hb6
     have hBq4 := hBq3.below hb6
     clear hb6 HE9 hBq3 hBr2 hBh
     generalize ordN rs half = x at *
     rcases hro with ⟨rfl, rfl⟩ | ⟨rfl, rfl⟩ | ⟨rfl, hpar⟩
     ·go_wp2
      go_meet
      exact ⟨Aq, cq, rfl, rfl, hcq, hBq4, HE10⟩
     ·go_wp2_with (go_at_call 112; refine (cp _ _ _ _ _ (hBq4.alloc _) hcq hl3 (big_lit digs_one)).mono ?_; rintro e w6 ⟨A6, c6, rfl, hc6, hB6, hb7⟩)
      go_meet
      exact ⟨A6, c6, rfl, rfl, hc6, hB6, HE10.call (below_call (below_alloc0 (Below.refl _ _) _) hb7)⟩
     ·have cd := digit_c w5 hBq4 hcq
      obtain ⟨ht, ht2, hq2⟩ := par_facts q
      generalize q % 65536 = z at *
      rcases hq2 with hq2 | hq2
      ·rw [hq2] at ht ht2
       rw [if_neg (by rw [hq2]; decide)] at hpar
       subst hpar
       go_wp2_with (go_at_call 117; refine cd.mono ?_; rintro e w6 ⟨rfl, hb7⟩)
       go_meet
       exact ⟨Aq, cq, rfl, rfl, hcq, hBq4.below hb7, HE10.call hb7⟩
      ·rw [hq2] at ht ht2
       rw [if_pos hq2] at hpar
       subst hpar
       go_wp2_with (first | (go_at_call 117; refine cd.mono ?_; rintro e w6 ⟨rfl, hb7⟩) | (go_at_call 112; refine (cp _ _ _ _ _ ((hBq4.below hb7).alloc _) hcq hl3 (big_lit digs_one)).mono ?_; rintro e w8 ⟨A6, c6, rfl, hc6, hB6, hb8⟩))
       go_meet
       exact ⟨A6, c6, rfl, rfl, hc6, hB6, (HE10.call hb7).call (below_call (below_alloc0 (Below.refl _ _) _) hb8)⟩
   case rest =>
    obtain ⟨A3, c3, rfl, rfl, hc3, hB5, HE6⟩ := hcut
    generalize wc = V2 at *
    have kf4 : ∀ i, V2.cell? ⟨g, i, none⟩ = _ := fun i => (HE6.1 g i hs3).trans (kf3 i)
    have hs4 : g < V2.heap.size := Nat.lt_of_lt_of_le hs3 HE6.2.2.1
    have HE7 : Ext w V2 V2 := Ext.refl HE6.2.2.2
    have hkl : (digs kp).length ≤ 10 := by
     have : (digs kp).length ≤ 54 / 16 + 1 := len_bits (Nat.lt_of_le_of_lt hkb (by rcases hps with h | h <;> rw [h] <;> decide))
     omega
    obtain ⟨hk1, hk2⟩ := over_facts s kp tp hkb
    clear kf3 hs3 HE5 HE6 hB3 hc2 hkp hml hmo1 cp cl1 l1 d1 d3 hkb hmb hl
    obtain ⟨k3, hk3⟩ : ∃ k, overOf s kp tp = k := ⟨_, rfl⟩
    rw [hk3] at hR hk1 hk2
    obtain ⟨m3, e4⟩ := k3
    simp only at hR hk1 hk2
    go_upto_region 17 with (fail)
    have hov : ((precN s : Int) < (N.bits kp : Int) ∧ kp / 2 ^ 1 = m3 ∧ wrap64 (tp + 1) = e4) ∨ ((N.bits kp : Int) ≤ (precN s : Int) ∧ kp = m3 ∧ tp = e4) := by
     unfold overOf at hk3
     by_cases h : precN s < N.bits kp
     ·rw [if_pos h] at hk3
      injection hk3 with h5 h6
      exact .inl ⟨by omega, h5, by rw [← h6]; exact wr (by omega) (by omega)⟩
     ·rw [if_neg h] at hk3
      injection hk3 with h5 h6
      exact .inr ⟨by omega, h5, h6⟩
    have cri : ∀ w, Big w A3 kp → Calls Tryz.prog 114 #[.slice A3 (digs kp).length c3, .int .i64 1] w (fun e w' => ∃ A c, e = .returned (.tuple #[.slice A (digs (kp / 2 ^ 1)).length c, .bool (kp % 2 ^ 1 != 0)]) ∧ (digs (kp / 2 ^ 1)).length ≤ c ∧ Big w' A (kp / 2 ^ 1) ∧ Below w.heap.size w w') :=
     fun w h => right_c (s := 1) w h hc3 (by unfold Lim; omega) (by decide)
    generalize (kp % 2 ^ 1 != 0) = flag at *
    have hk10 : (digs kp).length ≤ Lim := by unfold Lim; omega
    have HOV := Lib.hid hov
    have CRI := Lib.hid cri
    have HK : RowKit.Hid (m3 < 2 * lowN s ∧ leastN s ≤ e4) := ⟨hk1, hk2 htl⟩
    have HR := Lib.hid hR
    clear hR
    clear hov cri hk3 hls hms hps htb htl h3 h4 hkl hk1 hk2 hm
    generalize precN s = prec at *
    go_region_held3 (fun w' => Ext w V2 w') (first | exact Ext.drew (by assumption) | exact Ext.next (by assumption)) ((go_at_call 113; refine (length_c _ (hB5.ext (by assumption)) hc3 hk10).mono ?_; rintro e w1 ⟨rfl, hb1⟩))
    have HE8 := (by assumption : Ext w V2 _)
    go_upto_if 99 with (fail)
    go_cut [2, 3] (fun v2 v3 wc => ∃ A c, v2 = .slice A (digs m3).length c ∧ v3 = .int .i64 e4 ∧ (digs m3).length ≤ c ∧ Big wc A m3 ∧ Ext w V2 wc)
    case first =>
     rcases HOV with ⟨ho, h5, h6⟩ | ⟨ho, h5, h6⟩
     ·first | rw [decide_eq_true (show prec < N.bits kp by omega)] | rw [decide_eq_true ho] | rw [decide_eq_true (p := (N.bits kp : Int) > (prec : Int)) ho]
      have cri2 : ∀ w, Big w A3 kp → _ := CRI
      rw [h5] at cri2
      clear CRI ho h5
      go_upto_region 18 with (fail)
      go_upto_region 19 with (go_at_call 114; refine (cri2 _ (hB5.ext HE8)).mono ?_; rintro e w2 ⟨A5, c5, rfl, hc5, hB6, hb2⟩)
      go_wp2
      go_meet
      exact ⟨A5, c5, rfl, by rw [h6], hc5, hB6, HE8.call hb2⟩
     ·first | rw [decide_eq_false (show ¬ prec < N.bits kp by omega)] | rw [decide_eq_false (p := (N.bits kp : Int) > (prec : Int)) (by omega)] | rw [decide_eq_false (p := (prec : Int) < (N.bits kp : Int)) (by omega)]
      subst h5 h6
      clear CRI ho
      go_wp2
      go_meet
      exact ⟨A3, c3, rfl, rfl, hc3, hB5.ext HE8, HE8⟩
    case rest =>
     obtain ⟨A5, c5, rfl, rfl, hc5, hB7, HE9⟩ := hcut
     generalize wc = V3 at *
     have kf5 : ∀ i, V3.cell? ⟨g, i, none⟩ = _ := fun i => (HE9.1 g i hs4).trans (kf4 i)
     have hs5 : g < V3.heap.size := Nat.lt_of_lt_of_le hs4 HE9.2.2.1
     have HE10 : Ext w V3 V3 := Ext.refl HE9.2.2.2
     clear kf4 hs4 HE7 HE8 HE9 hB5 hc3 hk10 CRI HOV
     have hR : bitsR s (packOf s neg m3 e4) = R := HR
     obtain ⟨hk1, hk2⟩ : m3 < 2 * lowN s ∧ leastN s ≤ e4 := HK
     clear HR
     unfold packOf at hR
     by_cases hz : m3 = 0
     ·subst hz
      rw [if_pos rfl] at hR
      have cb := fun w => bits_c s ⟨0, neg, 0, 0⟩ w (.inl rfl)
      unfold PP.v at cb
      rw [hR] at cb
      clear hR hk1 hk2
      rw [digs_zero] at *
      go_wp2_with (go_at_call 69; refine (cb _).mono ?_; rintro e w2 ⟨rfl, hb2⟩; have HE11 := Ext.next (w0 := w) (W := V3) hb2)
      go_ret
      exact ⟨rfl, Ext.end⟩
     ·rw [if_neg hz] at hR
      have hz2 : (digs m3).length ≠ 0 := fun h => hz (digs_nil.1 h)
      have hz3 : ((digs m3).length : Int) ≠ 0 := by omega
      by_cases hmo : e4 > mostN s
      ·rw [if_pos hmo] at hR
       have cb := fun w => bits_c s ⟨2, neg, 0, 0⟩ w (.inr (.inl rfl))
       unfold PP.v at cb
       rw [hR] at cb
       clear hR hk1 hk2 hz
       generalize mostN s = most at *
       go_wp2_with (go_at_call 69; refine (cb _).mono ?_; rintro e w2 ⟨rfl, hb2⟩; have HE11 := Ext.next (w0 := w) (W := V3) hb2)
       go_ret
       exact ⟨rfl, Ext.end⟩
      ·rw [if_neg hmo] at hR
       have hls : 2 * lowN s ≤ 9223372036854775807 := by cases s <;> decide
       have cb := fun w => bits_c s ⟨1, neg, m3, e4⟩ w (.inr (.inr (.inr ⟨rfl, hk1, fun _ => ⟨hk2, by simp only; omega⟩⟩)))
       have ci := int_c V3 hB7 hc5 (by omega)
       unfold PP.v at cb
       rw [hR] at cb
       clear hR hk1 hk2 hz hls
       generalize mostN s = most at *
       go_wp2_with (first | (go_at_call 69; refine (cb _).mono ?_; rintro e w2 ⟨rfl, hb2⟩; have HE11 := Ext.next (w0 := w) (W := V3) hb2) | (go_at_call 118; refine ci.mono ?_; rintro e w3 ⟨rfl, hb3⟩; have HE12 := Ext.next (w0 := w) (W := V3) hb3))
       go_ret
       exact ⟨rfl, Ext.end⟩
theorem round_c (s neg : Bool) (m : Nat) (e : Int) (more : Bool) (A : Option Addr) (c : Nat) (w : World) (hB : Big w A m) (hc : (digs m).length ≤ c) (hl : (digs m).length ≤ 1000) (h1 : -10000 ≤ e) (h2 : e ≤ 10000) :
  Calls Tryz.prog 74 #[.int .i64 (tv s), .bool neg, .slice A (digs m).length c, .int .i64 e, .bool more] w (Ret (.int .u64 (roundR s neg m e more : Int)) w) := by
 by_cases hm : m = 0
 ·subst hm
  have h := round_c0 s neg e more A c w
  rw [digs_zero]
  unfold roundR
  rw [if_pos rfl]
  exact h
 ·exact round_c1 s neg m e more A c w hm hB hc hl h1 h2
end Go.Proofs.YtmoimcblmmcffaaGreat.NC

namespace Go.Proofs.YtmoimcblmmcffaaGreat.NC
open Go.RowKit Go.Proofs.YtmoimcblmmcffaaGreat.B Go.Proofs.YtmoimcblmmcffaaGreat.N
set_option linter.unusedSimpArgs false
set_option linter.unusedVariables false
theorem infR_c (s neg : Bool) (w : World) : Calls Tryz.prog 104 #[.int .i64 (tv s), .bool neg] w (Ret (.int .u64 (bitsR s ⟨2, neg, 0, 0⟩ : Int)) w) := by
 have cb := fun w => bits_c s ⟨2, neg, 0, 0⟩ w (.inr (.inl rfl))
 unfold PP.v at cb
 generalize bitsR s ⟨2, neg, 0, 0⟩ = R at *
 generalize tv s = t at *
 go_enter Tryz.func104, Tryz.ntmps104
 go_wp2_with (go_at_call 69; refine (cb _).mono ?_; rintro e w1 ⟨rfl, hb1⟩; have HE := Ext.next (w0 := w) (W := w) hb1)
 go_ret
 exact ⟨rfl, Ext.end⟩
theorem zeroR_c (s neg : Bool) (w : World) : Calls Tryz.prog 105 #[.int .i64 (tv s), .bool neg] w (Ret (.int .u64 (bitsR s ⟨0, neg, 0, 0⟩ : Int)) w) := by
 have cb := fun w => bits_c s ⟨0, neg, 0, 0⟩ w (.inl rfl)
 unfold PP.v at cb
 generalize bitsR s ⟨0, neg, 0, 0⟩ = R at *
 generalize tv s = t at *
 go_enter Tryz.func105, Tryz.ntmps105
 go_wp2_with (go_at_call 69; refine (cb _).mono ?_; rintro e w1 ⟨rfl, hb1⟩; have HE := Ext.next (w0 := w) (W := w) hb1)
 go_ret
 exact ⟨rfl, Ext.end⟩
end Go.Proofs.YtmoimcblmmcffaaGreat.NC

namespace Go.Proofs.YtmoimcblmmcffaaGreat.NC
open Go.RowKit Go.Proofs.YtmoimcblmmcffaaGreat.B Go.Proofs.YtmoimcblmmcffaaGreat.N
set_option linter.unusedSimpArgs false
set_option linter.unusedVariables false
theorem parts_ok (s : Bool) (a : Nat) : (partsR s a).ok s := by
 have hl : 0 < lowN s := by cases s <;> decide
 have hr : a % lowN s < lowN s := Nat.mod_lt _ hl
 have hf : 0 < fieldN s := by cases s <;> decide
 have hf2 : a / lowN s % fieldN s < fieldN s := Nat.mod_lt _ hf
 have hm : (fieldN s : Int) - 3 + leastN s = mostN s := by cases s <;> decide
 unfold partsR
 generalize a / lowN s % fieldN s = f at *
 generalize a % lowN s = r at *
 generalize decide (a / lowN s / fieldN s = 1) = neg
 rcases parts_leaf (s := s) (f := f) (r := r) (neg := neg) rfl with ⟨_, _, h⟩ | ⟨_, _, h⟩ | ⟨_, _, _, h⟩ | ⟨_, _, _, h⟩ | ⟨h1, h2, h⟩ <;> rw [h] <;> unfold PP.ok
 ·exact .inr (.inl rfl)
 ·exact .inr (.inr (.inl rfl))
 ·exact .inl rfl
 ·exact .inr (.inr (.inr ⟨rfl, by simp only; omega, fun (h : lowN s ≤ r) => by omega⟩))
 ·exact .inr (.inr (.inr ⟨rfl, by simp only; omega, fun _ => ⟨by simp only; omega, by simp only; omega⟩⟩))
def negR (s : Bool) (a : Nat) : Nat := bitsR s { partsR s a with neg := !(partsR s a).neg && (partsR s a).kind != 3 }
def sizeR (s : Bool) (a : Nat) : Nat := bitsR s { partsR s a with neg := false }
theorem PP.ok_neg {s : Bool} {p : PP} (h : p.ok s) (n : Bool) : ({ p with neg := n } : PP).ok s := h
theorem negatedR_c (s : Bool) (a : Nat) (w : World) (ha : (a : Int) < topV s) : Calls Tryz.prog 83 #[.int .i64 (tv s), .int .u64 (a : Int)] w (Ret (.int .u64 (negR s a : Int)) w) := by
 have c1 := fun w => parts_c s a w ha
 have cb := fun w => bits_c s _ w (PP.ok_neg (parts_ok s a) (!(partsR s a).neg && (partsR s a).kind != 3))
 unfold negR
 generalize bitsR s { partsR s a with neg := !(partsR s a).neg && (partsR s a).kind != 3 } = R at *
 unfold PP.v at cb c1
 simp only at cb
 generalize (partsR s a).kind = k at *
 generalize (partsR s a).neg = n at *
 generalize (partsR s a).sig = g at *
 generalize (partsR s a).exp = x at *
 clear ha
 generalize tv s = t at *
 obtain ⟨b, hb⟩ : ∃ b, (k != 3) = b := ⟨_, rfl⟩
 rw [hb] at cb
 have hk : (k = 3 ∧ b = false) ∨ (k ≠ 3 ∧ b = true) := by
  subst hb
  by_cases h : k = 3 <;> simp [h]
 cases n <;> rcases hk with ⟨hk, rfl⟩ | ⟨hk, rfl⟩ <;> simp only [Bool.not_false, Bool.not_true, Bool.and_true, Bool.and_false, Bool.true_and, Bool.false_and] at cb
 all_goals
  try subst hk
  go_enter Tryz.func83, Tryz.ntmps83
  go_wp2_with (first | (go_at_call 21; refine (c1 _).mono ?_; rintro e w1 ⟨rfl, hb1⟩; have HE1 := Ext.next (w0 := w) (W := w) hb1) | (go_at_call 69; refine (cb _).mono ?_; rintro e w2 ⟨rfl, hb2⟩))
  go_ret
  exact ⟨rfl, below_call (below_alloc0 hb1 _) hb2⟩
end Go.Proofs.YtmoimcblmmcffaaGreat.NC

namespace Go.Proofs.YtmoimcblmmcffaaGreat.NC
open Go.RowKit Go.Proofs.YtmoimcblmmcffaaGreat.B Go.Proofs.YtmoimcblmmcffaaGreat.N
set_option linter.unusedSimpArgs false
set_option linter.unusedVariables false
theorem Own.read3 {w : World} {g n : Nat} {a b c : Value} (h : Own (((w.setCell ⟨g, 0, none⟩ a).setCell ⟨g, 1, none⟩ b).setCell ⟨g, 2, none⟩ c) g (n + 3)) :
  (((w.setCell ⟨g, 0, none⟩ a).setCell ⟨g, 1, none⟩ b).setCell ⟨g, 2, none⟩ c).cell? ⟨g, 0, none⟩ = some a ∧ (((w.setCell ⟨g, 0, none⟩ a).setCell ⟨g, 1, none⟩ b).setCell ⟨g, 2, none⟩ c).cell? ⟨g, 1, none⟩ = some b ∧
  (((w.setCell ⟨g, 0, none⟩ a).setCell ⟨g, 1, none⟩ b).setCell ⟨g, 2, none⟩ c).cell? ⟨g, 2, none⟩ = some c := by
 have e0 := h.1 0 (by omega)
 have e1 := h.1 1 (by omega)
 have e2 := h.1 2 (by omega)
 refine ⟨?_, ?_, ?_⟩
 ·rw [e0]; rw [cell_put_ne (by decide), cell_put_ne (by decide)] at e0; rw [cell_put e0]
 ·rw [e1]; rw [cell_put_ne (by decide)] at e1; rw [cell_put e1]
 ·rw [e2]; rw [cell_put e2]
def RetEx (neg : Bool) (m : Nat) (e : Int) (w : World) : Ending → World → Prop := fun x w' => ∃ A c, x = .returned (.agg #[.bool neg, .slice A (digs m).length c, .int .i64 e]) ∧ (digs m).length ≤ c ∧ Big w' A m ∧ (∀ g, A = some ⟨g, 0, none⟩ → w.heap.size ≤ g) ∧ Below w.heap.size w w'
set_option maxHeartbeats 4000000 in
theorem exactOf_c (k : Int) (neg : Bool) (sig : Nat) (exp : Int) (w : World) (hp : sig ≤ 9223372036854775807) :
  Calls Tryz.prog 107 #[.agg #[.int .i64 k, .bool neg, .int .i64 (sig : Int), .int .i64 exp]] w (RetEx neg sig exp w) := by
 have c1 := fun w => nat_n w hp
 clear hp
 go_enter Tryz.func107, Tryz.ntmps107
 go_upto_region 1 with (fail)
 refine hide1own w (fun W k0 ho HW => ?_)
 have HO : ExO (w.heap.size + 1) w W (w.heap.size + 1) 3 W := ⟨HW, ho⟩
 go_region_held3 (fun w' => ExO (w.heap.size + 1) w W (w.heap.size + 1) 3 w') (exact ExO.keep) (((go_at_call 75; refine (c1 _).mono ?_; rintro e w1 ⟨A1, c1, rfl, hc1, hB1, hf1, hb1⟩)))
 have hH := (by assumption : ExO _ _ _ _ _ _)
 have hfr : ∀ g, A1 = some ⟨g, 0, none⟩ → w.heap.size + 1 < g := fun g hg => Nat.lt_of_lt_of_le ho.2.2 (hf1 g hg)
 have hB2 := ((hB1.put (p := ⟨w.heap.size + 1, 0, none⟩) hfr (.bool neg)).put (p := ⟨w.heap.size + 1, 1, none⟩) hfr (.slice A1 (digs sig).length c1)).put (p := ⟨w.heap.size + 1, 2, none⟩) hfr (.int .i64 exp)
 obtain ⟨e0, e1, e2⟩ := Own.read3 (n := 0) hH.2
 have hend := hH.end
 have hnew : ∀ g, A1 = some ⟨g, 0, none⟩ → w.heap.size ≤ g := fun g hg => by have := hfr g hg; omega
 clear hH hf1 hfr hB1 hb1 ho HO HW k0
 go_wp2
 exact bodyPost_ret (v := .agg #[.bool neg, .slice A1 (digs sig).length c1, .int .i64 exp]) (by simp [results, Tryz.results107, go_sem, e0, e1, e2]) rfl ⟨A1, c1, rfl, hc1, hB2, hnew, hend⟩
end Go.Proofs.YtmoimcblmmcffaaGreat.NC

namespace Go.Proofs.YtmoimcblmmcffaaGreat.NC
open Go.RowKit Go.Proofs.YtmoimcblmmcffaaGreat.B Go.Proofs.YtmoimcblmmcffaaGreat.N
set_option linter.unusedSimpArgs false
set_option linter.unusedVariables false
theorem lenpos (r : Nat) : decide (0 < (digs r).length) = decide (0 < r) := by
 have := digs_nil (n := r)
 exact decide_eq_decide.2 (by omega)
def sumX (a : Bool) (x : Nat) (b : Bool) (y : Nat) : Bool × Nat := if a = b then (a && decide (0 < x + y), x + y) else if x < y then (b, y - x) else (a && decide (0 < x - y), x - y)
set_option maxRecDepth 100000 in
set_option maxHeartbeats 8000000 in
theorem sum_c (a b : Bool) (m n : Nat) (e1 e2 : Int) (A B : Option Addr) (ca cb : Nat) (w : World) (hA : Big w A m) (hca : (digs m).length ≤ ca) (hB : Big w B n) (hcb : (digs n).length ≤ cb)
  (lm : (digs m).length ≤ 10) (ln : (digs n).length ≤ 10) (h1 : -5000 ≤ e1) (h2 : e1 ≤ 5000) (h3 : -5000 ≤ e2) (h4 : e2 ≤ 5000) :
  Calls Tryz.prog 106 #[.agg #[.bool a, .slice A (digs m).length ca, .int .i64 e1], .agg #[.bool b, .slice B (digs n).length cb, .int .i64 e2]] w
   (RetEx (sumX a (m * 2 ^ (e1 - min e1 e2).toNat) b (n * 2 ^ (e2 - min e1 e2).toNat)).1 (sumX a (m * 2 ^ (e1 - min e1 e2).toNat) b (n * 2 ^ (e2 - min e1 e2).toNat)).2 (min e1 e2) w) := by
 obtain ⟨e, he⟩ : ∃ e, min e1 e2 = e := ⟨_, rfl⟩
 rw [he]
 obtain ⟨d1, hd1⟩ : ∃ d : Nat, (e1 - e).toNat = d := ⟨_, rfl⟩
 obtain ⟨d2, hd2⟩ : ∃ d : Nat, (e2 - e).toNat = d := ⟨_, rfl⟩
 rw [hd1, hd2]
 have b1 : IntKind.i64.wrap (e1 - e) = (d1 : Int) := by rw [iwr (by omega) (by omega)]; omega
 have b2 : IntKind.i64.wrap (e2 - e) = (d2 : Int) := by rw [iwr (by omega) (by omega)]; omega
 have cl1 := fun w' (hb : Below w.heap.size w w') => left_c (s := d1) w' (hA.below hb) hca (by omega) (by omega)
 have cl2 := fun w' (hb : Below w.heap.size w w') => left_c (s := d2) w' (hB.below hb) hcb (by omega) (by omega)
 have lx : (digs (m * 2 ^ d1)).length ≤ Lim := by
  have h := val_lt (dig_digs m)
  rw [val_digs] at h
  have h5 : m * 2 ^ d1 < 2 ^ (160 + d1) := by
   rw [Nat.pow_add]
   refine Nat.mul_lt_mul_of_pos_right (Nat.lt_of_lt_of_le h ?_) (Nat.two_pow_pos _)
   exact Nat.le_trans (Nat.pow_le_pow_right (by decide) lm) (by decide)
  have := len_bits h5
  unfold Lim; omega
 have ly : (digs (n * 2 ^ d2)).length ≤ Lim := by
  have h := val_lt (dig_digs n)
  rw [val_digs] at h
  have h5 : n * 2 ^ d2 < 2 ^ (160 + d2) := by
   rw [Nat.pow_add]
   refine Nat.mul_lt_mul_of_pos_right (Nat.lt_of_lt_of_le h ?_) (Nat.two_pow_pos _)
   exact Nat.le_trans (Nat.pow_le_pow_right (by decide) ln) (by decide)
  have := len_bits h5
  unfold Lim; omega
 generalize m * 2 ^ d1 = x at *
 generalize n * 2 ^ d2 = y at *
 obtain ⟨sg, hsg⟩ : ∃ sg, sumX a x b y = sg := ⟨_, rfl⟩
 obtain ⟨rn, rm⟩ := sg
 rw [hsg]
 have HSG := Lib.hid hsg
 clear hsg
 clear hd1 hd2 lm ln hA hB hca hcb
 generalize (digs m).length = l1 at *
 generalize (digs n).length = l2 at *
 go_enter Tryz.func106, Tryz.ntmps106
 go_upto_region 1 with (fail)
 refine hide2own w (fun W k0 k1 ho HW => ?_)
 have HO : ExO (w.heap.size + 2) w W (w.heap.size + 2) 3 W := ⟨HW, ho⟩
 clear ho HW
 go_cut [5] (fun v5 wc => v5 = .int .i64 e ∧ wc = W)
 case first =>
  clear cl1 cl2 b1 b2
  go_wp2
  all_goals
   go_meet
   refine ⟨?_, rfl⟩
   congr 1
   omega
 case rest =>
  obtain ⟨rfl, rfl⟩ := hcut
  generalize wc = W at *
  go_upto_region 2 with (fail)
  go_cut [6, 7] (fun v6 v7 wc => ∃ A1 c1 B1 d1, v6 = .slice A1 (digs x).length c1 ∧ v7 = .slice B1 (digs y).length d1 ∧ (digs x).length ≤ c1 ∧ (digs y).length ≤ d1 ∧ Big wc A1 x ∧ Big wc B1 y ∧ ExO (w.heap.size + 2) w W (w.heap.size + 2) 3 wc)
  case first =>
   clear he h1 h2 h3 h4 lx ly
   go_region_held3 (fun w' => ExO (w.heap.size + 2) w W (w.heap.size + 2) 3 w') (exact ExO.keep) ((first | (go_at_call 110; (with_reducible refine (cl1 _ (ExO.end (by assumption))).mono ?_); rintro e w1 ⟨A1, c1, rfl, hc1, hB1, hb1⟩) | (go_at_call 110; (with_reducible refine (cl2 _ (ExO.end (by assumption))).mono ?_); rintro e w2 ⟨A2, c2, rfl, hc2, hB2, hb2⟩)))
   all_goals
    go_wp2
    go_meet
    exact ⟨A1, c1, A2, c2, rfl, rfl, hc1, hc2, (by first | exact hB1 | exact hB1.below hb2 | exact hB1.drew.below hb2), (by first | exact hB2 | exact hB2.below hb1 | exact hB2.drew.below hb1), by assumption⟩
  case rest =>
   obtain ⟨A1, c1, B1, d1, rfl, rfl, hc1, hd1, hX, hY, HV⟩ := hcut
   generalize wc = V at *
   have hbV := HV.end
   have kv : (∀ i, V.cell? ⟨w.heap.size, i, none⟩ = _) ∧ (∀ i, V.cell? ⟨w.heap.size + 1, i, none⟩ = _) := ⟨fun i => (HV.1.1 _ i (by omega)).trans (k0 i), fun i => (HV.1.1 _ i (by omega)).trans (k1 i)⟩
   obtain ⟨kv0, kv1⟩ := kv
   have hV : ExO (w.heap.size + 2) w V (w.heap.size + 2) 3 V := ⟨ExtN.refl (Nat.le_of_lt HV.2.2.2) hbV, HV.2⟩
   clear k0 k1 HO HV cl1 cl2 b1 b2 h1 h2 h3 h4 he
   have hgV := hV.2.2.2
   have cp := fun w' (hb : Below V.heap.size V w') => plus_n w' (hX.below hb) hc1 (hY.below hb) hd1 lx ly
   have co := fun w' (hb : Below V.heap.size V w') => order_c w' (hX.below hb) hc1 (hY.below hb) hd1 lx
   have cm1 := fun w' (hb : Below V.heap.size V w') (h : y ≤ x) => minus_n w' (hX.below hb) hc1 (hY.below hb) hd1 lx h
   have cm2 := fun w' (hb : Below V.heap.size V w') (h : x ≤ y) => minus_n w' (hY.below hb) hd1 (hX.below hb) hc1 ly h
   clear hX hY hc1 hd1 lx ly
   have fin : ∀ (V2 : World) (neg : Bool) (A : Option Addr) (r c : Nat), ExO (w.heap.size + 2) w V (w.heap.size + 2) 3 V2 → Big V2 A r → (∀ g, A = some ⟨g, 0, none⟩ → w.heap.size + 2 < g) → (digs r).length ≤ c →
     let V3 := ((V2.setCell ⟨w.heap.size + 2, 0, none⟩ (.bool neg)).setCell ⟨w.heap.size + 2, 1, none⟩ (.slice A (digs r).length c)).setCell ⟨w.heap.size + 2, 2, none⟩ (.int .i64 e)
     (V3.cell? ⟨w.heap.size + 2, 0, none⟩ = some (.bool neg) ∧ V3.cell? ⟨w.heap.size + 2, 1, none⟩ = some (.slice A (digs r).length c) ∧ V3.cell? ⟨w.heap.size + 2, 2, none⟩ = some (.int .i64 e)) ∧ RetEx neg r e w (.returned (.agg #[.bool neg, .slice A (digs r).length c, .int .i64 e])) V3 := by
    intro V2 neg A r c h hB hg hc
    have h3 := (((h.put 0 (.bool neg)).put 1 (.slice A (digs r).length c)).put 2 (.int .i64 e))
    refine ⟨Own.read3 (n := 0) h3.2, A, c, rfl, hc, ?_, fun g hg2 => by have := hg g hg2; omega, h3.end⟩
    exact ((hB.put (p := ⟨w.heap.size + 2, 0, none⟩) hg _).put (p := ⟨w.heap.size + 2, 1, none⟩) hg _).put (p := ⟨w.heap.size + 2, 2, none⟩) hg _
   have hsg := HSG.out
   clear HSG
   unfold sumX at hsg
   cases a <;> cases b
   ·rw [if_pos rfl] at hsg
    simp only [Bool.false_and, Prod.mk.injEq] at hsg
    obtain ⟨rfl, rfl⟩ := hsg
    clear co cm1 cm2
    generalize x + y = r at *
    go_wp2_with (go_at_call 112; refine (cp _ (Below.refl _ _)).mono ?_; rintro e w1 ⟨A2, c2, rfl, hc2, hB2, hg2, hb2⟩; have kw0 : ∀ i, w1.cell? ⟨w.heap.size, i, none⟩ = _ := fun i => ((bcell hb2).1 _ i (by omega)).trans (kv0 i); have kw1 : ∀ i, w1.cell? ⟨w.heap.size + 1, i, none⟩ = _ := fun i => ((bcell hb2).1 _ i (by omega)).trans (kv1 i); have HO1 := hV.call hb2; have HF := fin w1 false A2 r c2 HO1 hB2 (fun g hg => Nat.lt_of_lt_of_le hgV (hg2 g hg)) hc2)
    obtain ⟨⟨f0, f1, f2⟩, hfin⟩ := HF
    clear fin HO1
    
    exact bodyPost_ret (v := .agg #[.bool false, .slice A2 (digs r).length c2, .int .i64 e]) (by simp [results, Tryz.results106, go_sem, f0, f1, f2]) rfl hfin
   ·rw [if_neg (by decide)] at hsg
    clear cp
    have hord : (x < y ∧ ordN x y = -1) ∨ (y ≤ x ∧ 0 ≤ ordN x y) := by
     unfold ordN
     by_cases h : x < y
     ·left; exact ⟨h, if_pos h⟩
     ·right; refine ⟨by omega, ?_⟩; rw [if_neg h]; by_cases h2 : x = y <;> simp [h2]
    generalize ordN x y = o at *
    rcases hord with ⟨hxy, rfl⟩ | ⟨hxy, ho⟩
    ·rw [if_pos hxy] at hsg
     simp only [Prod.mk.injEq] at hsg
     obtain ⟨rfl, rfl⟩ := hsg
     have cm := fun w' hb => cm2 w' hb (Nat.le_of_lt hxy)
     clear cm1 cm2 hxy
     generalize y - x = r at *
     go_upto_region 7 with (go_at_call 116; refine (co _ (Below.refl _ _)).mono ?_; rintro e w1 ⟨rfl, hb2⟩)
     have kw0 : ∀ i, w1.cell? ⟨w.heap.size, i, none⟩ = _ := fun i => ((bcell hb2).1 _ i (by omega)).trans (kv0 i)
     have kw1 : ∀ i, w1.cell? ⟨w.heap.size + 1, i, none⟩ = _ := fun i => ((bcell hb2).1 _ i (by omega)).trans (kv1 i)
     have HO1 := hV.call hb2
     have HO2 : ExO (w.heap.size + 2) w w1 (w.heap.size + 2) 3 w1 := ⟨ExtN.refl (Nat.le_of_lt HO1.2.2.2) HO1.end, HO1.2⟩
     have hb2s := hb2.size
     have cmq := fun w' (hb : Below w1.heap.size w1 w') => cm w' (below_call hb2 hb)
     have hgr := HO2.2.2.2
     clear fin kv0 kv1 cm co HO1 hb2s hgV hV hbV
     go_region_held3 (fun w' => ExO (w.heap.size + 2) w w1 (w.heap.size + 2) 3 w') (exact ExO.keep) (((go_at_call 115; refine (cmq _ ((below_drew' (Below.refl _ _)))).mono ?_; rintro e w2 ⟨A2, c2, rfl, hc2, hB2, hg2, hb3⟩)))
     have hH := (by assumption : ExO _ _ _ _ _ _)
     have hfr : ∀ g, A2 = some ⟨g, 0, none⟩ → w.heap.size + 2 < g := fun g hg => Nat.lt_of_lt_of_le hgr (hg2 g hg)
     have hB3 := ((hB2.put (p := ⟨w.heap.size + 2, 0, none⟩) hfr (.bool true)).put (p := ⟨w.heap.size + 2, 1, none⟩) hfr (.slice A2 (digs r).length c2)).put (p := ⟨w.heap.size + 2, 2, none⟩) hfr (.int .i64 e)
     obtain ⟨f0, f1, f2⟩ := Own.read3 (n := 0) hH.2
     have hend := hH.end
     have hnew : ∀ g, A2 = some ⟨g, 0, none⟩ → w.heap.size ≤ g := fun g hg => by have := hfr g hg; omega
     clear hH hg2 hfr hB2 hb3 HO2 kw0 kw1 cmq
     go_wp2
     exact bodyPost_ret (v := .agg #[.bool true, .slice A2 (digs r).length c2, .int .i64 e]) (by simp [results, Tryz.results106, go_sem, f0, f1, f2]) rfl ⟨A2, c2, rfl, hc2, hB3, hnew, hend⟩
    ·rw [if_neg (by omega)] at hsg
     simp only [Bool.false_and, Prod.mk.injEq] at hsg
     
     obtain ⟨rfl, rfl⟩ := hsg
     have cm := fun w' hb => cm1 w' hb hxy
     clear cm1 cm2 hxy
     have ho' : decide (o < 0) = false := decide_eq_false (by omega)
     generalize x - y = r at *
     go_wp2_with (first | (go_at_call 116; refine (co _ (Below.refl _ _)).mono ?_; rintro e w1 ⟨rfl, hb1⟩) | (go_at_call 115; refine (cm _ hb1).mono ?_; rintro e w2 ⟨A2, c2, rfl, hc2, hB2, hg2, hb2⟩; have hb3 := below_call hb1 hb2; have kw0 : ∀ i, w2.cell? ⟨w.heap.size, i, none⟩ = _ := fun i => ((bcell hb3).1 _ i (by omega)).trans (kv0 i); have kw1 : ∀ i, w2.cell? ⟨w.heap.size + 1, i, none⟩ = _ := fun i => ((bcell hb3).1 _ i (by omega)).trans (kv1 i); have HO1 := hV.call hb3; have HF := fin w2 false A2 r c2 HO1 hB2 (fun g hg => Nat.lt_of_lt_of_le hgV (Nat.le_trans hb1.size (hg2 g hg))) hc2))
     obtain ⟨⟨f0, f1, f2⟩, hfin⟩ := HF
     clear fin HO1
     exact bodyPost_ret (v := .agg #[.bool false, .slice A2 (digs r).length c2, .int .i64 e]) (by simp [results, Tryz.results106, go_sem, f0, f1, f2]) rfl hfin
   ·rw [if_neg (by decide)] at hsg
    clear cp
    have hord : (x < y ∧ ordN x y = -1) ∨ (y ≤ x ∧ 0 ≤ ordN x y) := by
     unfold ordN
     by_cases h : x < y
     ·left; exact ⟨h, if_pos h⟩
     ·right; refine ⟨by omega, ?_⟩; rw [if_neg h]; by_cases h2 : x = y <;> simp [h2]
    generalize ordN x y = o at *
    rcases hord with ⟨hxy, rfl⟩ | ⟨hxy, ho⟩
    ·rw [if_pos hxy] at hsg
     simp only [Prod.mk.injEq] at hsg
     obtain ⟨rfl, rfl⟩ := hsg
     have cm := fun w' hb => cm2 w' hb (Nat.le_of_lt hxy)
     clear cm1 cm2 hxy
     generalize y - x = r at *
     go_upto_region 7 with (go_at_call 116; refine (co _ (Below.refl _ _)).mono ?_; rintro e w1 ⟨rfl, hb2⟩)
     have kw0 : ∀ i, w1.cell? ⟨w.heap.size, i, none⟩ = _ := fun i => ((bcell hb2).1 _ i (by omega)).trans (kv0 i)
     have kw1 : ∀ i, w1.cell? ⟨w.heap.size + 1, i, none⟩ = _ := fun i => ((bcell hb2).1 _ i (by omega)).trans (kv1 i)
     have HO1 := hV.call hb2
     have HO2 : ExO (w.heap.size + 2) w w1 (w.heap.size + 2) 3 w1 := ⟨ExtN.refl (Nat.le_of_lt HO1.2.2.2) HO1.end, HO1.2⟩
     have hb2s := hb2.size
     have cmq := fun w' (hb : Below w1.heap.size w1 w') => cm w' (below_call hb2 hb)
     have hgr := HO2.2.2.2
     clear fin kv0 kv1 cm co HO1 hb2s hgV hV hbV
     go_region_held3 (fun w' => ExO (w.heap.size + 2) w w1 (w.heap.size + 2) 3 w') (exact ExO.keep) (((go_at_call 115; refine (cmq _ ((below_drew' (Below.refl _ _)))).mono ?_; rintro e w2 ⟨A2, c2, rfl, hc2, hB2, hg2, hb3⟩)))
     have hH := (by assumption : ExO _ _ _ _ _ _)
     have hfr : ∀ g, A2 = some ⟨g, 0, none⟩ → w.heap.size + 2 < g := fun g hg => Nat.lt_of_lt_of_le hgr (hg2 g hg)
     have hB3 := ((hB2.put (p := ⟨w.heap.size + 2, 0, none⟩) hfr (.bool false)).put (p := ⟨w.heap.size + 2, 1, none⟩) hfr (.slice A2 (digs r).length c2)).put (p := ⟨w.heap.size + 2, 2, none⟩) hfr (.int .i64 e)
     obtain ⟨f0, f1, f2⟩ := Own.read3 (n := 0) hH.2
     have hend := hH.end
     have hnew : ∀ g, A2 = some ⟨g, 0, none⟩ → w.heap.size ≤ g := fun g hg => by have := hfr g hg; omega
     clear hH hg2 hfr hB2 hb3 HO2 kw0 kw1 cmq
     go_wp2
     exact bodyPost_ret (v := .agg #[.bool false, .slice A2 (digs r).length c2, .int .i64 e]) (by simp [results, Tryz.results106, go_sem, f0, f1, f2]) rfl ⟨A2, c2, rfl, hc2, hB3, hnew, hend⟩
    ·rw [if_neg (by omega)] at hsg
     simp only [Bool.true_and, Prod.mk.injEq] at hsg
     rw [← lenpos (x - y)] at hsg
     obtain ⟨rfl, rfl⟩ := hsg
     have cm := fun w' hb => cm1 w' hb hxy
     clear cm1 cm2 hxy
     have ho' : decide (o < 0) = false := decide_eq_false (by omega)
     generalize x - y = r at *
     go_wp2_with (first | (go_at_call 116; refine (co _ (Below.refl _ _)).mono ?_; rintro e w1 ⟨rfl, hb1⟩) | (go_at_call 115; refine (cm _ hb1).mono ?_; rintro e w2 ⟨A2, c2, rfl, hc2, hB2, hg2, hb2⟩; have hb3 := below_call hb1 hb2; have kw0 : ∀ i, w2.cell? ⟨w.heap.size, i, none⟩ = _ := fun i => ((bcell hb3).1 _ i (by omega)).trans (kv0 i); have kw1 : ∀ i, w2.cell? ⟨w.heap.size + 1, i, none⟩ = _ := fun i => ((bcell hb3).1 _ i (by omega)).trans (kv1 i); have HO1 := hV.call hb3; have HF := fin w2 (decide (0 < (digs r).length)) A2 r c2 HO1 hB2 (fun g hg => Nat.lt_of_lt_of_le hgV (Nat.le_trans hb1.size (hg2 g hg))) hc2))
     obtain ⟨⟨f0, f1, f2⟩, hfin⟩ := HF
     clear fin HO1
     exact bodyPost_ret (v := .agg #[.bool (decide (0 < (digs r).length)), .slice A2 (digs r).length c2, .int .i64 e]) (by simp [results, Tryz.results106, go_sem, f0, f1, f2]) rfl hfin
   ·rw [if_pos rfl] at hsg
    simp only [Bool.true_and, Prod.mk.injEq] at hsg
    rw [← lenpos (x + y)] at hsg
    obtain ⟨rfl, rfl⟩ := hsg
    clear co cm1 cm2
    generalize x + y = r at *
    go_wp2_with (go_at_call 112; refine (cp _ (Below.refl _ _)).mono ?_; rintro e w1 ⟨A2, c2, rfl, hc2, hB2, hg2, hb2⟩; have kw0 : ∀ i, w1.cell? ⟨w.heap.size, i, none⟩ = _ := fun i => ((bcell hb2).1 _ i (by omega)).trans (kv0 i); have kw1 : ∀ i, w1.cell? ⟨w.heap.size + 1, i, none⟩ = _ := fun i => ((bcell hb2).1 _ i (by omega)).trans (kv1 i); have HO1 := hV.call hb2; have HF := fin w1 (decide (0 < (digs r).length)) A2 r c2 HO1 hB2 (fun g hg => Nat.lt_of_lt_of_le hgV (hg2 g hg)) hc2)
    obtain ⟨⟨f0, f1, f2⟩, hfin⟩ := HF
    clear fin HO1
    exact bodyPost_ret (v := .agg #[.bool (decide (0 < (digs r).length)), .slice A2 (digs r).length c2, .int .i64 e]) (by simp [results, Tryz.results106, go_sem, f0, f1, f2]) rfl hfin
end Go.Proofs.YtmoimcblmmcffaaGreat.NC

namespace Go.Proofs.YtmoimcblmmcffaaGreat.NC
open Go.RowKit Go.Proofs.YtmoimcblmmcffaaGreat.B Go.Proofs.YtmoimcblmmcffaaGreat.N
set_option linter.unusedSimpArgs false
set_option linter.unusedVariables false
theorem parts_facts (s : Bool) (a : Nat) {p : PP} (hp : partsR s a = p) : (p.kind = 0 ∧ p.sig = 0 ∧ p.exp = 0) ∨ (p.kind = 1 ∧ 1 ≤ p.sig ∧ p.sig < 2 * lowN s ∧ leastN s ≤ p.exp ∧ p.exp ≤ mostN s) ∨ (p.kind = 2 ∧ p.sig = 0 ∧ p.exp = 0) ∨ (p.kind = 3 ∧ p.neg = false ∧ p.sig = 0 ∧ p.exp = 0) := by
 have hl : 0 < lowN s := by cases s <;> decide
 have hr : a % lowN s < lowN s := Nat.mod_lt _ hl
 have hf2 : a / lowN s % fieldN s < fieldN s := Nat.mod_lt _ (by cases s <;> decide)
 have hm : (fieldN s : Int) - 3 + leastN s = mostN s := by cases s <;> decide
 have hm2 : leastN s ≤ mostN s := by cases s <;> decide
 subst hp
 unfold partsR
 generalize a / lowN s % fieldN s = f at *
 generalize a % lowN s = r at *
 generalize decide (a / lowN s / fieldN s = 1) = neg
 rcases parts_leaf (s := s) (f := f) (r := r) (neg := neg) rfl with ⟨_, _, h⟩ | ⟨_, _, h⟩ | ⟨_, _, _, h⟩ | ⟨_, _, h2, h⟩ | ⟨h1, h2, h⟩ <;> rw [h]
 ·exact .inr (.inr (.inl ⟨rfl, rfl, rfl⟩))
 ·exact .inr (.inr (.inr ⟨rfl, rfl, rfl, rfl⟩))
 ·exact .inl ⟨rfl, rfl, rfl⟩
 ·exact .inr (.inl ⟨rfl, by simp only; omega, by simp only; omega, by simp only; omega, by simp only; omega⟩)
 ·exact .inr (.inl ⟨rfl, by simp only; omega, by simp only; omega, by simp only; omega, by simp only; omega⟩)
def addP (s : Bool) (p q : PP) : Nat :=
 if p.kind = 3 ∨ q.kind = 3 then nanN s
 else if p.kind = 2 then (if q.kind = 2 ∧ p.neg ≠ q.neg then nanN s else bitsR s ⟨2, p.neg, 0, 0⟩)
 else if q.kind = 2 then bitsR s ⟨2, q.neg, 0, 0⟩
 else if p.kind = 0 ∧ q.kind = 0 then bitsR s ⟨0, p.neg && q.neg, 0, 0⟩
 else roundR s (sumX p.neg (p.sig * 2 ^ (p.exp - min p.exp q.exp).toNat) q.neg (q.sig * 2 ^ (q.exp - min p.exp q.exp).toNat)).1
  (sumX p.neg (p.sig * 2 ^ (p.exp - min p.exp q.exp).toNat) q.neg (q.sig * 2 ^ (q.exp - min p.exp q.exp).toNat)).2 (min p.exp q.exp) false
def addR (s : Bool) (a b : Nat) : Nat := addP s (partsR s a) (partsR s b)
theorem Ext.le {w0 W w1 : World} (h : Ext w0 W w1) : W.heap.size ≤ w1.heap.size := h.2.2.1
theorem Ext.put {w0 W w1 : World} (hw : w0.heap.size ≤ W.heap.size) (h : Ext w0 W w1) {p : Addr} (hp : W.heap.size ≤ p.block) (v : Value) : Ext w0 W (w1.setCell p v) := by
 refine ⟨fun b o hb => ?_, fun b o hb => ?_, by simpa [World.setCell] using h.2.2.1, h.2.2.2.setCell (by omega) v⟩
 ·have hne : p ≠ ⟨b, o, none⟩ := by
   intro he
   rw [he] at hp
   exact absurd hb (Nat.not_lt.2 hp)
  exact (World.cell?_setCell_other w1 p ⟨b, o, none⟩ v hne).trans (h.1 b o hb)
 ·rw [World.frozen?_setCell]; exact h.2.1 b o hb
theorem Big.put3 {w : World} {A : Option Addr} {n g3 : Nat} (h : Big w A n) (hq : ∀ g, A = some ⟨g, 0, none⟩ → g3 < g) (a b c : Value) : Big (((w.setCell ⟨g3, 0, none⟩ a).setCell ⟨g3, 1, none⟩ b).setCell ⟨g3, 2, none⟩ c) A n :=
 ((h.put (p := ⟨g3, 0, none⟩) hq a).put (p := ⟨g3, 1, none⟩) hq b).put (p := ⟨g3, 2, none⟩) hq c
theorem sumX_le {a b : Bool} {x y : Nat} {r : Bool × Nat} (h : sumX a x b y = r) : r.2 ≤ x + y := by
 subst h
 unfold sumX
 by_cases h1 : a = b
 ·rw [if_pos h1]; exact Nat.le_refl _
 ·rw [if_neg h1]
  by_cases h2 : x < y
  ·rw [if_pos h2]; simp only; omega
  ·rw [if_neg h2]; simp only; omega
theorem shift_lt {g d N : Nat} (h : g < 2 ^ 53) (hd : d + 53 ≤ N) : g * 2 ^ d < 2 ^ N := by
 have h1 : g * 2 ^ d < 2 ^ 53 * 2 ^ d := Nat.mul_lt_mul_of_pos_right h (Nat.two_pow_pos _)
 rw [← Nat.pow_add] at h1
 exact Nat.lt_of_lt_of_le h1 (Nat.pow_le_pow_right (by decide) (by omega))
theorem len4 {s : Bool} {m : Nat} (h : m < 2 * lowN s) : (digs m).length ≤ 4 := by
 have h2 : m < 2 ^ 53 := by cases s <;> simp [lowN] at h <;> omega
 have := len_bits h2
 omega
set_option maxRecDepth 100000 in
set_option maxHeartbeats 8000000 in
theorem add_c (s : Bool) (a b : Nat) (w : World) (ha : (a : Int) < topV s) (hb : (b : Int) < topV s) : Calls Tryz.prog 63 #[.int .i64 (tv s), .int .u64 (a : Int), .int .u64 (b : Int)] w (Ret (.int .u64 (addR s a b : Int)) w) := by
 have c1 := fun w => parts_c s a w ha
 have c2 := fun w => parts_c s b w hb
 have cn := nanR_c s
 have hnn : nanV s = (nanN s : Int) := by cases s <;> rfl
 rw [hnn] at cn
 clear ha hb hnn
 obtain ⟨p, hp⟩ : ∃ p, partsR s a = p := ⟨_, rfl⟩
 obtain ⟨q, hq⟩ : ∃ q, partsR s b = q := ⟨_, rfl⟩
 have fp := parts_facts s a hp
 have fq := parts_facts s b hq
 unfold addR
 rw [hp, hq]
 rw [hp] at c1
 rw [hq] at c2
 clear hp hq
 obtain ⟨k1, n1, g1, x1⟩ := p
 obtain ⟨k2, n2, g2, x2⟩ := q
 have ci1 := infR_c s n1
 have ci2 := infR_c s n2
 have cz := zeroR_c s (n1 && n2)
 simp only [PP.v] at c1 c2
 obtain ⟨R, hR⟩ : ∃ R, addP s ⟨k1, n1, g1, x1⟩ ⟨k2, n2, g2, x2⟩ = R := ⟨_, rfl⟩
 rw [hR]
 unfold addP at hR
 simp only at hR fp fq
 have HR := Lib.hid hR
 clear hR
 have hls : leastN s = -149 ∨ leastN s = -1074 := by cases s <;> simp [leastN]
 have hms : mostN s = 104 ∨ mostN s = 971 := by cases s <;> simp [mostN]
 go_enter Tryz.func63, Tryz.ntmps63
 go_upto_region 2 with (first | (go_at_call 21; (with_reducible refine (c1 _).mono ?_); rintro e w1 ⟨rfl, hb1⟩) | (go_at_call 21; (with_reducible refine (c2 _).mono ?_); rintro e w2 ⟨rfl, hb2⟩))
 refine hide2 w (fun W kk0 kk1 s0 s1 HE => ?_) (below_call hb1 hb2)
 generalize w2.heap.size = g at *
 clear hb1 hb2 c1 c2
 have hfin : ¬ ((k1 = 0 ∨ k1 = 1) ∧ (k2 = 0 ∨ k2 = 1) ∧ (k1 = 1 ∨ k2 = 1)) ∨ ((k1 = 0 ∨ k1 = 1) ∧ (k2 = 0 ∨ k2 = 1) ∧ (k1 = 1 ∨ k2 = 1)) := (Classical.em _).symm
 rcases hfin with hfin | hfin
 ·have hR := HR.out
  clear HR hls hms
  rcases fp with ⟨rfl, rfl, rfl⟩ | ⟨rfl, -⟩ | ⟨rfl, rfl, rfl⟩ | ⟨rfl, rfl, rfl, rfl⟩ <;> rcases fq with ⟨rfl, rfl, rfl⟩ | ⟨rfl, -⟩ | ⟨rfl, rfl, rfl⟩ | ⟨rfl, rfl, rfl, rfl⟩ <;> (try (exfalso; exact hfin (by decide))) <;> clear hfin
  all_goals
   simp at hR
  all_goals
   try (cases n1 <;> cases n2 <;> simp at hR)
  all_goals
   subst hR
   go_wp2_with (first | (go_at_call 67; refine (cn _).mono ?_; rintro e w3 ⟨rfl, hb3⟩) | (go_at_call 104; refine (ci1 _).mono ?_; rintro e w3 ⟨rfl, hb3⟩) | (go_at_call 104; refine (ci2 _).mono ?_; rintro e w3 ⟨rfl, hb3⟩) | (go_at_call 105; refine (cz _).mono ?_; rintro e w3 ⟨rfl, hb3⟩))
   go_ret
   exact ⟨rfl, Ext.end (HE.call hb3)⟩
 ·obtain ⟨hk1, hk2, hk3⟩ := hfin
  clear cn ci1 ci2 cz
  have bp : g1 < 2 * lowN s ∧ -5000 ≤ x1 ∧ x1 ≤ 5000 := by
   have : 0 < lowN s := by cases s <;> decide
   rcases fp with ⟨_, rfl, rfl⟩ | ⟨_, _, h, h1, h2⟩ | ⟨h, _⟩ | ⟨h, _⟩ <;> omega
  have bq : g2 < 2 * lowN s ∧ -5000 ≤ x2 ∧ x2 ≤ 5000 := by
   have : 0 < lowN s := by cases s <;> decide
   rcases fq with ⟨_, rfl, rfl⟩ | ⟨_, _, h, h1, h2⟩ | ⟨h, _⟩ | ⟨h, _⟩ <;> omega
  clear fp fq
  have hR : roundR s (sumX n1 (g1 * 2 ^ (x1 - min x1 x2).toNat) n2 (g2 * 2 ^ (x2 - min x1 x2).toNat)).1
   (sumX n1 (g1 * 2 ^ (x1 - min x1 x2).toNat) n2 (g2 * 2 ^ (x2 - min x1 x2).toNat)).2 (min x1 x2) false = R := by
   have h := HR.out
   rw [if_neg (by omega), if_neg (by omega), if_neg (by omega), if_neg (by omega)] at h
   exact h
  clear HR
  have hl1 := len4 bp.1
  have hl2 := len4 bq.1
  have hg1 : g1 ≤ 9223372036854775807 := by have := bp.1; cases s <;> simp [lowN] at this <;> omega
  have hg2 : g2 ≤ 9223372036854775807 := by have := bq.1; cases s <;> simp [lowN] at this <;> omega
  have ce1 := fun k w => exactOf_c k n1 g1 x1 w hg1
  have ce2 := fun k w => exactOf_c k n2 g2 x2 w hg2
  have cs := fun A B ca cb w hA hca hB hcb => sum_c n1 n2 g1 g2 x1 x2 A B ca cb w hA hca hB hcb (by omega) (by omega) bp.2.1 bp.2.2 bq.2.1 bq.2.2
  obtain ⟨sg, hsg⟩ : ∃ sg, sumX n1 (g1 * 2 ^ (x1 - min x1 x2).toNat) n2 (g2 * 2 ^ (x2 - min x1 x2).toNat) = sg := ⟨_, rfl⟩
  obtain ⟨sn, sm⟩ := sg
  have hxe : -5000 ≤ min x1 x2 ∧ min x1 x2 ≤ 5000 := by omega
  have hsl : (digs sm).length ≤ 1000 := by
   have h5 := sumX_le hsg
   have m1 : g1 < 2 ^ 53 := by have := bp.1; cases s <;> simp [lowN] at this <;> omega
   have m2 : g2 < 2 ^ 53 := by have := bq.1; cases s <;> simp [lowN] at this <;> omega
   obtain ⟨N, hN⟩ : ∃ N : Nat, N = 10053 := ⟨_, rfl⟩
   have q1 := shift_lt (N := N) m1 (show (x1 - min x1 x2).toNat + 53 ≤ N by omega)
   have q2 := shift_lt (N := N) m2 (show (x2 - min x1 x2).toNat + 53 ≤ N by omega)
   have h6 : sm < 2 ^ (N + 1) := by
    rw [Nat.pow_succ]
    generalize 2 ^ N = Z at *
    omega
   have := len_bits h6
   omega
  rw [hsg] at hR
  simp only [hsg] at cs
  generalize min x1 x2 = xe at *
  have cr := fun A c w hB hc => round_c s sn sm xe false A c w hB hc hsl (by omega) (by omega)
  rw [hR] at cr
  clear hsl hxe hls hms hg1 hg2 hl1 hl2 bp bq hR hsg
  rcases hk1 with rfl | rfl <;> rcases hk2 with rfl | rfl <;> (try (exfalso; revert hk3; decide)) <;> clear hk3
  all_goals
   have hwW : w.heap.size ≤ W.heap.size := HE.2.2.2.size
   go_upto_region 12 with (fail)
   go_region_held3 (fun w' => Ext w W w') (first | assumption | (with_reducible exact Ext.call (by assumption) hb1) | (with_reducible exact Ext.call (by assumption) hb2) | (with_reducible exact Ext.call (by assumption) hb3) | ((with_reducible refine Ext.drew ?_); assumption) | ((with_reducible refine Ext.alloc ?_ _); assumption) | ((with_reducible refine Ext.drew ?_); (with_reducible refine Ext.alloc ?_ _); assumption) | ((repeat (with_reducible refine NC.Ext.put hwW ?_ (NC.Ext.le (by assumption)) _)); assumption)) ((first | (go_at_call 107; (with_reducible refine (ce1 _ _).mono ?_); rintro e w1 ⟨A1, c1, rfl, hc1, hB1, hn1, hb1⟩; (try (have ho1 : Own w1 W.heap.size 3 := (by first | exact Own.call (own_new W _ _) hb1 | exact Own.call (Own.drew (own_new W _ _)) hb1))); have hE1 : Ext w W w1 := Ext.call (by assumption) hb1) | (go_at_call 107; (with_reducible refine (ce2 _ _).mono ?_); rintro e w2 ⟨A2, c2, rfl, hc2, hB2, hn2, hb2⟩; (try (have ho2 : Own w2 W.heap.size 3 := Own.call ho1 hb2)); (try (have ho2 : Own w2 w1.heap.size 3 := Own.call (own_new w1 _ _) hb2)); have hE2 : Ext w W w2 := Ext.call (by assumption) hb2) | (go_at_call 106; (refine (cs _ _ _ _ _ (by first | exact hB1 | exact hB1.below hb2 | exact hB1.alloc _ | exact (hB1.below hb2).alloc _ | exact (hB1.alloc _).below hb2) hc1 (by first | exact hB2 | exact hB2.below hb1 | exact hB2.alloc _ | exact (hB2.below hb1).alloc _ | exact (hB2.alloc _).below hb1) hc2).mono ?_); rintro e w3 ⟨A3, c3, rfl, hc3, hB3, hn3, hb3⟩; (try (have ho3 : Own w3 W.heap.size 3 := Own.call ho2 hb3)); (try (have ho3 : Own w3 w1.heap.size 3 := Own.call ho2 hb3)); (try (have ho3 : Own w3 w2.heap.size 3 := Own.call (own_new w2 _ _) hb3)); have hE3 : Ext w W w3 := Ext.call (by assumption) hb3)))
   ·go_wp2_with (go_at_call 74; refine (cr _ _ _ (hB3.alloc _) hc3).mono ?_; rintro e w4 ⟨rfl, hb4⟩)
    go_ret
    exact ⟨rfl, Ext.end (Ext.call (by assumption) hb4)⟩
   all_goals
    have hz1 := hb1.size
    have hz2 := hb2.size
    simp only [World.size_alloc, World.size_drew] at hz1 hz2 hn3
    have hr := Own.read3 (n := 0) (((ho3.set ⟨_, 0, none⟩ (.bool sn)).set ⟨_, 1, none⟩ (.slice A3 (digs sm).length c3)).set ⟨_, 2, none⟩ (.int .i64 xe))
    obtain ⟨e0, e1, e2⟩ := hr
    have HZ1 := Lib.hid hz1
    have HZ2 := Lib.hid hz2
    have HN := Lib.hid hn3
    clear hz1 hz2 hn3 hn1 hn2 hb1 hb2 hb3 hB1 hB2
    go_wp2_with (go_at_call 74; refine (cr _ _ _ (Big.put3 hB3 (fun g hg => by have := HN.out g hg; have h1 := HZ1.out; have h2 := HZ2.out; omega) _ _ _) hc3).mono ?_; rintro e w4 ⟨rfl, hb4⟩)
    go_ret
    exact ⟨rfl, Ext.end (Ext.call (by assumption) hb4)⟩
end Go.Proofs.YtmoimcblmmcffaaGreat.NC

namespace Go.Proofs.YtmoimcblmmcffaaGreat.NC
open Go.RowKit Go.Proofs.YtmoimcblmmcffaaGreat.B Go.Proofs.YtmoimcblmmcffaaGreat.N
set_option linter.unusedSimpArgs false
set_option linter.unusedVariables false
def mulP (s : Bool) (p q : PP) : Nat :=
 if p.kind = 3 ∨ q.kind = 3 ∨ (p.kind = 2 ∧ q.kind = 0) ∨ (p.kind = 0 ∧ q.kind = 2) then nanN s
 else if p.kind = 2 ∨ q.kind = 2 then bitsR s ⟨2, p.neg != q.neg, 0, 0⟩
 else roundR s (p.neg != q.neg) (p.sig * q.sig) (p.exp + q.exp) false
def mulR (s : Bool) (a b : Nat) : Nat := mulP s (partsR s a) (partsR s b)
set_option maxRecDepth 100000 in
set_option maxHeartbeats 8000000 in
theorem mul_c (s : Bool) (a b : Nat) (w : World) (ha : (a : Int) < topV s) (hb : (b : Int) < topV s) : Calls Tryz.prog 65 #[.int .i64 (tv s), .int .u64 (a : Int), .int .u64 (b : Int)] w (Ret (.int .u64 (mulR s a b : Int)) w) := by
 have c1 := fun w => parts_c s a w ha
 have c2 := fun w => parts_c s b w hb
 have cn := nanR_c s
 have hnn : nanV s = (nanN s : Int) := by cases s <;> rfl
 rw [hnn] at cn
 clear ha hb hnn
 obtain ⟨p, hp⟩ : ∃ p, partsR s a = p := ⟨_, rfl⟩
 obtain ⟨q, hq⟩ : ∃ q, partsR s b = q := ⟨_, rfl⟩
 have fp := parts_facts s a hp
 have fq := parts_facts s b hq
 unfold mulR
 rw [hp, hq]
 rw [hp] at c1
 rw [hq] at c2
 clear hp hq
 obtain ⟨k1, n1, g1, x1⟩ := p
 obtain ⟨k2, n2, g2, x2⟩ := q
 simp only [PP.v] at c1 c2
 obtain ⟨R, hR⟩ : ∃ R, mulP s ⟨k1, n1, g1, x1⟩ ⟨k2, n2, g2, x2⟩ = R := ⟨_, rfl⟩
 rw [hR]
 unfold mulP at hR
 simp only at hR fp fq
 obtain ⟨n, hn⟩ : ∃ n, (n1 != n2) = n := ⟨_, rfl⟩
 rw [hn] at hR
 have ci := infR_c s n
 have HR := Lib.hid hR
 have HN := Lib.hid hn
 clear hR hn
 have hls : leastN s = -149 ∨ leastN s = -1074 := by cases s <;> simp [leastN]
 have hms : mostN s = 104 ∨ mostN s = 971 := by cases s <;> simp [mostN]
 go_enter Tryz.func65, Tryz.ntmps65
 go_upto_region 2 with (first | (go_at_call 21; (with_reducible refine (c1 _).mono ?_); rintro e w1 ⟨rfl, hb1⟩) | (go_at_call 21; (with_reducible refine (c2 _).mono ?_); rintro e w2 ⟨rfl, hb2⟩))
 refine hide2 w (fun W kk0 kk1 s0 s1 HE => ?_) (below_call hb1 hb2)
 generalize w2.heap.size = g at *
 clear hb1 hb2 c1 c2
 go_cut [9] (fun v9 wc => v9 = .bool n ∧ wc = W)
 case first =>
  clear ci cn
  have hn := HN.out
  cases n1 <;> cases n2 <;> simp at hn <;> subst hn
  all_goals
   go_wp2
   go_meet
   exact ⟨rfl, rfl⟩
 case rest =>
  obtain ⟨rfl, rfl⟩ := hcut
  generalize wc = W at *
  clear HN
  have hfin : ¬ ((k1 = 0 ∨ k1 = 1) ∧ (k2 = 0 ∨ k2 = 1)) ∨ ((k1 = 0 ∨ k1 = 1) ∧ (k2 = 0 ∨ k2 = 1)) := (Classical.em _).symm
  rcases hfin with hfin | hfin
  ·have hR := HR.out
   clear HR hls hms
   rcases fp with ⟨rfl, rfl, rfl⟩ | ⟨rfl, -⟩ | ⟨rfl, rfl, rfl⟩ | ⟨rfl, rfl, rfl, rfl⟩ <;> rcases fq with ⟨rfl, rfl, rfl⟩ | ⟨rfl, -⟩ | ⟨rfl, rfl, rfl⟩ | ⟨rfl, rfl, rfl, rfl⟩ <;> (try (exfalso; exact hfin (by decide))) <;> clear hfin
   all_goals
    simp at hR
   all_goals
    subst hR
    go_wp2_with (first | (go_at_call 67; refine (cn _).mono ?_; rintro e w3 ⟨rfl, hb3⟩) | (go_at_call 104; refine (ci _).mono ?_; rintro e w3 ⟨rfl, hb3⟩))
    go_ret
    exact ⟨rfl, Ext.end (HE.call hb3)⟩
  ·obtain ⟨hk1, hk2⟩ := hfin
   clear cn ci
   have bp : g1 < 2 * lowN s ∧ -2000 ≤ x1 ∧ x1 ≤ 2000 := by
    have : 0 < lowN s := by cases s <;> decide
    rcases fp with ⟨_, rfl, rfl⟩ | ⟨_, _, h, h1, h2⟩ | ⟨h, _⟩ | ⟨h, _⟩ <;> omega
   have bq : g2 < 2 * lowN s ∧ -2000 ≤ x2 ∧ x2 ≤ 2000 := by
    have : 0 < lowN s := by cases s <;> decide
    rcases fq with ⟨_, rfl, rfl⟩ | ⟨_, _, h, h1, h2⟩ | ⟨h, _⟩ | ⟨h, _⟩ <;> omega
   clear fp fq
   have hR : roundR s n (g1 * g2) (x1 + x2) false = R := by
    have h := HR.out
    rw [if_neg (by omega), if_neg (by omega)] at h
    exact h
   clear HR
   have m1 : g1 < 2 ^ 53 := by have := bp.1; cases s <;> simp [lowN] at this <;> omega
   have m2 : g2 < 2 ^ 53 := by have := bq.1; cases s <;> simp [lowN] at this <;> omega
   have cn1 := fun w => nat_c w (n := g1) (by omega)
   have cn2 := fun w => nat_c w (n := g2) (by omega)
   have hl1 : (digs g1).length ≤ Lim := by have := len4 bp.1; unfold Lim; omega
   have hl2 : (digs g2).length ≤ Lim := by have := len4 bq.1; unfold Lim; omega
   have ct := fun w A B c d hA hc hB hd => times_c (A0 := A) (A1 := B) (c0 := c) (c1 := d) w hA hc hB hd hl1 hl2
   have hsl : (digs (g1 * g2)).length ≤ 1000 := by
    have h6 : g1 * g2 < 2 ^ 106 := by
     have h1 : g1 * g2 ≤ 2 ^ 53 * g2 := Nat.mul_le_mul_right _ (Nat.le_of_lt m1)
     have h2 : 2 ^ 53 * g2 < 2 ^ 53 * 2 ^ 53 := Nat.mul_lt_mul_of_pos_left m2 (Nat.two_pow_pos _)
     exact Nat.lt_of_lt_of_le (Nat.lt_of_le_of_lt h1 h2) (by decide)
    have := len_bits h6
    omega
   obtain ⟨x, hx0⟩ : ∃ x, x1 + x2 = x := ⟨_, rfl⟩
   have hx : IntKind.i64.wrap (x1 + x2) = x := by rw [hx0]; exact iwr (by omega) (by omega)
   have cr := fun A c w hB hc => round_c s n (g1 * g2) x false A c w hB hc hsl (by omega) (by omega)
   rw [hx0] at hR
   rw [hR] at cr
   generalize g1 * g2 = m at *
   clear hx0 hsl hls hms m1 m2 bp bq hR hl1 hl2
   have f1 : (k1 == 3) = false ∧ (k1 == 2) = false := by rcases hk1 with rfl | rfl <;> decide
   have f2 : (k2 == 3) = false ∧ (k2 == 2) = false := by rcases hk2 with rfl | rfl <;> decide
   rcases hk1 with rfl | rfl <;> rcases hk2 with rfl | rfl <;> clear f1 f2
   all_goals
    go_upto_region 7 with (fail)
    go_region_held3 (fun w' => Ext w W w') (first | assumption | (with_reducible exact Ext.call (by assumption) hb1) | (with_reducible exact Ext.call (by assumption) hb2) | (with_reducible exact Ext.call (by assumption) hb3) | (with_reducible exact Ext.call (by assumption) hb4) | ((with_reducible refine Ext.drew ?_); assumption)) ((first | (go_at_call 75; (with_reducible refine (cn1 _).mono ?_); rintro e w1 ⟨A1, c1, rfl, hc1, hB1, hb1⟩) | (go_at_call 75; (with_reducible refine (cn2 _).mono ?_); rintro e w2 ⟨A2, c2, rfl, hc2, hB2, hb2⟩) | (go_at_call 108; (refine (ct _ _ _ _ _ (by first | exact hB1 | exact hB1.below hb2) hc1 (by first | exact hB2 | exact hB2.below hb1) hc2).mono ?_); rintro e w3 ⟨A3, c3, rfl, hc3, hB3, hb3⟩) | (go_at_call 74; refine (cr _ _ _ hB3 hc3).mono ?_; rintro e w4 ⟨rfl, hb4⟩)))
    go_wp2
    go_ret
    exact ⟨rfl, Ext.end (by assumption)⟩
end Go.Proofs.YtmoimcblmmcffaaGreat.NC

namespace Go.Proofs.YtmoimcblmmcffaaGreat.NC
open Go.RowKit Go.Proofs.YtmoimcblmmcffaaGreat.B Go.Proofs.YtmoimcblmmcffaaGreat.N
set_option linter.unusedSimpArgs false
set_option linter.unusedVariables false
def divP (s : Bool) (p q : PP) : Nat :=
 if p.kind = 3 ∨ q.kind = 3 ∨ (p.kind = q.kind ∧ p.kind ≠ 1) then nanN s
 else if p.kind = 2 ∨ q.kind = 0 then bitsR s ⟨2, p.neg != q.neg, 0, 0⟩
 else if p.kind = 0 ∨ q.kind = 2 then bitsR s ⟨0, p.neg != q.neg, 0, 0⟩
 else roundR s (p.neg != q.neg) (p.sig * 2 ^ 120 / q.sig) (p.exp - q.exp - 120) (decide (0 < p.sig * 2 ^ 120 % q.sig))
def divR (s : Bool) (a b : Nat) : Nat := divP s (partsR s a) (partsR s b)
end Go.Proofs.YtmoimcblmmcffaaGreat.NC

namespace Fl
open Ieee
set_option linter.unusedSimpArgs false
set_option linter.unusedVariables false
theorem rnd_scale (m k d : Nat) : rnd (m * 2 ^ k) (k + d) = rnd m d := by
 have hK : 0 < 2 ^ k := Nat.two_pow_pos _
 unfold rnd
 have e1 : m * 2 ^ k / 2 ^ (k + d) = m / 2 ^ d := by
  rw [Nat.pow_add, Nat.mul_comm m, Nat.mul_div_mul_left _ _ hK]
 have e2 : m * 2 ^ k % 2 ^ (k + d) = 2 ^ k * (m % 2 ^ d) := by
  rw [Nat.pow_add, Nat.mul_comm m, Nat.mul_mod_mul_left]
 rw [e1, e2, Nat.pow_add]
 generalize 2 ^ k = K at *
 generalize m % 2 ^ d = r
 generalize 2 ^ d = D
 have a1 : (K * D < 2 * (K * r)) ↔ D < 2 * r := by
  rw [show 2 * (K * r) = K * (2 * r) from by rw [Nat.mul_left_comm], Nat.mul_lt_mul_left hK]
 have a2 : (K * D = 2 * (K * r)) ↔ D = 2 * r := by
  rw [show 2 * (K * r) = K * (2 * r) from by rw [Nat.mul_left_comm]]
  exact Nat.mul_right_inj (Nat.pos_iff_ne_zero.1 hK)
 congr 2
 congr 1
 ·exact decide_eq_decide.2 a1
 ·congr 1
  rw [Bool.eq_iff_iff, beq_iff_eq, beq_iff_eq]; exact a2
theorem rnd_exact (m d : Nat) : rnd (m * 2 ^ d) d = m := by
 have := rnd_scale m d 0
 rwa [Nat.add_zero, rnd_zero] at this
theorem log2_mul_pow {m : Nat} (h : m ≠ 0) (k : Nat) : (m * 2 ^ k).log2 = m.log2 + k := by
 have hK : 0 < 2 ^ k := Nat.two_pow_pos _
 have hn : m * 2 ^ k ≠ 0 := by
  intro e; rcases Nat.mul_eq_zero.1 e with e | e <;> omega
 rw [Nat.log2_eq_iff hn]
 have h1 := Nat.log2_self_le h
 have h2 : m < 2 ^ (m.log2 + 1) := Nat.lt_log2_self
 refine ⟨?_, ?_⟩
 ·rw [Nat.pow_add]; exact Nat.mul_le_mul_right _ h1
 ·rw [show m.log2 + k + 1 = (m.log2 + 1) + k from by omega, Nat.pow_add]; exact Nat.mul_lt_mul_of_pos_right h2 hK
def rung (f : Format) (m : Nat) (p : Int) : Nat := if m = 0 then 0 else min ((lastOf f m p - f.leastPlace).toNat * f.binade + keptOf f m p) f.infRung
theorem nearest_rung (f : Format) (neg : Bool) (m : Nat) (p : Int) : f.nearest neg m p = f.word neg (rung f m p) := by
 rw [nearest_eq]; unfold rung
 by_cases h : m = 0
 ·rw [if_pos h, if_pos h]
 ·rw [if_neg h, if_neg h]
theorem rung_zero (f : Format) (p : Int) : rung f 0 p = 0 := rfl
theorem rung_scale (f : Format) (m k : Nat) (p : Int) : rung f (m * 2 ^ k) p = rung f m (p + k) := by
 have hK : 0 < 2 ^ k := Nat.two_pow_pos _
 by_cases h : m = 0
 ·subst h; rw [Nat.zero_mul]; rfl
 have hn : m * 2 ^ k ≠ 0 := by
  intro e; rcases Nat.mul_eq_zero.1 e with e | e <;> omega
 unfold rung
 rw [if_neg h, if_neg hn]
 have hl : lastOf f (m * 2 ^ k) p = lastOf f m (p + k) := by
  unfold lastOf; rw [log2_mul_pow h]; congr 1; omega
 rw [hl]
 congr 2
 unfold keptOf
 rw [hl]
 generalize lastOf f m (p + k) = L
 rw [Nat.shiftLeft_eq, Nat.shiftLeft_eq]
 by_cases c1 : L ≤ p
 ·rw [show (L - p).toNat = 0 from by omega, show (L - (p + k)).toNat = 0 from by omega, rnd_zero, rnd_zero, Nat.mul_assoc, ← Nat.pow_add]
  congr 2; omega
 ·by_cases c2 : L ≤ p + k
  ·rw [show (L - (p + k)).toNat = 0 from by omega, rnd_zero, show (p - L).toNat = 0 from by omega, Nat.pow_zero, Nat.mul_one]
   obtain ⟨u, hu⟩ : ∃ u : Nat, k = u + (L - p).toNat := ⟨k - (L - p).toNat, by omega⟩
   rw [show (p + k - L).toNat = u from by omega]
   rw [show 2 ^ k = 2 ^ u * 2 ^ (L - p).toNat from by rw [← Nat.pow_add, ← hu], ← Nat.mul_assoc, rnd_exact]
  ·rw [show (p - L).toNat = 0 from by omega, show (p + k - L).toNat = 0 from by omega, Nat.pow_zero, Nat.mul_one, Nat.mul_one]
   rw [show (L - p).toNat = k + (L - (p + k)).toNat from by omega, rnd_scale]
theorem rung_same (f : Format) {m n : Nat} {p q b : Int} (h1 : b ≤ p) (h2 : b ≤ q) (h : m * 2 ^ (p - b).toNat = n * 2 ^ (q - b).toNat) : rung f m p = rung f n q := by
 have e1 := rung_scale f m (p - b).toNat b
 have e2 := rung_scale f n (q - b).toNat b
 rw [show b + ((p - b).toNat : Int) = p from by omega] at e1
 rw [show b + ((q - b).toNat : Int) = q from by omega] at e2
 rw [← e1, ← e2, h]
theorem bit_le (b : Bool) : b.toNat ≤ 1 := by cases b <;> decide
theorem sticky_low {n k F : Nat} (h : 2 ^ (F + 1) ≤ sticky n k) : 2 ^ (F + 1 + k) ≤ n := by
 have hP : 0 < 2 ^ (k + 1) := Nat.two_pow_pos _
 unfold sticky at h
 have := bit_le (n % 2 ^ (k + 1) != 0)
 rw [Nat.pow_succ] at h
 have h2 : 2 ^ F ≤ n / 2 ^ (k + 1) := by omega
 have h3 := (Nat.le_div_iff_mul_le hP).1 h2
 rw [← Nat.pow_add] at h3
 rwa [show F + 1 + k = F + (k + 1) from by omega]
theorem log2_sticky {n k F : Nat} (h : 2 ^ (F + 1) ≤ sticky n k) : n.log2 = (sticky n k).log2 + k ∧ F + 1 ≤ (sticky n k).log2 := by
 have h1 := sticky_low h
 have hp : 0 < 2 ^ (F + 1 + k) := Nat.two_pow_pos _
 have hp2 : 0 < 2 ^ (F + 1) := Nat.two_pow_pos _
 have hs0 : sticky n k ≠ 0 := by omega
 have hlg : F + 1 ≤ (sticky n k).log2 := (Nat.le_log2 hs0).2 h
 refine ⟨?_, hlg⟩
 rw [Nat.log2_eq_iff (by omega)]
 have a1 := Nat.log2_self_le hs0
 have a2 : sticky n k < 2 ^ ((sticky n k).log2 + 1) := Nat.lt_log2_self
 generalize (sticky n k).log2 = L at *
 unfold sticky at a1 a2
 have hb := bit_le (n % 2 ^ (k + 1) != 0)
 have hP : 0 < 2 ^ (k + 1) := Nat.two_pow_pos _
 obtain ⟨l, rfl⟩ : ∃ l, L = l + 1 := ⟨L - 1, by omega⟩
 have p1 : 2 ^ (l + 1) = 2 * 2 ^ l := by rw [Nat.pow_succ, Nat.mul_comm]
 have p2 : 2 ^ (l + 1 + 1) = 2 * 2 ^ (l + 1) := by rw [Nat.pow_succ 2 (l + 1), Nat.mul_comm]
 rw [p1] at a1
 rw [p2] at a2
 have b1 : 2 ^ l ≤ n / 2 ^ (k + 1) := by omega
 have b2 : n / 2 ^ (k + 1) < 2 ^ (l + 1) := by omega
 refine ⟨?_, ?_⟩
 ·rw [show l + 1 + k = l + (k + 1) from by omega, Nat.pow_add]
  exact (Nat.le_div_iff_mul_le hP).1 b1
 ·rw [show l + 1 + k + 1 = l + 1 + (k + 1) from by omega, Nat.pow_add 2 (l + 1)]
  exact (Nat.div_lt_iff_lt_mul hP).1 b2
theorem rung_sticky (f : Format) (n k : Nat) (p : Int) (h : 2 ^ (f.fractionBits + 2) ≤ sticky n k) : rung f n p = rung f (sticky n k) (p + k) := by
 obtain ⟨hl, hl2⟩ := log2_sticky h
 have h1 := sticky_low h
 have hp : 0 < 2 ^ (f.fractionBits + 1 + 1 + k) := Nat.two_pow_pos _
 have hp2 : 0 < 2 ^ (f.fractionBits + 2) := Nat.two_pow_pos _
 unfold rung
 rw [if_neg (by omega : ¬ n = 0), if_neg (by omega : ¬ sticky n k = 0)]
 have hL : lastOf f n p = lastOf f (sticky n k) (p + k) := by
  unfold lastOf; rw [hl]; congr 1; omega
 rw [hL]
 congr 2
 unfold keptOf
 rw [hL]
 have hge : p + k + 2 ≤ lastOf f (sticky n k) (p + k) := by
  unfold lastOf
  have : p + k + 2 ≤ p + k + (sticky n k).log2 - f.fractionBits := by omega
  exact Int.le_trans this (Int.le_max_left _ _)
 generalize lastOf f (sticky n k) (p + k) = L at *
 rw [show (p - L).toNat = 0 from by omega, show (p + k - L).toNat = 0 from by omega, Nat.shiftLeft_eq, Nat.shiftLeft_eq, Nat.pow_zero, Nat.mul_one, Nat.mul_one]
 obtain ⟨d, hd⟩ : ∃ d : Nat, (L - (p + k)).toNat = d + 2 := ⟨(L - (p + k)).toNat - 2, by omega⟩
 rw [hd, show (L - p).toNat = k + (d + 2) from by omega]
 exact rnd_sticky n k d
def qs (a b : Nat) : Nat := 2 * (a / b) + (a % b != 0).toNat
theorem toNat_ne (n : Nat) : (n != 0).toNat = if n = 0 then 0 else 1 := by
 by_cases h : n = 0 <;> simp [h]
theorem qs_sticky (a b k : Nat) (hb : 0 < b) : sticky (qs (a * 2 ^ k) b) k = qs a b := by
 have hK : 0 < 2 ^ k := Nat.two_pow_pos _
 unfold sticky qs
 have hQ : a * 2 ^ k / b / 2 ^ k = a / b := by
  rw [Nat.div_div_eq_div_mul, Nat.mul_comm b, Nat.mul_comm a, Nat.mul_div_mul_left _ _ hK]
 rw [show 2 ^ (k + 1) = 2 * 2 ^ k from by rw [Nat.pow_succ, Nat.mul_comm]]
 have hr := bit_le (a * 2 ^ k % b != 0)
 have d1 : (2 * (a * 2 ^ k / b) + (a * 2 ^ k % b != 0).toNat) / (2 * 2 ^ k) = a / b := by
  rw [← Nat.div_div_eq_div_mul, show (2 * (a * 2 ^ k / b) + (a * 2 ^ k % b != 0).toNat) / 2 = a * 2 ^ k / b from by omega, hQ]
 have m1 : (2 * (a * 2 ^ k / b) + (a * 2 ^ k % b != 0).toNat) % (2 * 2 ^ k) = 2 * (a * 2 ^ k / b % 2 ^ k) + (a * 2 ^ k % b != 0).toNat := by
  rw [Nat.mod_mul, show (2 * (a * 2 ^ k / b) + (a * 2 ^ k % b != 0).toNat) / 2 = a * 2 ^ k / b from by omega]; omega
 rw [d1, m1]
 congr 1
 rw [toNat_ne, toNat_ne, toNat_ne]
 have key : (2 * (a * 2 ^ k / b % 2 ^ k) + (if a * 2 ^ k % b = 0 then 0 else 1) = 0) ↔ a % b = 0 := by
  constructor
  ·intro h
   have h1 : a * 2 ^ k % b = 0 := by
    by_cases c : a * 2 ^ k % b = 0
    ·exact c
    ·rw [if_neg c] at h; omega
   have h2 : a * 2 ^ k / b % 2 ^ k = 0 := by rw [if_pos h1] at h; omega
   have e1 := Nat.div_add_mod (a * 2 ^ k) b
   have e2 := Nat.div_add_mod (a * 2 ^ k / b) (2 ^ k)
   rw [h1, Nat.add_zero] at e1
   rw [h2, Nat.add_zero, hQ] at e2
   rw [← e2] at e1
   have e3 : 2 ^ k * (b * (a / b)) = 2 ^ k * a := by rw [← Nat.mul_left_comm, e1, Nat.mul_comm]
   have e4 := Nat.eq_of_mul_eq_mul_left hK e3
   rw [← e4, Nat.mul_mod_right]
  ·intro h
   obtain ⟨c, rfl⟩ := Nat.dvd_of_mod_eq_zero h
   have e1 : b * c * 2 ^ k = b * (c * 2 ^ k) := Nat.mul_assoc ..
   rw [e1, Nat.mul_mod_right, Nat.mul_div_cancel_left _ hb, Nat.mul_mod_left]
   simp
 by_cases c : a % b = 0
 ·rw [if_pos c, if_pos (key.2 c)]
 ·rw [if_neg c, if_neg (fun h => c (key.1 h))]
theorem rung_qs_le (f : Format) (m b k1 k2 : Nat) (p : Int) (hb : 0 < b) (hk : k1 ≤ k2) (h1 : 2 ^ (f.fractionBits + 2) ≤ qs (m * 2 ^ k1) b) :
  rung f (qs (m * 2 ^ k1) b) (p - k1) = rung f (qs (m * 2 ^ k2) b) (p - k2) := by
 obtain ⟨k, rfl⟩ : ∃ k, k2 = k1 + k := ⟨k2 - k1, by omega⟩
 have hs := qs_sticky (m * 2 ^ k1) b k hb
 rw [Nat.mul_assoc, ← Nat.pow_add] at hs
 rw [rung_sticky f (qs (m * 2 ^ (k1 + k)) b) k _ (by rw [hs]; exact h1), hs]
 congr 1; omega
theorem rung_qs (f : Format) (m b k1 k2 : Nat) (p : Int) (hb : 0 < b) (h1 : 2 ^ (f.fractionBits + 2) ≤ qs (m * 2 ^ k1) b) (h2 : 2 ^ (f.fractionBits + 2) ≤ qs (m * 2 ^ k2) b) :
  rung f (qs (m * 2 ^ k1) b) (p - k1) = rung f (qs (m * 2 ^ k2) b) (p - k2) := by
 rcases Nat.le_total k1 k2 with h | h
 ·exact rung_qs_le f m b k1 k2 p hb h h1
 ·exact (rung_qs_le f m b k2 k1 p hb h h2).symm
theorem rung_more (f : Format) (q : Nat) (more : Bool) (e : Int) (h : 2 ^ (f.fractionBits + 1) ≤ q) : rung f (q * 8 + more.toNat) (e - 3) = rung f (2 * q + more.toNat) (e - 1) := by
 have hb := bit_le more
 have hs : sticky (q * 8 + more.toNat) 2 = 2 * q + more.toNat := by
  unfold sticky
  rw [show (2 : Nat) ^ (2 + 1) = 8 from rfl, show (q * 8 + more.toNat) / 8 = q from by omega, show (q * 8 + more.toNat) % 8 = more.toNat from by omega]
  congr 1
  cases more <;> rfl
 have h2 : 2 ^ (f.fractionBits + 2) ≤ sticky (q * 8 + more.toNat) 2 := by
  rw [hs, show f.fractionBits + 2 = f.fractionBits + 1 + 1 from rfl, Nat.pow_succ]; omega
 rw [rung_sticky f _ 2 _ h2, hs]
 congr 1; omega
def IsRt (a q : Nat) : Prop := q * q ≤ a ∧ a < (q + 1) * (q + 1)
def rs (a q : Nat) : Nat := 2 * q + (q * q != a).toNat
theorem sq_lt {a b : Nat} (h : a * a < b * b) : a < b := by
 by_cases c : a < b
 ·exact c
 ·have := Nat.mul_le_mul (Nat.le_of_not_lt c) (Nat.le_of_not_lt c); omega
theorem sq_le {a b : Nat} (h : a * a ≤ b * b) : a ≤ b := by
 by_cases c : a ≤ b
 ·exact c
 ·have c' : b < a := by omega
  have := Nat.mul_lt_mul_of_lt_of_le c' (Nat.le_of_lt c') (by omega : 0 < a)
  omega
theorem isRt_scale {a r R k : Nat} (h : IsRt a r) (H : IsRt (a * 4 ^ k) R) : R / 2 ^ k = r ∧ ((R % 2 ^ k = 0 ∧ R * R = a * 4 ^ k) ↔ r * r = a) := by
 have hK : 0 < 2 ^ k := Nat.two_pow_pos _
 have h4 : (4 : Nat) ^ k = 2 ^ k * 2 ^ k := by rw [← Nat.mul_pow]
 rw [h4] at H ⊢
 generalize 2 ^ k = K at *
 obtain ⟨h1, h2⟩ := h
 obtain ⟨H1, H2⟩ := H
 have a1 : r * K < R + 1 := by
  refine sq_lt (Nat.lt_of_le_of_lt ?_ H2)
  rw [show r * K * (r * K) = r * r * (K * K) from by rw [Nat.mul_mul_mul_comm]]
  exact Nat.mul_le_mul_right _ h1
 have a2 : R < (r + 1) * K := by
  refine sq_lt (Nat.lt_of_le_of_lt H1 ?_)
  rw [show (r + 1) * K * ((r + 1) * K) = (r + 1) * (r + 1) * (K * K) from by rw [Nat.mul_mul_mul_comm]]
  exact Nat.mul_lt_mul_of_pos_right h2 (Nat.mul_pos hK hK)
 have hd : R / K = r := Nat.div_eq_of_lt_le (by omega) a2
 refine ⟨hd, ?_, ?_⟩
 ·rintro ⟨c1, c2⟩
  have e := Nat.div_add_mod R K
  rw [hd, c1, Nat.add_zero] at e
  rw [← e, Nat.mul_mul_mul_comm, Nat.mul_comm a] at c2
  exact Nat.eq_of_mul_eq_mul_left (Nat.mul_pos hK hK) c2
 ·intro c
  have e : R = K * r := by
   have b1 : R * R ≤ (K * r) * (K * r) := by rw [Nat.mul_mul_mul_comm, c, Nat.mul_comm (K * K)]; exact H1
   have := sq_le b1
   rw [Nat.mul_comm] at a1
   omega
  subst e
  refine ⟨Nat.mul_mod_right _ _, ?_⟩
  rw [Nat.mul_mul_mul_comm, c, Nat.mul_comm]
theorem rs_sticky {a r R k : Nat} (h : IsRt a r) (H : IsRt (a * 4 ^ k) R) : sticky (rs (a * 4 ^ k) R) k = rs a r := by
 obtain ⟨hd, hz⟩ := isRt_scale h H
 unfold sticky rs
 rw [show 2 ^ (k + 1) = 2 * 2 ^ k from by rw [Nat.pow_succ, Nat.mul_comm]]
 have hr := bit_le (R * R != a * 4 ^ k)
 rw [← Nat.div_div_eq_div_mul, Nat.mod_mul, show (2 * R + (R * R != a * 4 ^ k).toNat) / 2 = R from by omega, hd]
 congr 1
 have hb : (2 * R + (R * R != a * 4 ^ k).toNat) % 2 = (R * R != a * 4 ^ k).toNat := by omega
 rw [hb]
 by_cases c : r * r = a
 ·obtain ⟨z1, z2⟩ := hz.2 c
  rw [z1, z2, c]; simp
 ·have z : ¬ (R % 2 ^ k = 0 ∧ R * R = a * 4 ^ k) := fun h => c (hz.1 h)
  have e1 : (r * r != a) = true := by simpa using c
  rw [e1]
  by_cases c2 : R * R = a * 4 ^ k
  ·have c3 : R % 2 ^ k ≠ 0 := fun h => z ⟨h, c2⟩
   have : ((R * R != a * 4 ^ k).toNat + 2 * (R % 2 ^ k) != 0) = true := by rw [bne_iff_ne]; omega
   rw [this]
  ·have : (R * R != a * 4 ^ k) = true := by simpa using c2
   rw [this]; simp
theorem rung_rs_le (f : Format) (a k1 k2 r1 r2 : Nat) (p : Int) (hk : k1 ≤ k2) (h1 : IsRt (a * 4 ^ k1) r1) (h2 : IsRt (a * 4 ^ k2) r2) (hb : 2 ^ (f.fractionBits + 2) ≤ rs (a * 4 ^ k1) r1) :
  rung f (rs (a * 4 ^ k1) r1) (p - k1) = rung f (rs (a * 4 ^ k2) r2) (p - k2) := by
 obtain ⟨k, rfl⟩ : ∃ k, k2 = k1 + k := ⟨k2 - k1, by omega⟩
 rw [Nat.pow_add 4, ← Nat.mul_assoc] at h2
 have hs := rs_sticky h1 h2
 rw [Nat.pow_add 4, ← Nat.mul_assoc, rung_sticky f (rs (a * 4 ^ k1 * 4 ^ k) r2) k _ (by rw [hs]; exact hb), hs]
 congr 1; omega
theorem rung_rs (f : Format) (a k1 k2 r1 r2 : Nat) (p : Int) (h1 : IsRt (a * 4 ^ k1) r1) (h2 : IsRt (a * 4 ^ k2) r2) (hb : 2 ^ (f.fractionBits + 2) ≤ rs (a * 4 ^ k1) r1) (hb2 : 2 ^ (f.fractionBits + 2) ≤ rs (a * 4 ^ k2) r2) :
  rung f (rs (a * 4 ^ k1) r1) (p - k1) = rung f (rs (a * 4 ^ k2) r2) (p - k2) := by
 rcases Nat.le_total k1 k2 with h | h
 ·exact rung_rs_le f a k1 k2 r1 r2 p h h1 h2 hb
 ·exact (rung_rs_le f a k2 k1 r2 r1 p h h2 h1 hb2).symm
theorem rootFrom_is (n : Nat) : ∀ (t r : Nat), r * r ≤ n → n < (r + 2 ^ t) * (r + 2 ^ t) → IsRt n (Datum.rootFrom n t r)
 | 0, r, h1, h2 => ⟨h1, h2⟩
 | t + 1, r, h1, h2 => by
  unfold Datum.rootFrom
  simp only [Nat.shiftLeft_eq, Nat.one_mul]
  by_cases c : (r + 2 ^ t) * (r + 2 ^ t) ≤ n
  ·rw [if_pos c]
   exact rootFrom_is n t _ c (by rw [Nat.add_assoc, show 2 ^ t + 2 ^ t = 2 ^ (t + 1) from by rw [Nat.pow_succ]; omega]; exact h2)
  ·rw [if_neg c]
   exact rootFrom_is n t r h1 (by omega)
theorem root_is (n : Nat) : IsRt n (Datum.rootFrom n (n.log2 / 2 + 1) 0) := by
 refine rootFrom_is n _ 0 (Nat.zero_le _) ?_
 rw [Nat.zero_add, ← Nat.pow_add]
 have : n < 2 ^ (n.log2 + 1) := Nat.lt_log2_self
 exact Nat.lt_of_lt_of_le this (Nat.pow_le_pow_right (by decide) (by omega))
end Fl

namespace Fl
open Ieee
set_option linter.unusedSimpArgs false
set_option linter.unusedVariables false
theorem rnd_parts (Q c d : Nat) (hc : c < 2 ^ d) : rnd (Q * 2 ^ d + c) d = if 2 * c < 2 ^ d then Q else if 2 * c = 2 ^ d then Q + Q % 2 else Q + 1 := by
 have hF : 0 < 2 ^ d := Nat.two_pow_pos _
 unfold rnd
 rw [Nat.add_comm (Q * 2 ^ d), Nat.add_mul_div_right _ _ hF, Nat.div_eq_of_lt hc, Nat.zero_add, Nat.add_mul_mod_self_right, Nat.mod_eq_of_lt hc]
 generalize 2 ^ d = F at *
 by_cases h1 : 2 * c < F
 ·rw [if_pos h1, decide_eq_false (by omega : ¬ F < 2 * c), show (F == 2 * c) = false from by simp; omega]
  simp
 ·rw [if_neg h1]
  by_cases h2 : 2 * c = F
  ·rw [if_pos h2, decide_eq_false (by omega : ¬ F < 2 * c), show (F == 2 * c) = true from by simp [h2]]
   rcases Nat.mod_two_eq_zero_or_one Q with h | h <;> simp [h]
  ·rw [if_neg h2, decide_eq_true (by omega : F < 2 * c)]
   simp
theorem rnd_split (n d : Nat) : n = n / 2 ^ d * 2 ^ d + n % 2 ^ d ∧ n % 2 ^ d < 2 ^ d := ⟨by rw [Nat.mul_comm]; exact (Nat.div_add_mod _ _).symm, Nat.mod_lt _ (Nat.two_pow_pos _)⟩
theorem rnd_twice (S D e : Nat) (he : 0 < e) (h : rnd S D % 2 ^ e ≠ 2 ^ (e - 1) ∨ S = rnd S D * 2 ^ D) : rnd (rnd S D) e = rnd S (D + e) := by
 by_cases hx : S = rnd S D * 2 ^ D
 ·conv => rhs; rw [hx]
  exact (rnd_scale _ _ _).symm
 have h' : rnd S D % 2 ^ e ≠ 2 ^ (e - 1) := h.elim id (fun h => absurd h hx)
 clear h
 obtain ⟨a1, a2⟩ := rnd_split S D
 obtain ⟨b1, b2⟩ := rnd_split (S / 2 ^ D) e
 have hT := rnd_parts (S / 2 ^ D) (S % 2 ^ D) D a2
 rw [← a1] at hT
 generalize hr : S % 2 ^ D = r at *
 generalize hs : S / 2 ^ D = s at *
 generalize hQ : s / 2 ^ e = Q at *
 generalize hc : s % 2 ^ e = c at *
 have hS : S = Q * 2 ^ (D + e) + (c * 2 ^ D + r) := by
  rw [a1, b1, Nat.pow_add, Nat.add_mul, Nat.mul_assoc, Nat.mul_comm (2 ^ e), Nat.add_assoc]
 have hD : 0 < 2 ^ D := Nat.two_pow_pos _
 have hE : 2 ^ e = 2 * 2 ^ (e - 1) := by
  obtain ⟨k, rfl⟩ : ∃ k, e = k + 1 := ⟨e - 1, by omega⟩
  rw [Nat.pow_succ, Nat.add_sub_cancel, Nat.mul_comm]
 have hcr : c * 2 ^ D + r < 2 ^ (D + e) := by
  have : (c + 1) * 2 ^ D ≤ 2 ^ e * 2 ^ D := Nat.mul_le_mul_right _ b2
  rw [Nat.add_mul, Nat.one_mul] at this
  rw [Nat.pow_add, Nat.mul_comm (2 ^ D)]; omega
 have hP : 2 ^ (D + e) = 2 * (2 ^ (e - 1) * 2 ^ D) := by rw [Nat.pow_add, hE, Nat.mul_comm (2 ^ D), Nat.mul_assoc]
 have hR := rnd_parts Q _ _ hcr
 rw [← hS, hP] at hR
 rw [hR]
 clear hR
 generalize rnd S D = T at *
 obtain ⟨u, hu, hu1⟩ : ∃ u, T = s + u ∧ ((u = 0 ∧ (0 < c ∨ True)) ∨ (u = 1 ∧ 0 < r)) := by
  by_cases c1 : 2 * r < 2 ^ D
  ·rw [if_pos c1] at hT; exact ⟨0, by omega, .inl ⟨rfl, .inr trivial⟩⟩
  ·rw [if_neg c1] at hT
   by_cases c2 : 2 * r = 2 ^ D
   ·rw [if_pos c2] at hT
    rcases Nat.mod_two_eq_zero_or_one s with h | h
    ·exact ⟨0, by omega, .inl ⟨rfl, .inr trivial⟩⟩
    ·exact ⟨1, by omega, .inr ⟨rfl, by omega⟩⟩
   ·rw [if_neg c2] at hT; exact ⟨1, by omega, .inr ⟨rfl, by omega⟩⟩
 have hTu : T = Q * 2 ^ e + (c + u) := by omega
 generalize 2 ^ (e - 1) = H at *
 generalize 2 ^ D = P at *
 by_cases k1 : c + u < H
 ·have hlt : (c + 1) * P ≤ H * P := Nat.mul_le_mul_right _ (by omega)
  rw [Nat.add_mul, Nat.one_mul] at hlt
  rw [if_pos (by omega), hTu, rnd_parts _ _ _ (by omega), if_pos (by omega)]
 ·by_cases k2 : c + u = H
  ·exfalso
   apply h'
   rw [hTu, Nat.add_comm, Nat.add_mul_mod_self_right, Nat.mod_eq_of_lt (by omega), k2]
  ·have hgt : H * P < c * P + r := by
    rcases hu1 with ⟨hu0, -⟩ | ⟨hu0, hr0⟩
    ·have : (H + 1) * P ≤ c * P := Nat.mul_le_mul_right _ (by omega)
     rw [Nat.add_mul, Nat.one_mul] at this; omega
    ·have : H * P ≤ c * P := Nat.mul_le_mul_right _ (by omega)
     omega
   rw [if_neg (by omega), if_neg (by omega)]
   by_cases k3 : c + u < 2 ^ e
   ·rw [hTu, rnd_parts _ _ _ k3, if_neg (by omega), if_neg (by omega)]
   ·have : c + u = 2 ^ e := by rcases hu1 with ⟨hu0, -⟩ | ⟨hu0, -⟩ <;> omega
    rw [hTu, this, show Q * 2 ^ e + 2 ^ e = (Q + 1) * 2 ^ e from by rw [Nat.add_mul, Nat.one_mul], rnd_exact]
theorem sq_gap (y k : Nat) : (y + k) * (y + k) = y * y + k * (k + 2 * y) := by
 have e : k * (2 * y) = 2 * (y * k) := by rw [Nat.mul_left_comm, Nat.mul_comm k]
 simp only [Nat.add_mul, Nat.mul_add, Nat.mul_comm k y, e]; omega
theorem near_middle (P M S X t c : Nat) (hP : 2 ≤ P) (hM : M = t * (268435456 * P)) (hX : X = c * (268435456 * P * (268435456 * P))) (hd : S ≤ M → 2 * (M - S) ≤ P) (hd2 : M ≤ S → 2 * (S - M) ≤ P) (hS : S < 9007199254740992 * P)
  (h : S * S = X ∨ (1 ≤ S ∧ (S - 1) * (S - 1) < X ∧ X < (S + 1) * (S + 1))) : S = M := by
 have hMM : M * M = t * t * (268435456 * P * (268435456 * P)) := by rw [hM, Nat.mul_mul_mul_comm]
 have hU : 268435456 * P * (268435456 * P) = 72057594037927936 * (P * P) := by rw [Nat.mul_mul_mul_comm]
 have hPP : 0 < P * P := Nat.mul_pos (by omega) (by omega)
 rcases Nat.lt_trichotomy X (M * M) with hl | hl | hl
 ·exfalso
  have hc : X + 268435456 * P * (268435456 * P) ≤ M * M := by
   rw [hX, hMM] at *
   have : c < t * t := Nat.lt_of_mul_lt_mul_right hl
   have := Nat.mul_le_mul_right (268435456 * P * (268435456 * P)) (Nat.succ_le_of_lt this)
   rw [Nat.succ_mul] at this
   exact this
  have hlow : (S - 1) * (S - 1) ≤ X := by
   rcases h with h | ⟨_, h, _⟩
   ·rw [← h]; exact Nat.mul_le_mul (by omega) (by omega)
   ·omega
  have hlt : S - 1 < M := sq_lt (by omega)
  obtain ⟨g, hg⟩ : ∃ g, M = (S - 1) + g := ⟨M - (S - 1), by omega⟩
  have hgP : g ≤ P := by
   by_cases c : S ≤ M
   ·have := hd c; omega
   ·have := hd2 (by omega); omega
  have e := sq_gap (S - 1) g
  rw [← hg] at e
  have hb : g * (g + 2 * (S - 1)) ≤ P * (36028797018963968 * P) := Nat.mul_le_mul hgP (by omega)
  rw [Nat.mul_left_comm] at hb
  omega
 ·rcases h with h | ⟨h1, h2, h3⟩
  ·have a := sq_le (Nat.le_of_eq (h.trans hl)); have b := sq_le (Nat.le_of_eq (h.trans hl).symm); omega
  ·rw [hl] at h2 h3
   have a := sq_lt h2; have b := sq_lt h3; omega
 ·exfalso
  have hc : M * M + 268435456 * P * (268435456 * P) ≤ X := by
   rw [hX, hMM] at *
   have : t * t < c := Nat.lt_of_mul_lt_mul_right hl
   have := Nat.mul_le_mul_right (268435456 * P * (268435456 * P)) (Nat.succ_le_of_lt this)
   rw [Nat.succ_mul] at this
   exact this
  have hup : X ≤ (S + 1) * (S + 1) := by
   rcases h with h | ⟨_, _, h⟩
   ·rw [← h]; exact Nat.mul_le_mul (by omega) (by omega)
   ·omega
  have hlt : M < S + 1 := sq_lt (by omega)
  obtain ⟨g, hg⟩ : ∃ g, S + 1 = M + g := ⟨S + 1 - M, by omega⟩
  have hgP : g ≤ P := by have := hd2 (by omega); omega
  have e := sq_gap M g
  rw [← hg] at e
  have hb : g * (g + 2 * M) ≤ P * (36028797018963968 * P) := Nat.mul_le_mul hgP (by omega)
  rw [Nat.mul_left_comm] at hb
  omega
theorem root_middle (a K R D : Nat) (h : IsRt (a * 4 ^ K) R) (hK : D + 27 ≤ K) (hD : 1 ≤ D) (hS : rs (a * 4 ^ K) R < 2 ^ (D + 53)) :
  rnd (rs (a * 4 ^ K) R) D % 2 ^ 29 ≠ 2 ^ (29 - 1) ∨ rs (a * 4 ^ K) R = rnd (rs (a * 4 ^ K) R) D * 2 ^ D := by
 by_cases hm : rnd (rs (a * 4 ^ K) R) D % 2 ^ 29 = 2 ^ (29 - 1)
 ·right
  obtain ⟨s1, s2⟩ := rnd_split (rs (a * 4 ^ K) R) D
  have hT := rnd_parts (rs (a * 4 ^ K) R / 2 ^ D) (rs (a * 4 ^ K) R % 2 ^ D) D s2
  rw [← s1] at hT
  have hX : 4 * (a * 4 ^ K) = 4 * a * 4 ^ (K - (28 + D)) * (268435456 * 2 ^ D * (268435456 * 2 ^ D)) ∨ K = D + 27 := by
   by_cases c : K = D + 27
   ·exact .inr c
   ·left
    have e1 : 268435456 * 2 ^ D * (268435456 * 2 ^ D) = 4 ^ (28 + D) := by
     rw [show (268435456 : Nat) = 2 ^ 28 from rfl, ← Nat.pow_add, ← Nat.mul_pow]
    rw [e1, Nat.mul_assoc (4 * a), ← Nat.pow_add, show K - (28 + D) + (28 + D) = K from by omega, Nat.mul_assoc]
  have hX' : ∃ c, 4 * (a * 4 ^ K) = c * (268435456 * 2 ^ D * (268435456 * 2 ^ D)) := by
   rcases hX with h | h
   ·exact ⟨_, h⟩
   ·refine ⟨a, ?_⟩
    have e1 : 268435456 * 2 ^ D * (268435456 * 2 ^ D) = 4 ^ (28 + D) := by
     rw [show (268435456 : Nat) = 2 ^ 28 from rfl, ← Nat.pow_add, ← Nat.mul_pow]
    rw [e1, h, show 28 + D = D + 27 + 1 from by omega, Nat.pow_succ 4 (D + 27), Nat.mul_left_comm, Nat.mul_comm 4]
  clear hX
  obtain ⟨c, hX⟩ := hX'
  have hrt : rs (a * 4 ^ K) R * rs (a * 4 ^ K) R = 4 * (a * 4 ^ K) ∨ (1 ≤ rs (a * 4 ^ K) R ∧ (rs (a * 4 ^ K) R - 1) * (rs (a * 4 ^ K) R - 1) < 4 * (a * 4 ^ K) ∧ 4 * (a * 4 ^ K) < (rs (a * 4 ^ K) R + 1) * (rs (a * 4 ^ K) R + 1)) := by
   obtain ⟨h1, h2⟩ := h
   unfold rs
   generalize a * 4 ^ K = A at *
   by_cases e : R * R = A
   ·left
    rw [show (R * R != A) = false from by simpa using e]
    simp only [Bool.toNat_false, Nat.add_zero]
    rw [Nat.mul_mul_mul_comm, e]
   ·right
    rw [show (R * R != A) = true from by simpa using e]
    simp only [Bool.toNat_true]
    refine ⟨by omega, ?_, ?_⟩
    ·rw [Nat.add_sub_cancel, Nat.mul_mul_mul_comm]; omega
    ·rw [show 2 * R + 1 + 1 = 2 * (R + 1) from by omega, Nat.mul_mul_mul_comm]; omega
  have hpow : 2 ^ (D + 53) = 9007199254740992 * 2 ^ D := by rw [Nat.pow_add, Nat.mul_comm]
  rw [hpow] at hS
  have hP : 2 ≤ 2 ^ D := Nat.pow_le_pow_right (n := 2) (i := 1) (by decide) hD
  generalize rnd (rs (a * 4 ^ K) R) D = T at *
  generalize rs (a * 4 ^ K) R / 2 ^ D = s at *
  generalize rs (a * 4 ^ K) R % 2 ^ D = r at *
  generalize rs (a * 4 ^ K) R = S at *
  generalize 4 * (a * 4 ^ K) = X at *
  generalize 2 ^ D = P at *
  have ht : ∃ t, T = t * 268435456 := ⟨T / 268435456, by
   have e := Nat.div_add_mod T (2 ^ 29)
   rw [hm] at e
   omega⟩
  obtain ⟨t, ht⟩ := ht
  have hsP : (s + 1) * P = s * P + P := by rw [Nat.add_mul, Nat.one_mul]
  refine near_middle P (T * P) S X t c hP (by rw [ht, Nat.mul_assoc]) hX ?_ ?_ hS hrt
  ·intro hle
   by_cases c1 : 2 * r < P
   ·rw [if_pos c1] at hT; subst hT; omega
   ·rw [if_neg c1] at hT
    by_cases c2 : 2 * r = P
    ·rw [if_pos c2] at hT
     rcases Nat.mod_two_eq_zero_or_one s with h | h <;> rw [h] at hT <;> subst hT <;> (try simp only [Nat.add_zero] at *) <;> omega
    ·rw [if_neg c2] at hT; subst hT; omega
  ·intro hle
   by_cases c1 : 2 * r < P
   ·rw [if_pos c1] at hT; subst hT; omega
   ·rw [if_neg c1] at hT
    by_cases c2 : 2 * r = P
    ·rw [if_pos c2] at hT
     rcases Nat.mod_two_eq_zero_or_one s with h | h <;> rw [h] at hT <;> subst hT <;> (try simp only [Nat.add_zero] at *) <;> omega
    ·rw [if_neg c2] at hT; subst hT; omega
 ·exact .inl hm
end Fl

namespace Fl
open Ieee
set_option linter.unusedSimpArgs false
set_option linter.unusedVariables false
theorem rnd_mono {m n : Nat} (h : m ≤ n) (d : Nat) : rnd m d ≤ rnd n d := by
 have hF : 0 < 2 ^ d := Nat.two_pow_pos _
 unfold rnd
 have h1 : m / 2 ^ d ≤ n / 2 ^ d := Nat.div_le_div_right h
 have e1 := Nat.div_add_mod m (2 ^ d)
 have e2 := Nat.div_add_mod n (2 ^ d)
 have l1 := Nat.mod_lt m hF
 have l2 := Nat.mod_lt n hF
 generalize 2 ^ d = F at *
 generalize m / F = a at *
 generalize n / F = b at *
 generalize m % F = r at *
 generalize n % F = t at *
 rcases Nat.lt_or_eq_of_le h1 with h2 | h2
 ·have := bit_le (decide (F < 2 * r) || F == 2 * r && a % 2 == 1)
  omega
 ·subst h2
  have hrt : r ≤ t := by omega
  refine Nat.add_le_add_left ?_ _
  by_cases c1 : F < 2 * r
  ·rw [decide_eq_true c1, decide_eq_true (by omega : F < 2 * t)]; simp
  ·by_cases c2 : F = 2 * r
   ·by_cases c3 : F < 2 * t
    ·rw [decide_eq_true c3]; exact bit_le _
    ·rw [show t = r from by omega]; exact Nat.le_refl _
   ·rw [decide_eq_false c1, show (F == 2 * r) = false from by simpa using c2]
    simp
theorem rnd_le {m d B : Nat} (h : m ≤ B * 2 ^ d) : rnd m d ≤ B := by
 have := rnd_mono h d
 rwa [rnd_exact] at this
theorem le_rnd {m d B : Nat} (h : B * 2 ^ d ≤ m) : B ≤ rnd m d := by
 have := rnd_mono h d
 rwa [rnd_exact] at this
theorem kept_range (f : Format) {m : Nat} (hm : m ≠ 0) (p : Int) : keptOf f m p ≤ 2 * f.binade ∧ (f.leastPlace < lastOf f m p → f.binade ≤ keptOf f m p) := by
 have h1 := Nat.log2_self_le hm
 have h2 : m < 2 ^ (m.log2 + 1) := Nat.lt_log2_self
 unfold keptOf
 have hL : p + m.log2 - f.fractionBits ≤ lastOf f m p := Int.le_max_left _ _
 have hL2 : f.leastPlace < lastOf f m p → lastOf f m p = p + m.log2 - f.fractionBits := by unfold lastOf; omega
 generalize lastOf f m p = L at *
 generalize m.log2 = l at *
 unfold Format.binade
 rw [Nat.shiftLeft_eq]
 rw [show 2 * 2 ^ f.fractionBits = 2 ^ (f.fractionBits + 1) from by rw [Nat.pow_succ, Nat.mul_comm]]
 constructor
 ·refine rnd_le ?_
  have a1 : m * 2 ^ (p - L).toNat ≤ 2 ^ (l + 1) * 2 ^ (p - L).toNat := Nat.mul_le_mul_right _ (by omega)
  refine Nat.le_trans a1 ?_
  rw [← Nat.pow_add, ← Nat.pow_add]
  exact Nat.pow_le_pow_right (by decide) (by omega)
 ·intro hlt
  have e := hL2 hlt
  refine le_rnd ?_
  have a1 : 2 ^ l * 2 ^ (p - L).toNat ≤ m * 2 ^ (p - L).toNat := Nat.mul_le_mul_right _ h1
  refine Nat.le_trans ?_ a1
  rw [← Nat.pow_add, ← Nat.pow_add]
  exact Nat.pow_le_pow_right (by decide) (by omega)
theorem last_ge (f : Format) (m : Nat) (p : Int) : f.leastPlace ≤ lastOf f m p := Int.le_max_right _ _
theorem rung_le (f : Format) (m : Nat) (p : Int) : rung f m p ≤ f.infRung := by
 unfold rung
 by_cases h : m = 0
 ·rw [if_pos h]; exact Nat.zero_le _
 ·rw [if_neg h]; exact Nat.min_le_right _ _
def V (f : Format) (r : Nat) : Nat := if r < f.binade then r else (f.binade + r % f.binade) * 2 ^ (r / f.binade - 1)
theorem V_succ (f : Format) (r : Nat) : V f r < V f (r + 1) := by
 have hb := binade_pos f
 unfold V
 by_cases h1 : r + 1 < f.binade
 ·rw [if_pos h1, if_pos (by omega)]; omega
 ·rw [if_neg h1]
  by_cases h2 : r < f.binade
  ·rw [if_pos h2]
   have e : r + 1 = f.binade := by omega
   rw [e, Nat.mod_self, Nat.div_self hb]; simp; omega
  ·rw [if_neg h2]
   have q1 : 1 ≤ r / f.binade := (Nat.le_div_iff_mul_le hb).2 (by omega)
   have e1 := Nat.div_add_mod r f.binade
   have l1 := Nat.mod_lt r hb
   obtain ⟨q, hq⟩ : ∃ q, r / f.binade = q + 1 := ⟨r / f.binade - 1, by omega⟩
   generalize r % f.binade = t at *
   rw [hq] at e1 ⊢
   by_cases h3 : t + 1 = f.binade
   ·have e2 : r + 1 = f.binade * (q + 2) := by rw [Nat.mul_add] at e1 ⊢; omega
    rw [e2, Nat.mul_mod_right, Nat.mul_div_cancel_left _ hb]
    simp only [Nat.add_sub_cancel, Nat.add_zero]
    rw [show q + 2 - 1 = q + 1 from rfl, Nat.pow_succ, Nat.mul_comm (2 ^ q), ← Nat.mul_assoc]
    exact Nat.mul_lt_mul_of_pos_right (by omega) (Nat.two_pow_pos _)
   ·have e2 : r + 1 = f.binade * (q + 1) + (t + 1) := by omega
    have d1 : (r + 1) / f.binade = q + 1 := by rw [e2, Nat.mul_add_div hb, Nat.div_eq_of_lt (by omega)]
    have m1 : (r + 1) % f.binade = t + 1 := by rw [e2, Nat.mul_add_mod, Nat.mod_eq_of_lt (by omega)]
    rw [d1, m1]
    exact Nat.mul_lt_mul_of_pos_right (by omega) (Nat.two_pow_pos _)
theorem V_lt (f : Format) {r t : Nat} (h : r < t) : V f r < V f t := by
 obtain ⟨k, rfl⟩ : ∃ k, t = r + 1 + k := ⟨t - r - 1, by omega⟩
 induction k with
 | zero => exact V_succ f r
 | succ k ih => exact Nat.lt_trans (ih (by omega)) (V_succ f _)
theorem V_zero (f : Format) : V f 0 = 0 := by unfold V; rw [if_pos (binade_pos f)]
theorem V_cmp (f : Format) (r t : Nat) : (V f r < V f t ↔ r < t) ∧ (V f r = V f t ↔ r = t) := by
 rcases Nat.lt_trichotomy r t with h | h | h
 ·have := V_lt f h; constructor <;> constructor <;> intro <;> omega
 ·subst h; constructor <;> constructor <;> intro <;> omega
 ·have := V_lt f h; constructor <;> constructor <;> intro <;> omega
theorem read_number (f : Format) (neg : Bool) (r : Nat) (h : r < f.infRung) : ∃ m p, f.read (f.word neg r) = .number neg m p ∧ f.leastPlace ≤ p ∧ m * 2 ^ (p - f.leastPlace).toNat = V f r ∧ (m = 0 ↔ r = 0) ∧ rung f m p = r := by
 have hb := binade_pos f
 have h1 := f.infRung_add_binade
 by_cases c : r < f.binade
 ·refine ⟨r, f.leastPlace, read_word_sub f neg r c, Int.le_refl _, ?_, Iff.rfl, ?_⟩
  ·unfold V; rw [if_pos c, Int.sub_self]; simp
  ·unfold rung
   by_cases h0 : r = 0
   ·rw [if_pos h0, h0]
   ·rw [if_neg h0]
    have hl : lastOf f r f.leastPlace = f.leastPlace := by
     unfold lastOf
     have : r.log2 < f.fractionBits := (Nat.log2_lt h0).2 c
     omega
    have hk : keptOf f r f.leastPlace = r := by
     unfold keptOf; rw [hl, Int.sub_self]; exact rnd_zero r
    rw [hl, hk, Int.sub_self]
    simp; omega
 ·have q1 : 1 ≤ r / f.binade := (Nat.le_div_iff_mul_le hb).2 (by omega)
  have e1 := Nat.div_add_mod r f.binade
  have l1 := Nat.mod_lt r hb
  obtain ⟨q, hq⟩ : ∃ q, r / f.binade = q + 1 := ⟨r / f.binade - 1, by omega⟩
  have e2 : r = q * f.binade + (f.binade + r % f.binade) := by rw [hq, Nat.mul_add, Nat.mul_comm] at e1; omega
  refine ⟨f.binade + r % f.binade, f.leastPlace + q, ?_, by omega, ?_, by omega, ?_⟩
  ·have := read_word_normal f neg q (f.binade + r % f.binade) (by omega) (by omega) (by omega)
   rwa [← e2] at this
  ·unfold V
   rw [if_neg c, hq, show (f.leastPlace + q - f.leastPlace).toNat = q from by omega, Nat.add_sub_cancel]
  ·unfold rung
   rw [if_neg (by omega)]
   have hlg : (f.binade + r % f.binade).log2 = f.fractionBits := by
    rw [Nat.log2_eq_iff (by omega)]
    have : 2 ^ (f.fractionBits + 1) = 2 * f.binade := by unfold Format.binade; rw [Nat.pow_succ, Nat.mul_comm]
    refine ⟨?_, by omega⟩
    show f.binade ≤ _
    omega
   have hl : lastOf f (f.binade + r % f.binade) (f.leastPlace + q) = f.leastPlace + q := by
    unfold lastOf; rw [hlg]; omega
   have hk : keptOf f (f.binade + r % f.binade) (f.leastPlace + q) = f.binade + r % f.binade := by
    unfold keptOf; rw [hl, Int.sub_self]; exact rnd_zero _
   rw [hl, hk, show (f.leastPlace + q - f.leastPlace).toNat = q from by omega, ← e2]
   omega
theorem read_rung (f : Format) (neg : Bool) {m : Nat} (hm : m ≠ 0) (p : Int) (h : rung f m p < f.infRung) : Same (f.read (f.word neg (rung f m p))) (.number neg (keptOf f m p) (lastOf f m p)) := by
 have hb := binade_pos f
 obtain ⟨a1, a2⟩ := kept_range f hm p
 have c1 := last_ge f m p
 unfold rung at h ⊢
 rw [if_neg hm] at h ⊢
 generalize lastOf f m p = L at *
 generalize keptOf f m p = k at *
 have h' : (L - f.leastPlace).toNat * f.binade + k < f.infRung := by omega
 rw [Nat.min_eq_left (by omega)]
 by_cases k1 : k < f.binade
 ·have e : L = f.leastPlace := by
   rcases Int.lt_or_le f.leastPlace L with h | h
   ·have := a2 h; omega
   ·omega
  subst e
  rw [Int.sub_self]
  show Same (f.read (f.word neg (0 * f.binade + k))) _
  rw [Nat.zero_mul, Nat.zero_add, read_word_sub f neg k k1]
  exact Same.refl _
 ·by_cases k2 : k < 2 * f.binade
  ·rw [read_word_normal f neg _ k (by omega) k2 h', show f.leastPlace + ((L - f.leastPlace).toNat : Int) = L from by omega]
   exact Same.refl _
  ·have e : k = f.binade + f.binade := by omega
   subst e
   have e2 : (L - f.leastPlace).toNat * f.binade + (f.binade + f.binade) = ((L - f.leastPlace).toNat + 1) * f.binade + f.binade := by rw [Nat.add_mul]; omega
   rw [e2] at h' ⊢
   rw [read_word_normal f neg _ f.binade (by omega) (by omega) h']
   refine ⟨rfl, L, by omega, by omega, ?_⟩
   rw [show (f.leastPlace + ((L - f.leastPlace).toNat + 1 : Nat) - L).toNat = 1 from by omega, show (L - L).toNat = 0 from by omega]
   omega
def rk (neg : Bool) (r : Nat) : Int := if neg then -(r : Int) else r
theorem cmp_int {x y u v : Int} (h1 : x < y ↔ u < v) (h2 : x = y ↔ u = v) : compare x y = compare u v := by
 rcases Int.lt_trichotomy u v with h | h | h
 ·rw [Int.compare_eq_lt.2 h, Int.compare_eq_lt.2 (h1.2 h)]
 ·rw [Int.compare_eq_eq.2 h, Int.compare_eq_eq.2 (h2.2 h)]
 ·rw [Int.compare_eq_gt.2 h]
  refine Int.compare_eq_gt.2 ?_
  have n1 : ¬ x < y := fun c => by have := h1.1 c; omega
  have n2 : ¬ x = y := fun c => by have := h2.1 c; omega
  omega
theorem order_word (f : Format) (hf : f.binade ≤ f.infRung) (s t : Bool) {q r : Nat} (h : q ≤ f.infRung) (h' : r ≤ f.infRung) : f.order (f.word s q) (f.word t r) = some (compare (rk s q) (rk t r)) := by
 have hb := binade_pos f
 unfold Format.order
 have zq : q < f.infRung → 0 ≤ V f q ∧ (V f q = 0 ↔ q = 0) := fun _ => ⟨Nat.zero_le _, by have := (V_cmp f q 0).2; rw [V_zero] at this; exact this⟩
 rcases Nat.lt_or_eq_of_le h with a | a <;> rcases Nat.lt_or_eq_of_le h' with b | b
 ·obtain ⟨m, p, e1, e2, e3, e4, _⟩ := read_number f s q a
  obtain ⟨n, o, d1, d2, d3, d4, _⟩ := read_number f t r b
  rw [e1, d1, order_at s t m n p o f.leastPlace e2 d2]
  congr 1
  rw [signed_eq s, signed_eq t, e3, d3]
  have c1 := V_cmp f q r
  have c2 := V_cmp f r q
  have z1 := (V_cmp f q 0).2
  have z2 := (V_cmp f r 0).2
  rw [V_zero] at z1 z2
  unfold signed rk
  simp only [Nat.shiftLeft_eq, Nat.pow_zero, Nat.mul_one]
  refine cmp_int ?_ ?_ <;> cases s <;> cases t <;> simp only [if_true, if_false, Bool.false_eq_true] <;> omega
 ·subst b
  obtain ⟨m, p, e1, _⟩ := read_number f s q a
  rw [e1, read_word_inf f t hf]
  show some (if t then Ordering.gt else Ordering.lt) = _
  congr 1
  unfold rk
  cases t
  ·simp only [if_false, Bool.false_eq_true]
   refine (Int.compare_eq_lt.2 ?_).symm
   cases s <;> simp <;> omega
  ·simp only [if_true]
   refine (Int.compare_eq_gt.2 ?_).symm
   cases s <;> simp <;> omega
 ·subst a
  obtain ⟨m, p, e1, _⟩ := read_number f t r b
  rw [e1, read_word_inf f s hf]
  show some (if s then Ordering.lt else Ordering.gt) = _
  congr 1
  unfold rk
  cases s
  ·simp only [if_false, Bool.false_eq_true]
   refine (Int.compare_eq_gt.2 ?_).symm
   cases t <;> simp <;> omega
  ·simp only [if_true]
   refine (Int.compare_eq_lt.2 ?_).symm
   cases t <;> simp <;> omega
 ·subst a; subst b
  rw [read_word_inf f s hf, read_word_inf f t hf]
  show some (compare t.toNat s.toNat) = _
  congr 1
  unfold rk
  cases s <;> cases t
  ·simp
  ·exact (Int.compare_eq_gt.2 (by simp; omega)).symm
  ·exact (Int.compare_eq_lt.2 (by simp; omega)).symm
  ·simp
end Fl

namespace Fl
open Ieee Go
set_option linter.unusedSimpArgs false
set_option linter.unusedVariables false
theorem two_pow_sq (k : Nat) : (2 : Nat) ^ (2 * k) = 4 ^ k := by rw [Nat.pow_mul]
theorem root_rung (f : Format) (m : Nat) (i : Int) (hm : m ≠ 0) : ∃ S q, (Datum.number false m i).root (f.fractionBits + 2) = some (.number false S q) ∧ S ≠ 0 ∧
  ∀ K R : Nat, IsRt (m * 2 ^ (i % 2).toNat * 4 ^ K) R → 2 ^ (f.fractionBits + 2) ≤ rs (m * 2 ^ (i % 2).toNat * 4 ^ K) R → rung f S q = rung f (rs (m * 2 ^ (i % 2).toNat * 4 ^ K) R) ((i - i % 2) / 2 - 1 - K) := by
 simp only [Datum.root, hm, Bool.false_eq_true, if_false]
 generalize hmore : 2 * (f.fractionBits + 2) - m.log2 = mo
 have hpar : (i - (mo : Int)) % 2 = 0 ∨ (i - (mo : Int)) % 2 = 1 := by omega
 obtain ⟨M, hM⟩ : ∃ M, mo + ((i - (mo : Int)) % 2).toNat = M := ⟨_, rfl⟩
 rw [hM]
 have hMi : (i - (M : Int)) % 2 = 0 := by omega
 have hMp : (M : Int) % 2 = i % 2 := by omega
 obtain ⟨κ, hκ⟩ : ∃ κ, M = (i % 2).toNat + 2 * κ := ⟨M / 2, by omega⟩
 have hn : m <<< M = m * 2 ^ (i % 2).toNat * 4 ^ κ := by
  rw [Nat.shiftLeft_eq, hκ, Nat.pow_add, two_pow_sq, ← Nat.mul_assoc]
 have hroot := root_is (m <<< M)
 generalize hR0 : Datum.rootFrom (m <<< M) ((m <<< M).log2 / 2 + 1) 0 = R0 at *
 have hbig : 2 ^ (f.fractionBits + 2) ≤ R0 := by
  have h1 := Nat.log2_self_le hm
  have h2 : 2 ^ (f.fractionBits + 2) * 2 ^ (f.fractionBits + 2) ≤ m <<< M := by
   rw [Nat.shiftLeft_eq, ← Nat.pow_add]
   refine Nat.le_trans ?_ (Nat.mul_le_mul_right (2 ^ M) h1)
   rw [← Nat.pow_add]
   exact Nat.pow_le_pow_right (by decide) (by omega)
  have := sq_lt (Nat.lt_of_le_of_lt h2 hroot.2)
  omega
 have hp : 0 < 2 ^ (f.fractionBits + 2) := Nat.two_pow_pos _
 refine ⟨_, _, rfl, by omega, fun K R hK hb => ?_⟩
 rw [hn] at hroot
 rw [hn]
 have hb0 : 2 ^ (f.fractionBits + 2) ≤ rs (m * 2 ^ (i % 2).toNat * 4 ^ κ) R0 := by unfold rs; omega
 have := rung_rs f (m * 2 ^ (i % 2).toNat) κ K R0 R ((i - i % 2) / 2 - 1) hroot hK hb0 hb
 rw [← this]
 show rung f (rs (m * 2 ^ (i % 2).toNat * 4 ^ κ) R0) _ = _
 congr 1
 omega
theorem root_same (f : Format) {m n : Nat} {i j b : Int} (hm : m ≠ 0) (h1 : b ≤ i) (h2 : b ≤ j) (h : m * 2 ^ (i - b).toNat = n * 2 ^ (j - b).toNat) (K R : Nat) (hR : IsRt (m * 2 ^ (i % 2).toNat * 4 ^ K) R) (hb : 2 ^ (f.fractionBits + 2) ≤ rs (m * 2 ^ (i % 2).toNat * 4 ^ K) R)
  (hK : (i - j).toNat + 2 ≤ 2 * K) :
  ∃ S q, (Datum.number false n j).root (f.fractionBits + 2) = some (.number false S q) ∧ S ≠ 0 ∧ rung f S q = rung f (rs (m * 2 ^ (i % 2).toNat * 4 ^ K) R) ((i - i % 2) / 2 - 1 - K) := by
 have hn : n ≠ 0 := by
  rintro rfl
  rw [Nat.zero_mul] at h
  have := Nat.two_pow_pos (i - b).toNat
  rcases Nat.mul_eq_zero.1 h with h | h <;> omega
 obtain ⟨S, q, e1, e0, e2⟩ := root_rung f n j hn
 refine ⟨S, q, e1, e0, ?_⟩
 obtain ⟨K', hK'⟩ : ∃ K' : Nat, (K' : Int) = K + ((j - j % 2) / 2 - (i - i % 2) / 2) := ⟨(K + ((j - j % 2) / 2 - (i - i % 2) / 2)).toNat, by omega⟩
 have hA : n * 2 ^ (j % 2).toNat * 4 ^ K' = m * 2 ^ (i % 2).toNat * 4 ^ K := by
  rw [← two_pow_sq, ← two_pow_sq, Nat.mul_assoc, Nat.mul_assoc, ← Nat.pow_add, ← Nat.pow_add]
  have c1 : ((j % 2).toNat + 2 * K' : Int) - j = ((i % 2).toNat + 2 * K : Int) - i := by omega
  by_cases hle : (i - b).toNat ≤ (i % 2).toNat + 2 * K
  ·obtain ⟨u, hu⟩ : ∃ u, (i % 2).toNat + 2 * K = (i - b).toNat + u := ⟨(i % 2).toNat + 2 * K - (i - b).toNat, by omega⟩
   rw [hu, show (j % 2).toNat + 2 * K' = (j - b).toNat + u from by omega, Nat.pow_add, Nat.pow_add, ← Nat.mul_assoc, ← Nat.mul_assoc, h]
  ·obtain ⟨u, hu⟩ : ∃ u, (i - b).toNat = (i % 2).toNat + 2 * K + u := ⟨(i - b).toNat - ((i % 2).toNat + 2 * K), by omega⟩
   rw [hu, show (j - b).toNat = (j % 2).toNat + 2 * K' + u from by omega, Nat.pow_add 2 ((i % 2).toNat + 2 * K), Nat.pow_add 2 ((j % 2).toNat + 2 * K'), ← Nat.mul_assoc, ← Nat.mul_assoc] at h
   exact (Nat.eq_of_mul_eq_mul_right (Nat.two_pow_pos u) h).symm
 have := e2 K' R (by rw [hA]; exact hR) (by rw [hA]; exact hb)
 rw [this, hA]
 congr 1
 omega
theorem log2_le_of {n k : Nat} (h : n < 2 ^ (k + 1)) : n.log2 ≤ k := by
 by_cases h0 : n = 0
 ·subst h0; simp
 ·have := (Nat.log2_lt h0).2 h; omega
theorem narrow_rung (a K R : Nat) (q : Int) (ha : a ≠ 0) (ha2 : a < 2 ^ 25) (hK : K = 100) (h : IsRt (a * 4 ^ K) R) (h1 : -200 ≤ q) (h2 : q ≤ -40) :
  rung double (rs (a * 4 ^ K) R) q < double.infRung ∧ rung single (keptOf double (rs (a * 4 ^ K) R) q) (lastOf double (rs (a * 4 ^ K) R) q) = rung single (rs (a * 4 ^ K) R) q ∧ rung single (rs (a * 4 ^ K) R) q < single.infRung ∧ 2 ^ 100 ≤ rs (a * 4 ^ K) R := by
 have hlow : 2 ^ 100 ≤ R := by
  have h3 : 2 ^ 100 * 2 ^ 100 ≤ a * 4 ^ K := by
   subst hK
   have : 1 * 4 ^ 100 ≤ a * 4 ^ 100 := Nat.mul_le_mul_right _ (by omega)
   rw [Nat.one_mul] at this
   exact this
  have := sq_lt (Nat.lt_of_le_of_lt h3 h.2)
  omega
 have hhigh : R < 2 ^ 113 := by
  have h3 : a * 4 ^ K < 2 ^ 113 * 2 ^ 113 := by
   subst hK
   have : a * 4 ^ 100 < 2 ^ 25 * 4 ^ 100 := Nat.mul_lt_mul_of_pos_right ha2 (by decide)
   exact Nat.lt_of_lt_of_le this (by decide)
  exact sq_lt (Nat.lt_of_le_of_lt h.1 h3)
 have hrs : rs (a * 4 ^ K) R = 2 * R + (R * R != a * 4 ^ K).toNat := rfl
 have hbit := bit_le (R * R != a * 4 ^ K)
 have hS1 : 2 ^ 101 ≤ rs (a * 4 ^ K) R := by omega
 have hS2 : rs (a * 4 ^ K) R < 2 ^ 114 := by omega
 have hS0 : rs (a * 4 ^ K) R ≠ 0 := by omega
 have hmid := fun D => root_middle a K R D h
 have l1 : 101 ≤ (rs (a * 4 ^ K) R).log2 := (Nat.le_log2 hS0).2 hS1
 have l2 : (rs (a * 4 ^ K) R).log2 ≤ 113 := log2_le_of hS2
 have l3 : rs (a * 4 ^ K) R < 2 ^ ((rs (a * 4 ^ K) R).log2 + 1) := Nat.lt_log2_self
 have l4 := Nat.log2_self_le hS0
 clear hrs hbit hlow hhigh hS2 h
 have hS3 : 2 ^ 100 ≤ rs (a * 4 ^ K) R := by omega
 clear hS1
 generalize rs (a * 4 ^ K) R = S at *
 obtain ⟨l, hl⟩ : ∃ l, S.log2 = l := ⟨_, rfl⟩
 rw [hl] at l1 l2 l3 l4
 obtain ⟨D, hD⟩ : ∃ D, l = 52 + D := ⟨l - 52, by omega⟩
 have hm := hmid D (by omega) (by omega) (by rw [show D + 53 = l + 1 from by omega]; exact l3)
 have htw := Lib.hid (rnd_twice S D 29 (by decide) hm)
 have hLd : lastOf double S q = q + D := by
  unfold lastOf; rw [hl, double_least]
  show max (q + (l : Int) - 52) (-1074) = q + D
  omega
 have hLs : lastOf single S q = q + D + 29 := by
  unfold lastOf; rw [hl, single_least]
  show max (q + (l : Int) - 23) (-149) = q + D + 29
  omega
 have hkd : keptOf double S q = rnd S D := by
  unfold keptOf; rw [hLd, show (q - (q + D)).toNat = 0 from by omega, show (q + D - q).toNat = D from by omega]; rfl
 have hks : keptOf single S q = rnd S (D + 29) := by
  unfold keptOf; rw [hLs, show (q - (q + D + 29)).toNat = 0 from by omega, show (q + D + 29 - q).toNat = D + 29 from by omega]; rfl
 have r1 : rnd S D ≤ 9007199254740992 := by
  refine rnd_le ?_
  rw [show (9007199254740992 : Nat) = 2 ^ 53 from rfl, ← Nat.pow_add, show 53 + D = l + 1 from by omega]; exact Nat.le_of_lt l3
 have r2 : 4503599627370496 ≤ rnd S D := by
  refine le_rnd ?_
  rw [show (4503599627370496 : Nat) = 2 ^ 52 from rfl, ← Nat.pow_add, ← hD]; exact l4
 have r3 : rnd S (D + 29) ≤ 16777216 := by
  refine rnd_le ?_
  rw [show (16777216 : Nat) = 2 ^ 24 from rfl, ← Nat.pow_add, show 24 + (D + 29) = l + 1 from by omega]; exact Nat.le_of_lt l3
 clear l3 l4 hm hmid ha ha2
 refine ⟨?_, ?_, ?_, hS3⟩
 ·clear hS3; unfold rung
  rw [if_neg hS0, hLd, hkd, double_least, double_binade, double_inf]
  have : (q + D - -1074).toNat ≤ 1200 := by omega
  refine Nat.lt_of_le_of_lt (Nat.min_le_left _ _) ?_
  omega
 ·clear hS3
  rw [hLd, hkd]
  have hne : rnd S D ≠ 0 := by omega
  have htw2 := htw.out
  clear htw
  generalize rnd S D = T at *
  have hs : rung single S q = min ((q + D + 29 - -149).toNat * 8388608 + rnd T 29) 2139095040 := by
   unfold rung
   rw [if_neg hS0, hLs, hks, single_least, single_binade, single_inf, ← htw2]
  rw [hs]
  by_cases c : T < 9007199254740992
  ·have hlT : T.log2 = 52 := by rw [Nat.log2_eq_iff (by omega)]; exact ⟨r2, c⟩
   have hL : lastOf single T (q + D) = q + D + 29 := by
    unfold lastOf; rw [hlT, single_least]
    show max (q + D + (52 : Int) - 23) (-149) = q + D + 29
    omega
   have hk : keptOf single T (q + D) = rnd T 29 := by
    unfold keptOf; rw [hL, show (q + D - (q + D + 29)).toNat = 0 from by omega, show (q + D + 29 - (q + D)).toNat = 29 from by omega]; rfl
   unfold rung
   rw [if_neg (by omega), hL, hk, single_least, single_binade, single_inf]
  ·obtain rfl : T = 9007199254740992 := by omega
   have hlT : (9007199254740992 : Nat).log2 = 53 := by rw [Nat.log2_eq_iff (by decide)]; decide
   have hL : lastOf single 9007199254740992 (q + D) = q + D + 30 := by
    unfold lastOf; rw [hlT, single_least]
    show max (q + D + (53 : Int) - 23) (-149) = q + D + 30
    omega
   have hk : keptOf single 9007199254740992 (q + D) = 8388608 := by
    unfold keptOf; rw [hL, show (q + D - (q + D + 30)).toNat = 0 from by omega, show (q + D + 30 - (q + D)).toNat = 30 from by omega]; decide
   have hk2 : rnd 9007199254740992 29 = 16777216 := by decide
   unfold rung
   rw [if_neg (by decide), hL, hk, hk2, single_least, single_binade, single_inf]
   rw [show (q + D + 30 - -149).toNat * 8388608 + 8388608 = (q + D + 29 - -149).toNat * 8388608 + 16777216 from by omega]
 ·clear hS3; unfold rung
  rw [if_neg hS0, hLs, hks, single_least, single_binade, single_inf]
  have : (q + D + 29 - -149).toNat ≤ 200 := by omega
  refine Nat.lt_of_le_of_lt (Nat.min_le_left _ _) ?_
  omega
end Fl

namespace Go.Proofs.YtmoimcblmmcffaaGreat.NC
open Go.RowKit Go.Proofs.YtmoimcblmmcffaaGreat.B Go.Proofs.YtmoimcblmmcffaaGreat.N
set_option linter.unusedSimpArgs false
set_option linter.unusedVariables false
theorem nan_eq (s : Bool) : nanV s = (nanN s : Int) := by cases s <;> rfl
theorem top_sgn (s : Bool) : topV s = ((2 * signN s : Nat) : Int) := by cases s <;> rfl
theorem bits_lt (s : Bool) {p : PP} (hp : p.ok s) : bitsR s p < 2 * signN s ∧ (p.neg = false → bitsR s p < signN s) := by
 have hq : (fieldN s : Int) - 3 + leastN s = mostN s := by cases s <;> decide
 have hf : 3 ≤ fieldN s := by cases s <;> decide
 have hl : lowN s * fieldN s = signN s := by cases s <;> rfl
 have hn : nanN s < signN s := by cases s <;> decide
 have hp0 : 0 < lowN s := by cases s <;> decide
 have hs0 : 0 < signN s := by cases s <;> decide
 have key : ∃ r, (bitsR s p = sgnN s p.neg + r ∨ bitsR s p = r) ∧ r < signN s := by
  rcases bits_leaf hp with ⟨_, h⟩ | ⟨_, h⟩ | ⟨_, h⟩ | ⟨_, h1, h⟩ | ⟨_, h1, h2, q, h3, h4, h⟩
  ·exact ⟨0, .inl (by rw [h]; rfl), hs0⟩
  ·refine ⟨_, .inl h, ?_⟩
   rw [← hl]; exact Nat.mul_lt_mul_of_pos_left (by omega) hp0
  ·exact ⟨_, .inr h, hn⟩
  ·refine ⟨_, .inl h, ?_⟩
   have : lowN s * 1 ≤ lowN s * fieldN s := Nat.mul_le_mul_left _ (by omega)
   omega
  ·refine ⟨_, .inl h, ?_⟩
   have : lowN s * (q + 3) ≤ lowN s * fieldN s := Nat.mul_le_mul_left _ (by omega)
   rw [Nat.mul_add] at this ⊢
   omega
 obtain ⟨r, h1, h2⟩ := key
 unfold sgnN at h1
 refine ⟨?_, fun hn => ?_⟩
 ·rcases h1 with h1 | h1 <;> rw [h1]
  ·split <;> omega
  ·omega
 ·rw [hn] at h1
  simp only [Bool.false_eq_true, if_false] at h1
  rcases h1 with h1 | h1 <;> rw [h1] <;> omega
theorem neg_lt (s : Bool) (a : Nat) : (negR s a : Int) < topV s := by
 have := (bits_lt s (PP.ok_neg (parts_ok s a) (!(partsR s a).neg && (partsR s a).kind != 3))).1
 rw [top_sgn]
 exact Int.ofNat_lt.2 this
theorem fld0 (w : World) (k : Int) (n : Bool) (g x : Int) : (Instr.field 41 (.agg #[.int .i64 k, .bool n, .int .i64 g, .int .i64 x]) 0).run Tryz.prog w = .ok (.int .i64 k) w := by kernel_rfl
def subR (s : Bool) (a b : Nat) : Nat := if (partsR s b).kind = 3 then nanN s else addR s a (negR s b)
set_option maxRecDepth 100000 in
set_option maxHeartbeats 4000000 in
theorem minus2_c (s : Bool) (a b : Nat) (w : World) (ha : (a : Int) < topV s) (hb : (b : Int) < topV s) : Calls Tryz.prog 64 #[.int .i64 (tv s), .int .u64 (a : Int), .int .u64 (b : Int)] w (Ret (.int .u64 (subR s a b : Int)) w) := by
 have c2 := fun w => parts_c s b w hb
 have cn := nanR_c s
 rw [nan_eq] at cn
 have cg := fun w => negatedR_c s b w hb
 have ca := fun w => add_c s a (negR s b) w ha (neg_lt s b)
 clear ha hb
 unfold subR
 obtain ⟨q, hq⟩ : ∃ q, partsR s b = q := ⟨_, rfl⟩
 rw [hq]
 rw [hq] at c2
 clear hq
 obtain ⟨k2, n2, g2, x2⟩ := q
 simp only [PP.v] at c2
 simp only
 generalize addR s a (negR s b) = R at *
 generalize negR s b = nb at *
 have hfd := fun w => fld0 w k2 n2 g2 x2
 by_cases hk : k2 = 3
 ·subst hk
  rw [if_pos rfl]
  go_enter Tryz.func64, Tryz.ntmps64
  go_wp2_with (first | (go_at_call 21; refine (c2 _).mono ?_; rintro e w1 ⟨rfl, hb1⟩) | (go_at_call 67; refine (cn _).mono ?_; rintro e w2 ⟨rfl, hb2⟩))
  go_ret
  exact ⟨rfl, below_call hb1 hb2⟩
 ·rw [if_neg hk]
  have f2 : (k2 == 3) = false := by simpa using hk
  go_enter Tryz.func64, Tryz.ntmps64
  go_wp2_with (first | (go_at_call 21; refine (c2 _).mono ?_; rintro e w1 ⟨rfl, hb1⟩) | (go_at_call 83; refine (cg _).mono ?_; rintro e w2 ⟨rfl, hb2⟩) | (go_at_call 63; refine (ca _).mono ?_; rintro e w3 ⟨rfl, hb3⟩))
  go_ret
  exact ⟨rfl, below_call (below_call hb1 hb2) hb3⟩
def rankR (s : Bool) (a : Nat) : Int := if (partsR s a).neg = true then -(sizeR s a : Int) else (sizeR s a : Int)
def cmpR (s : Bool) (a b : Nat) : Int := if (partsR s a).kind = 3 ∨ (partsR s b).kind = 3 then 2 else if rankR s a < rankR s b then -1 else if rankR s a = rankR s b then 0 else 1
end Go.Proofs.YtmoimcblmmcffaaGreat.NC

namespace Go.Proofs.YtmoimcblmmcffaaGreat.NC
open Go.RowKit Go.Proofs.YtmoimcblmmcffaaGreat.B Go.Proofs.YtmoimcblmmcffaaGreat.N
set_option linter.unusedSimpArgs false
set_option linter.unusedVariables false
def extP (great : Bool) (p q : PP) (c : Int) (a b nan : Nat) : Nat :=
 if p.kind = 3 then (if q.kind = 3 then nan else b) else if q.kind = 3 then a
 else if decide ((if c = 0 then (q.neg.toNat : Int) - p.neg.toNat else c) < 0) = great then b else a
def extR (great s : Bool) (a b : Nat) : Nat := extP great (partsR s a) (partsR s b) (cmpR s a b) a b (nanN s)
end Go.Proofs.YtmoimcblmmcffaaGreat.NC

namespace Go.Proofs.YtmoimcblmmcffaaGreat.NC
open Go.RowKit Go.Proofs.YtmoimcblmmcffaaGreat.B Go.Proofs.YtmoimcblmmcffaaGreat.N
set_option linter.unusedSimpArgs false
set_option linter.unusedVariables false
def signR (s : Bool) (a b : Nat) : Nat := if (partsR s a).kind = 3 then nanN s else bitsR s { partsR s a with neg := decide (b / signN s = 1) }
def opR (op : Int) (s : Bool) (a b : Nat) : Nat :=
 if op = 0 then addR s a b else if op = 1 then subR s a b else if op = 2 then mulR s a b else if op = 3 then divR s a b else if op = 4 then signR s a b else extR (decide (op = 6)) s a b
def fromR (s : Bool) (n : Int) : Nat := roundR s (decide (n < 0)) n.natAbs 0 false
set_option maxRecDepth 100000 in
theorem fromR_c (s : Bool) (n : Int) (w : World) (h0 : -2147483648 ≤ n) (h1 : n ≤ 2147483647) : Calls Tryz.prog 23 #[.int .i64 (tv s), .int .i64 n] w (Ret (.int .u64 (fromR s n : Int)) w) := by
 have cs := fun w => size_c w n (by omega) (by omega)
 have cn := fun w => nat_c w (n := n.natAbs) (by omega)
 have hl : (digs n.natAbs).length ≤ 1000 := by
  have h2 : n.natAbs < 2 ^ 32 := by omega
  have := len_bits h2
  omega
 have cr := fun A c w hB hc => round_c s (decide (n < 0)) n.natAbs 0 false A c w hB hc hl (by decide) (by decide)
 unfold fromR
 generalize roundR s (decide (n < 0)) n.natAbs 0 false = R at *
 obtain ⟨z, hz⟩ : ∃ z, decide (n < 0) = z := ⟨_, rfl⟩
 rw [hz] at cr
 clear hl h0 h1
 generalize n.natAbs = m at *
 go_enter Tryz.func23, Tryz.ntmps23
 go_wp2_with (first | (go_at_call 76; refine (cs _).mono ?_; rintro e w1 ⟨rfl, hb1⟩) | (go_at_call 75; refine (cn _).mono ?_; rintro e w2 ⟨A2, c2, rfl, hc2, hB2, hb2⟩) | (go_at_call 74; refine (cr _ _ _ hB2 hc2).mono ?_; rintro e w3 ⟨rfl, hb3⟩))
 go_ret
 exact ⟨rfl, below_call (below_call hb1 hb2) hb3⟩
end Go.Proofs.YtmoimcblmmcffaaGreat.NC

namespace Go.Proofs.YtmoimcblmmcffaaGreat.NC
open Go.RowKit Go.Proofs.YtmoimcblmmcffaaGreat.B Go.Proofs.YtmoimcblmmcffaaGreat.N
set_option linter.unusedSimpArgs false
set_option linter.unusedVariables false
abbrev fm (s : Bool) : Ieee.Format := (fkOf s).format
theorem fm_binade (s : Bool) : (fm s).binade = lowN s := by cases s <;> decide
theorem fm_least (s : Bool) : (fm s).leastPlace = leastN s := by cases s <;> decide
theorem fm_sign (s : Bool) : (fm s).signWeight = signN s := by cases s <;> decide
theorem fm_inf (s : Bool) : (fm s).infRung = lowN s * (fieldN s - 1) := by cases s <;> decide
theorem fm_prec (s : Bool) : precN s = (fm s).fractionBits + 1 := by cases s <;> rfl
theorem low_prec (s : Bool) : 2 ^ precN s = 2 * lowN s := by cases s <;> rfl
theorem low_pos (s : Bool) : 0 < lowN s := by cases s <;> decide
theorem field_three (s : Bool) : 3 ≤ fieldN s := by cases s <;> decide
theorem low_field (s : Bool) : lowN s * fieldN s = signN s := by cases s <;> rfl
theorem most_field (s : Bool) : (fieldN s : Int) - 3 + leastN s = mostN s := by cases s <;> decide
theorem fm_word (s neg : Bool) (r : Nat) : (fm s).word neg r = sgnN s neg + r := by
 unfold Ieee.Format.word sgnN
 rw [fm_sign]
 cases neg <;> simp
theorem inf_ge (s : Bool) : (fm s).binade ≤ (fm s).infRung := by cases s <;> decide
inductive Told (s : Bool) (a : Nat) : PP → Prop
 | zero (neg : Bool) (h : a = (fm s).word neg 0) (hr : (fm s).read a = .number neg 0 (leastN s)) : Told s a ⟨0, neg, 0, 0⟩
 | fin (neg : Bool) (m : Nat) (e : Int) (r : Nat) (h0 : 0 < r) (h1 : r < (fm s).infRung) (h : a = (fm s).word neg r) (hm : 1 ≤ m) (hm2 : m < 2 * lowN s) (he : leastN s ≤ e) (he2 : e ≤ mostN s) (hb : ∀ n, bitsR s ⟨1, n, m, e⟩ = (fm s).word n r) (hr : (fm s).read a = .number neg m e) : Told s a ⟨1, neg, m, e⟩
 | inf (neg : Bool) (h : a = (fm s).word neg (fm s).infRung) (hr : (fm s).read a = .infinity neg) : Told s a ⟨2, neg, 0, 0⟩
 | nan (neg : Bool) (r t : Nat) (n : Bool) (h0 : (fm s).infRung < r) (h1 : r < signN s) (h : a = (fm s).word neg r) (hr : (fm s).read a = .nan n t) : Told s a ⟨3, false, 0, 0⟩
theorem told (s : Bool) (a : Nat) (ha : a < 2 * signN s) : Told s a (partsR s a) := by
 have hl := low_pos s
 have hf3 := field_three s
 have hlf := low_field s
 have hmf := most_field s
 have hr : a % lowN s < lowN s := Nat.mod_lt _ hl
 have hf : a / lowN s % fieldN s < fieldN s := Nat.mod_lt _ (by omega)
 have hrung : a % signN s = a % lowN s + lowN s * (a / lowN s % fieldN s) := by rw [← hlf, Nat.mod_mul]
 have hdiv : a / lowN s / fieldN s = a / signN s := by rw [Nat.div_div_eq_div_mul, hlf]
 have hs0 : 0 < signN s := by cases s <;> decide
 have hd2 : a / signN s < 2 := (Nat.div_lt_iff_lt_mul hs0).2 ha
 have hneg : (a / signN s % 2 == 1) = decide (a / lowN s / fieldN s = 1) := by
  rw [hdiv, Nat.mod_eq_of_lt hd2]
  rw [Bool.eq_iff_iff]; simp
 have hword : a = (fm s).word (decide (a / lowN s / fieldN s = 1)) (a % signN s) := by
  rw [fm_word, hdiv]
  unfold sgnN
  have e := Nat.div_add_mod a (signN s)
  by_cases h1 : a / signN s = 1
  ·rw [decide_eq_true h1, if_pos rfl]; rw [h1, Nat.mul_one] at e; omega
  ·rw [decide_eq_false h1, if_neg (by decide)]
   have h0 : a / signN s = 0 := (by omega : ∀ q : Nat, q < 2 → ¬ q = 1 → q = 0) _ hd2 h1
   rw [h0, Nat.mul_zero] at e; omega
 have hread : (fm s).read a = if a % signN s < lowN s then .number (decide (a / lowN s / fieldN s = 1)) (a % signN s) (leastN s)
   else if a % signN s < lowN s * (fieldN s - 1) then .number (decide (a / lowN s / fieldN s = 1)) (lowN s + a % signN s % lowN s) (leastN s + (a % signN s / lowN s - 1 : Nat))
   else if a % signN s = lowN s * (fieldN s - 1) then .infinity (decide (a / lowN s / fieldN s = 1)) else .nan (decide (a / lowN s / fieldN s = 1)) (a % signN s - lowN s * (fieldN s - 1)) := by
  unfold Ieee.Format.read
  simp only [fm_binade, fm_least, fm_sign, fm_inf, hneg]
 have hlt : a % signN s < signN s := Nat.mod_lt _ hs0
 unfold partsR
 generalize decide (a / lowN s / fieldN s = 1) = neg at *
 generalize a / lowN s % fieldN s = f at *
 have hdv : a % signN s / lowN s = f := by rw [hrung, Nat.add_mul_div_left _ _ hl, Nat.div_eq_of_lt hr, Nat.zero_add]
 have hmd : a % signN s % lowN s = a % lowN s := by rw [hrung, Nat.add_mul_mod_self_left, Nat.mod_mod]
 have hfin := fm_inf s
 rw [hdv, hmd] at hread
 generalize a % signN s = u at *
 generalize a % lowN s = r at *
 clear hneg hdiv hd2 hdv hmd
 have hcase := parts_leaf (s := s) (f := f) (r := r) (neg := neg) rfl
 rcases hcase with ⟨h1, h2, h⟩ | ⟨h1, h2, h⟩ | ⟨h1, h2, h3, h⟩ | ⟨h1, h2, h3, h⟩ | ⟨h1, h2, h⟩ <;> rw [h]
 ·subst h2
  have hu : u = lowN s * (fieldN s - 1) := by rw [hrung, show fieldN s - 1 = f from by omega]; omega
  have hge : lowN s * 1 ≤ lowN s * (fieldN s - 1) := Nat.mul_le_mul_left _ (by omega)
  rw [if_neg (by omega), if_neg (by omega), if_pos hu] at hread
  refine .inf neg ?_ hread
  rw [hfin, ← hu]; exact hword
 ·have hu : u = r + lowN s * (fieldN s - 1) := by rw [hrung, show fieldN s - 1 = f from by omega]
  have hge : lowN s * 1 ≤ lowN s * (fieldN s - 1) := Nat.mul_le_mul_left _ (by omega)
  rw [if_neg (by omega), if_neg (by omega), if_neg (by omega)] at hread
  exact .nan neg u _ neg (by rw [hfin]; omega) hlt hword hread
 ·subst h2 h3
  have hu : u = 0 := by rw [hrung]; omega
  rw [hu] at hread hword
  rw [if_pos hl] at hread
  exact .zero neg hword hread
 ·subst h2
  have hu : u = r := by rw [hrung]; omega
  have hge : lowN s * 1 ≤ lowN s * (fieldN s - 1) := Nat.mul_le_mul_left _ (by omega)
  rw [hu] at hread hword
  rw [if_pos hr] at hread
  exact .fin neg r (leastN s) r (by omega) (by rw [hfin]; omega) hword (by omega) (by omega) (Int.le_refl _) (by omega) (fun n => by
   rw [fm_word]
   unfold bitsR sgnN
   simp [hr]) hread
 ·have hge : lowN s * 1 ≤ lowN s * f := Nat.mul_le_mul_left _ (by omega)
  have hlt2 : lowN s * (f + 1) ≤ lowN s * (fieldN s - 1) := Nat.mul_le_mul_left _ (by omega)
  rw [Nat.mul_add] at hlt2
  rw [if_neg (by omega), if_pos (by omega)] at hread
  have e1 : leastN s + ((f - 1 : Nat) : Int) = (f : Int) - 1 + leastN s := by omega
  rw [e1, Nat.add_comm (lowN s) r] at hread
  exact .fin neg (r + lowN s) ((f : Int) - 1 + leastN s) u (by omega) (by rw [hfin]; omega) hword (by omega) (by omega) (by omega) (by omega) (fun n => by
   rw [fm_word]
   unfold bitsR sgnN
   have n1 : ¬ r + lowN s < lowN s := by omega
   simp only [n1, if_false]
   rw [show ((f : Int) - 1 + leastN s - leastN s + 1).toNat = f from by omega]
   simp
   omega) hread
end Go.Proofs.YtmoimcblmmcffaaGreat.NC

namespace Go.Proofs.YtmoimcblmmcffaaGreat.NC
open Go.RowKit Go.Proofs.YtmoimcblmmcffaaGreat.B Go.Proofs.YtmoimcblmmcffaaGreat.N
set_option linter.unusedSimpArgs false
set_option linter.unusedVariables false
theorem bits_zero (s neg : Bool) : bitsR s ⟨0, neg, 0, 0⟩ = (fm s).word neg 0 := by
 rw [fm_word]; unfold bitsR sgnN; simp
theorem bits_inf (s neg : Bool) : bitsR s ⟨2, neg, 0, 0⟩ = (fm s).word neg (fm s).infRung := by
 rw [fm_word, fm_inf]; unfold bitsR sgnN; simp
theorem bits_nan (s neg : Bool) : bitsR s ⟨3, neg, 0, 0⟩ = nanN s := by unfold bitsR; simp
theorem bits_log (m : Nat) (h : m ≠ 0) : N.bits m = m.log2 + 1 := by unfold N.bits; rw [if_neg h]
theorem round_zero (s neg : Bool) (e : Int) (more : Bool) : roundR s neg 0 e more = (fm s).word neg 0 := by
 unfold roundR; rw [if_pos rfl, bits_zero]
theorem round_word (s neg : Bool) (m : Nat) (e : Int) (more : Bool) (hm : m ≠ 0) : roundR s neg m e more = (fm s).word neg (Fl.rung (fm s) (m * 8 + more.toNat) (e - 3)) := by
 have hm1 : m * 8 + more.toNat ≠ 0 := by omega
 unfold roundR
 rw [if_neg hm]
 simp only [moreOf]
 generalize m * 8 + more.toNat = M at *
 generalize e - 3 = E at *
 have hplace : placeOf s M E = Fl.lastOf (fm s) M E := by
  unfold placeOf Fl.lastOf
  rw [bits_log M hm1, fm_prec, fm_least]
  congr 1; omega
 have hkept : keptOf M E (Fl.lastOf (fm s) M E) = Fl.keptOf (fm s) M E := by
  unfold keptOf Fl.keptOf
  generalize Fl.lastOf (fm s) M E = L
  by_cases h : L ≤ E
  ·rw [if_pos h, show (L - E).toNat = 0 from by omega, Fl.rnd_zero, Nat.shiftLeft_eq]
  ·rw [if_neg h, show (E - L).toNat = 0 from by omega, Nat.shiftLeft_eq, Nat.pow_zero, Nat.mul_one]
 obtain ⟨r1, r2⟩ := Fl.kept_range (fm s) hm1 E
 have r3 := Fl.last_ge (fm s) M E
 rw [hplace, hkept]
 unfold Fl.rung
 rw [if_neg hm1]
 rw [fm_binade, fm_least] at *
 generalize Fl.lastOf (fm s) M E = L at *
 generalize Fl.keptOf (fm s) M E = k at *
 have hl := low_pos s
 have hlp := low_prec s
 have hmf := most_field s
 have hf3 := field_three s
 rw [fm_inf, fm_word]
 have hov : overOf s k L = if k = 2 * lowN s then (lowN s, L + 1) else (k, L) := by
  unfold overOf
  by_cases hk0 : k = 0
  ·subst hk0
   rw [if_neg (by unfold N.bits; simp), if_neg (by omega)]
  ·rw [bits_log k hk0]
   have hb : precN s < k.log2 + 1 ↔ 2 * lowN s ≤ k := by
    rw [← hlp, ← Nat.le_log2 hk0]; omega
   by_cases h2 : k = 2 * lowN s
   ·rw [if_pos (hb.2 (by omega)), if_pos h2, h2]; simp
   ·rw [if_neg (fun h => h2 (by have := hb.1 h; omega)), if_neg h2]
 rw [hov]
 have hpos : ∀ (m : Nat) (e : Int), m ≠ 0 → m < 2 * lowN s → leastN s ≤ e → (leastN s < e → lowN s ≤ m) → bitsR s (packOf s neg m e) = sgnN s neg + min ((e - leastN s).toNat * lowN s + m) (lowN s * (fieldN s - 1)) := by
  intro m e h0 h1 h2 h3
  unfold packOf
  rw [if_neg h0]
  by_cases hbig : e > mostN s
  ·rw [if_pos hbig]
   have hlow : lowN s ≤ m := h3 (by omega)
   have hge : lowN s * (fieldN s - 1) ≤ (e - leastN s).toNat * lowN s + m := by
    have : (fieldN s - 2) * lowN s ≤ (e - leastN s).toNat * lowN s := Nat.mul_le_mul_right _ (by omega)
    rw [show fieldN s - 1 = fieldN s - 2 + 1 from by omega, Nat.mul_comm, Nat.add_mul, Nat.one_mul]
    omega
   rw [Nat.min_eq_right hge, bits_inf, fm_word, fm_inf]
  ·rw [if_neg hbig]
   unfold bitsR sgnN
   simp only [Int.reduceEq, if_false]
   congr 1
   by_cases hlow : m < lowN s
   ·have he : e = leastN s := by
     rcases Int.lt_or_le (leastN s) e with h | h
     ·have := h3 h; omega
     ·omega
    rw [if_pos hlow, he, Int.sub_self]
    have : lowN s * 1 ≤ lowN s * (fieldN s - 1) := Nat.mul_le_mul_left _ (by omega)
    simp; omega
   ·rw [show (e - leastN s + 1).toNat = (e - leastN s).toNat + 1 from by omega]
    have : ((e - leastN s).toNat + 2) * lowN s ≤ (fieldN s - 1) * lowN s := Nat.mul_le_mul_right _ (by omega)
    rw [Nat.mul_comm (lowN s) (fieldN s - 1), Nat.mul_comm (lowN s)]
    rw [Nat.add_mul] at this ⊢
    rw [if_neg hlow]
    omega
 by_cases hk0 : k = 0
 ·subst hk0
  have hL : L = leastN s := by
   rcases Int.lt_or_le (leastN s) L with h | h
   ·have := r2 h; omega
   ·omega
  rw [if_neg (by omega), hL, Int.sub_self]
  unfold packOf
  rw [if_pos rfl]
  unfold bitsR sgnN
  simp
 ·by_cases h2 : k = 2 * lowN s
  ·rw [if_pos h2]
   rw [hpos (lowN s) (L + 1) (by omega) (by omega) (by omega) (fun _ => Nat.le_refl _), h2, show (L + 1 - leastN s).toNat = (L - leastN s).toNat + 1 from by omega, Nat.add_mul]
   congr 2; omega
  ·rw [if_neg h2]
   exact hpos k L hk0 (by omega) r3 r2
theorem round_exact (s neg : Bool) (m : Nat) (e : Int) : roundR s neg m e false = (fm s).word neg (Fl.rung (fm s) m e) := by
 by_cases hm : m = 0
 ·subst hm; rw [round_zero, Fl.rung_zero]
 ·rw [round_word s neg m e false hm]
  have := Fl.rung_scale (fm s) m 3 (e - 3)
  rw [show e - 3 + ((3 : Nat) : Int) = e from by omega] at this
  simp only [Bool.toNat_false, Nat.add_zero]
  rw [← this]
theorem round_near (s neg : Bool) (m : Nat) (e : Int) : roundR s neg m e false = (fm s).nearest neg m e := by rw [round_exact, Fl.nearest_rung]
theorem word_lt (s neg : Bool) {r : Nat} (h : r < signN s) : (fm s).word neg r < 2 * signN s := by
 rw [fm_word]; unfold sgnN; cases neg <;> simp <;> omega
theorem word_mod (s neg : Bool) {r : Nat} (h : r < signN s) : (((fm s).word neg r : Nat) : Int) % signV s = (r : Int) := by
 have hs : signV s = (signN s : Int) := by cases s <;> rfl
 rw [hs, fm_word]
 unfold sgnN
 have : (sgnN s neg + r) % signN s = r := by
  unfold sgnN
  cases neg
  ·simp [Nat.mod_eq_of_lt h]
  ·simp [Nat.mod_eq_of_lt h]
 unfold sgnN at this
 exact_mod_cast this
theorem inf_lt (s : Bool) : (fm s).infRung < signN s := by cases s <;> decide
theorem infV_eq (s : Bool) : infV s = ((fm s).infRung : Int) := by cases s <;> decide
theorem nothing_word (s neg : Bool) {r : Nat} (h : r < signN s) : nothingV s ((fm s).word neg r : Nat) = decide ((fm s).infRung < r) := by
 rw [nothing_iff s _ (by omega) (by rw [top_sgn]; exact_mod_cast word_lt s neg h), word_mod s neg h, infV_eq]
 exact decide_eq_decide.2 (by omega)
theorem clean_word (s neg : Bool) {r : Nat} (h : r ≤ (fm s).infRung) : cleanV s ((fm s).word neg r : Nat) = ((fm s).word neg r : Nat) := by
 unfold cleanV
 rw [nothing_word s neg (Nat.lt_of_le_of_lt h (inf_lt s)), decide_eq_false (by omega)]
 simp
theorem clean_near (s neg : Bool) (m : Nat) (e : Int) : cleanV s ((fm s).nearest neg m e : Nat) = ((fm s).nearest neg m e : Nat) := by
 rw [Fl.nearest_rung]; exact clean_word s neg (Fl.rung_le _ _ _)
end Go.Proofs.YtmoimcblmmcffaaGreat.NC
