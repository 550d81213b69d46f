/- Contracts and plain laws that the law ComplexesReal leans on (texts joined by program; what it does not come to is left out). -/
import Derived.Test.YtmoimcblmmcffaaGreatQComplexesRealB
import Derived.Test.YtmoimcblmmcffaaGreatQComplexesRealI
import Derived.Test.YtmoimcblmmcffaaGreatQComplexesRealG
import Derived.Test.YtmoimcblmmcffaaGreatQComplexesRealH

namespace Go.Proofs.YtmoimcblmmcffaaGreat.PRA
open Go.RowKit Go.Proofs.YtmoimcblmmcffaaGreatW.PrintWords Go.Proofs.YtmoimcblmmcffaaGreatW.PrintLast Go.Proofs.YtmoimcblmmcffaaGreatW.PrintMore Go.Proofs.YtmoimcblmmcffaaGreatW.PrintZ
attribute [local go_sem] max2_int min2_int max_two min_two max_three min_three max_four min_four   -- for this text's walks alone
set_option linter.unusedVariables false
set_option linter.unusedSimpArgs false
def r10_TypeErr.f (a0 : Int) : Option (Int) := if a0 = 3 then (some 0) else (if a0 = 4 then (some 0) else (some 27))
set_option maxHeartbeats 8000000 in
set_option maxRecDepth 100000 in
theorem r10_TypeErr.calls (a0 : Int) (r : Int) (w : World) (h : r10_TypeErr.f a0 = some r) :
  Calls Tryz.prog 39 #[.int .i64 a0] w fun e w' => e = .returned (.int .i64 r) ∧ Drawn0 w w' := by
 have H : (if a0 = 3 then (some 0) else (if a0 = 4 then (some 0) else (some 27))) = some r := h
 clear h
 by_cases c2 : a0 = 3
 ·rw [if_pos c2] at H
  have c2b0 : (a0 == 3) = true := beq_iff_eq.mpr c2
  have c2b1 : (a0 != 3) = false := bne_eq_false_iff_eq.mpr c2
  clear c2
  obtain rfl := Option.some.inj H
  go_enter Tryz.func39, Tryz.ntmps39
  go_wp2
  go_ret
  exact ⟨by first | rfl | (simp; done) | (simp [*]; done), by repeat (first | exact Drawn0.refl _ | apply Drawn0.step)⟩
 ·rw [if_neg c2] at H
  have c2b0 : (a0 == 3) = false := beq_eq_false_iff_ne.mpr c2
  have c2b1 : (a0 != 3) = true := bne_iff_ne.mpr c2
  by_cases c3 : a0 = 4
  ·rw [if_pos c3] at H
   have c3b0 : (a0 == 4) = true := beq_iff_eq.mpr c3
   have c3b1 : (a0 != 4) = false := bne_eq_false_iff_eq.mpr c3
   clear c3
   obtain rfl := Option.some.inj H
   go_enter Tryz.func39, Tryz.ntmps39
   go_wp2
   go_ret
   exact ⟨by first | rfl | (simp; done) | (simp [*]; done), by repeat (first | exact Drawn0.refl _ | apply Drawn0.step)⟩
  ·rw [if_neg c3] at H
   have c3b0 : (a0 == 4) = false := beq_eq_false_iff_ne.mpr c3
   have c3b1 : (a0 != 4) = true := bne_iff_ne.mpr c3
   obtain rfl := Option.some.inj H
   go_enter Tryz.func39, Tryz.ntmps39
   go_wp2
   go_ret
   exact ⟨by first | rfl | (simp; done) | (simp [*]; done), by repeat (first | exact Drawn0.refl _ | apply Drawn0.step)⟩
def r10_ValueErr.f (a0_0 : Int) (a0_1 : Int) (a0_2 : Int) (a0_3 : ByteArray) : Option (Int) := (r10_TypeErr.f a0_0).bind fun t189 => (if t189 = 0 then (if a0_3.toList = ([] : List UInt8) then (if a0_0 = 3 then (if a0_1 ≥ 4294967296 then (some 3) else (if a0_2 ≥ 4294967296 then (some 3) else (some 0))) else (some 0)) else (some 3)) else (some t189))
set_option maxHeartbeats 8000000 in
set_option maxRecDepth 100000 in
theorem r10_ValueErr.calls (a0_0 : Int) (a0_1 : Int) (a0_2 : Int) (a0_3 : ByteArray) (r : Int) (w : World) (h : r10_ValueErr.f a0_0 a0_1 a0_2 a0_3 = some r) :
  Calls Tryz.prog 29 #[.agg #[.int .i64 a0_0, .int .u64 a0_1, .int .u64 a0_2, .string a0_3]] w fun e w' => e = .returned (.int .i64 r) ∧ Below w.heap.size w w' := by
 have hu24 := Tryz.underlying24
 have HB := Aside0.mk (Below.refl w.heap.size w)
 have H : ((r10_TypeErr.f a0_0).bind fun t189 => (if t189 = 0 then (if a0_3.toList = ([] : List UInt8) then (if a0_0 = 3 then (if a0_1 ≥ 4294967296 then (some 3) else (if a0_2 ≥ 4294967296 then (some 3) else (some 0))) else (some 0)) else (some 3)) else (some t189))) = some r := h
 clear h
 replace H := Option.bind_eq_some_iff.mp H
 obtain ⟨t189, A2, H⟩ := H
 try dsimp only at H
 replace A2 := Aside0.mk A2
 by_cases c3 : t189 = 0
 ·rw [if_pos c3] at H
  have c3b0 : (t189 == 0) = true := beq_iff_eq.mpr c3
  have c3b1 : (t189 != 0) = false := bne_eq_false_iff_eq.mpr c3
  clear c3
  by_cases c4 : a0_3.toList = ([] : List UInt8)
  ·rw [if_pos c4] at H
   have c4b0 : (a0_3.toList == ([] : List UInt8)) = true := beq_iff_eq.mpr c4
   have c4b0z := c4b0
   simp only [beqn] at c4b0z
   have c4b1 : (a0_3.toList != ([] : List UInt8)) = false := bne_eq_false_iff_eq.mpr c4
   clear c4
   by_cases c5 : a0_0 = 3
   ·rw [if_pos c5] at H
    have c5b0 : (a0_0 == 3) = true := beq_iff_eq.mpr c5
    have c5b1 : (a0_0 != 3) = false := bne_eq_false_iff_eq.mpr c5
    clear c5
    by_cases c6 : a0_1 ≥ 4294967296
    ·rw [if_pos c6] at H
     have c6b0 : decide (4294967296 ≤ a0_1) = true := decide_eq_true c6
     clear c6
     obtain rfl := Option.some.inj H
     go_enter Tryz.func29, Tryz.ntmps29
     go_wp2_with (first | ((with_reducible refine gate_dst (N := 1) rfl ?_); refine bxe 1 (cs := #[.int .i64 a0_0, .int .u64 a0_1, .int .u64 a0_2, .string a0_3]) (t := 24) ?_; intro gb188 hg w7 hbox hb; have BK188 := Aside0.mk hbox; have GW188 := bsz HB hg; have GE188 := bsz HB hg; replace HB := bls HB hb; clear hb hbox hg; obtain ⟨hcz8_0, hcz8_1, hcz8_2, hcz8_3, hfz8_0, hfz8_1, hfz8_2, hfz8_3⟩ := cf4 BK188) | ((with_reducible refine gate_callee (f := 39) rfl ?_); refine gLc 6 Tryz.func39 (r10_TypeErr.calls a0_0 t189 _ A2.out) (fun _ h_ => ?_); obtain ⟨nd, rfl⟩ := h_))
     go_ret
     exact fin_ (blt HB)
    ·rw [if_neg c6] at H
     have c6b0 : decide (4294967296 ≤ a0_1) = false := decide_eq_false c6
     clear c6
     by_cases c9 : a0_2 ≥ 4294967296
     ·rw [if_pos c9] at H
      have c9b0 : decide (4294967296 ≤ a0_2) = true := decide_eq_true c9
      clear c9
      obtain rfl := Option.some.inj H
      go_enter Tryz.func29, Tryz.ntmps29
      go_wp2_with (first | ((with_reducible refine gate_dst (N := 1) rfl ?_); refine bxe 1 (cs := #[.int .i64 a0_0, .int .u64 a0_1, .int .u64 a0_2, .string a0_3]) (t := 24) ?_; intro gb188 hg w10 hbox hb; have BK188 := Aside0.mk hbox; have GW188 := bsz HB hg; have GE188 := bsz HB hg; replace HB := bls HB hb; clear hb hbox hg; obtain ⟨hcz11_0, hcz11_1, hcz11_2, hcz11_3, hfz11_0, hfz11_1, hfz11_2, hfz11_3⟩ := cf4 BK188) | ((with_reducible refine gate_callee (f := 39) rfl ?_); refine gLc 6 Tryz.func39 (r10_TypeErr.calls a0_0 t189 _ A2.out) (fun _ h_ => ?_); obtain ⟨nd, rfl⟩ := h_))
      go_ret
      exact fin_ (blt HB)
     ·rw [if_neg c9] at H
      have c9b0 : decide (4294967296 ≤ a0_2) = false := decide_eq_false c9
      clear c9
      obtain rfl := Option.some.inj H
      go_enter Tryz.func29, Tryz.ntmps29
      go_wp2_with (first | ((with_reducible refine gate_dst (N := 1) rfl ?_); refine bxe 1 (cs := #[.int .i64 a0_0, .int .u64 a0_1, .int .u64 a0_2, .string a0_3]) (t := 24) ?_; intro gb188 hg w12 hbox hb; have BK188 := Aside0.mk hbox; have GW188 := bsz HB hg; have GE188 := bsz HB hg; replace HB := bls HB hb; clear hb hbox hg; obtain ⟨hcz13_0, hcz13_1, hcz13_2, hcz13_3, hfz13_0, hfz13_1, hfz13_2, hfz13_3⟩ := cf4 BK188) | ((with_reducible refine gate_callee (f := 39) rfl ?_); refine gLc 6 Tryz.func39 (r10_TypeErr.calls a0_0 t189 _ A2.out) (fun _ h_ => ?_); obtain ⟨nd, rfl⟩ := h_))
      go_ret
      exact fin_ (blt HB)
   ·rw [if_neg c5] at H
    have c5b0 : (a0_0 == 3) = false := beq_eq_false_iff_ne.mpr c5
    have c5b1 : (a0_0 != 3) = true := bne_iff_ne.mpr c5
    obtain rfl := Option.some.inj H
    go_enter Tryz.func29, Tryz.ntmps29
    go_wp2_with (first | ((with_reducible refine gate_dst (N := 1) rfl ?_); refine bxe 1 (cs := #[.int .i64 a0_0, .int .u64 a0_1, .int .u64 a0_2, .string a0_3]) (t := 24) ?_; intro gb188 hg w14 hbox hb; have BK188 := Aside0.mk hbox; have GW188 := bsz HB hg; have GE188 := bsz HB hg; replace HB := bls HB hb; clear hb hbox hg; obtain ⟨hcz15_0, hcz15_1, hcz15_2, hcz15_3, hfz15_0, hfz15_1, hfz15_2, hfz15_3⟩ := cf4 BK188) | ((with_reducible refine gate_callee (f := 39) rfl ?_); refine gLc 6 Tryz.func39 (r10_TypeErr.calls a0_0 t189 _ A2.out) (fun _ h_ => ?_); obtain ⟨nd, rfl⟩ := h_))
    go_ret
    exact fin_ (blt HB)
  ·rw [if_neg c4] at H
   have c4b0 : (a0_3.toList == ([] : List UInt8)) = false := beq_eq_false_iff_ne.mpr c4
   have c4b0z := c4b0
   simp only [beqn] at c4b0z
   have c4b1 : (a0_3.toList != ([] : List UInt8)) = true := bne_iff_ne.mpr c4
   obtain rfl := Option.some.inj H
   go_enter Tryz.func29, Tryz.ntmps29
   go_wp2_with (first | ((with_reducible refine gate_dst (N := 1) rfl ?_); refine bxe 1 (cs := #[.int .i64 a0_0, .int .u64 a0_1, .int .u64 a0_2, .string a0_3]) (t := 24) ?_; intro gb188 hg w16 hbox hb; have BK188 := Aside0.mk hbox; have GW188 := bsz HB hg; have GE188 := bsz HB hg; replace HB := bls HB hb; clear hb hbox hg; obtain ⟨hcz17_0, hcz17_1, hcz17_2, hcz17_3, hfz17_0, hfz17_1, hfz17_2, hfz17_3⟩ := cf4 BK188) | ((with_reducible refine gate_callee (f := 39) rfl ?_); refine gLc 6 Tryz.func39 (r10_TypeErr.calls a0_0 t189 _ A2.out) (fun _ h_ => ?_); obtain ⟨nd, rfl⟩ := h_))
   go_ret
   exact fin_ (blt HB)
 ·rw [if_neg c3] at H
  have c3b0 : (t189 == 0) = false := beq_eq_false_iff_ne.mpr c3
  have c3b1 : (t189 != 0) = true := bne_iff_ne.mpr c3
  obtain rfl := Option.some.inj H
  go_enter Tryz.func29, Tryz.ntmps29
  go_wp2_with (first | ((with_reducible refine gate_dst (N := 1) rfl ?_); refine bxe 1 (cs := #[.int .i64 a0_0, .int .u64 a0_1, .int .u64 a0_2, .string a0_3]) (t := 24) ?_; intro gb188 hg w18 hbox hb; have BK188 := Aside0.mk hbox; have GW188 := bsz HB hg; have GE188 := bsz HB hg; replace HB := bls HB hb; clear hb hbox hg; obtain ⟨hcz19_0, hcz19_1, hcz19_2, hcz19_3, hfz19_0, hfz19_1, hfz19_2, hfz19_3⟩ := cf4 BK188) | ((with_reducible refine gate_callee (f := 39) rfl ?_); refine gLc 6 Tryz.func39 (r10_TypeErr.calls a0_0 t189 _ A2.out) (fun _ h_ => ?_); obtain ⟨nd, rfl⟩ := h_))
  go_ret
  exact fin_ (blt HB)
def r10_TwoErr.f (a0_0 : Int) (a0_1 : Int) (a0_2 : Int) (a0_3 : ByteArray) (a1_0 : Int) (a1_1 : Int) (a1_2 : Int) (a1_3 : ByteArray) : Option (Int) := (r10_ValueErr.f a0_0 a0_1 a0_2 a0_3).bind fun t192 => (if t192 = 0 then ((r10_ValueErr.f a1_0 a1_1 a1_2 a1_3).bind fun t193 => (if t193 = 0 then (if a0_0 = a1_0 then (some 0) else (some 27)) else (some t193))) else (some t192))
set_option maxHeartbeats 8000000 in
set_option maxRecDepth 100000 in
theorem r10_TwoErr.calls (a0_0 : Int) (a0_1 : Int) (a0_2 : Int) (a0_3 : ByteArray) (a1_0 : Int) (a1_1 : Int) (a1_2 : Int) (a1_3 : ByteArray) (r : Int) (w : World) (h : r10_TwoErr.f a0_0 a0_1 a0_2 a0_3 a1_0 a1_1 a1_2 a1_3 = some r) :
  Calls Tryz.prog 13 #[.agg #[.int .i64 a0_0, .int .u64 a0_1, .int .u64 a0_2, .string a0_3], .agg #[.int .i64 a1_0, .int .u64 a1_1, .int .u64 a1_2, .string a1_3]] w fun e w' => e = .returned (.int .i64 r) ∧ Below w.heap.size w w' := by
 have hu24 := Tryz.underlying24
 have HB := Aside0.mk (Below.refl w.heap.size w)
 have H : ((r10_ValueErr.f a0_0 a0_1 a0_2 a0_3).bind fun t192 => (if t192 = 0 then ((r10_ValueErr.f a1_0 a1_1 a1_2 a1_3).bind fun t193 => (if t193 = 0 then (if a0_0 = a1_0 then (some 0) else (some 27)) else (some t193))) else (some t192))) = some r := h
 clear h
 replace H := Option.bind_eq_some_iff.mp H
 obtain ⟨t192, A3, H⟩ := H
 try dsimp only at H
 replace A3 := Aside0.mk A3
 by_cases c4 : t192 = 0
 ·rw [if_pos c4] at H
  have c4b0 : (t192 == 0) = true := beq_iff_eq.mpr c4
  have c4b1 : (t192 != 0) = false := bne_eq_false_iff_eq.mpr c4
  clear c4
  replace H := Option.bind_eq_some_iff.mp H
  obtain ⟨t193, A5, H⟩ := H
  try dsimp only at H
  replace A5 := Aside0.mk A5
  by_cases c6 : t193 = 0
  ·rw [if_pos c6] at H
   have c6b0 : (t193 == 0) = true := beq_iff_eq.mpr c6
   have c6b1 : (t193 != 0) = false := bne_eq_false_iff_eq.mpr c6
   clear c6
   by_cases c7 : a0_0 = a1_0
   ·rw [if_pos c7] at H
    have c7b0 : (a0_0 == a1_0) = true := beq_iff_eq.mpr c7
    have c7b1 : (a0_0 != a1_0) = false := bne_eq_false_iff_eq.mpr c7
    clear c7
    obtain rfl := Option.some.inj H
    go_enter Tryz.func13, Tryz.ntmps13
    go_wp2_with (first | ((with_reducible refine gate_dst (N := 2) rfl ?_); refine bxe 2 (cs := #[.int .i64 a0_0, .int .u64 a0_1, .int .u64 a0_2, .string a0_3]) (t := 24) ?_; intro gb190 hg w8 hbox hb; have BK190 := Aside0.mk hbox; have GW190 := bsz HB hg; have GE190 := bsz HB hg; replace HB := bls HB hb; clear hb hbox hg) | ((with_reducible refine gate_dst (N := 3) rfl ?_); refine bxe 3 (cs := #[.int .i64 a1_0, .int .u64 a1_1, .int .u64 a1_2, .string a1_3]) (t := 24) ?_; intro gb191 hg w9 hbox hb; have BK191 := Aside0.mk hbox; have GW191 := bsz HB hg; have GE191 := bsz HB hg; have NB190_191 := bnl BK190 hg; have NB191_190 := bng BK190 hg; replace BK190 := bkb BK190 hb; replace HB := bls HB hb; clear hb hbox hg; have hnb10 := NB190_191.out; have hnc10 := NB191_190.out; obtain ⟨hcz11_0, hcz11_1, hcz11_2, hcz11_3, hfz11_0, hfz11_1, hfz11_2, hfz11_3⟩ := cf4 BK190) | ((with_reducible refine gate_callee (f := 29) rfl ?_); refine gLc 8 Tryz.func29 (r10_ValueErr.calls a0_0 a0_1 a0_2 a0_3 t192 _ A3.out) (fun w12 hb => ?_); replace BK190 := bkb BK190 hb; replace BK191 := bkb BK191 hb; replace HB := bls HB hb; clear hb; obtain ⟨hcz13_0, hcz13_1, hcz13_2, hcz13_3, hfz13_0, hfz13_1, hfz13_2, hfz13_3⟩ := cf4 BK191) | ((with_reducible refine gate_callee (f := 29) rfl ?_); refine gLc 13 Tryz.func29 (r10_ValueErr.calls a1_0 a1_1 a1_2 a1_3 t193 _ A5.out) (fun w14 hb => ?_); replace BK190 := bkb BK190 hb; replace BK191 := bkb BK191 hb; replace HB := bls HB hb; clear hb; obtain ⟨hcz15_0, hcz15_1, hcz15_2, hcz15_3, hfz15_0, hfz15_1, hfz15_2, hfz15_3⟩ := cf4 BK190; obtain ⟨hcz16_0, hcz16_1, hcz16_2, hcz16_3, hfz16_0, hfz16_1, hfz16_2, hfz16_3⟩ := cf4 BK191))
    go_ret
    exact fin_ (blt HB)
   ·rw [if_neg c7] at H
    have c7b0 : (a0_0 == a1_0) = false := beq_eq_false_iff_ne.mpr c7
    have c7b1 : (a0_0 != a1_0) = true := bne_iff_ne.mpr c7
    obtain rfl := Option.some.inj H
    go_enter Tryz.func13, Tryz.ntmps13
    go_wp2_with (first | ((with_reducible refine gate_dst (N := 2) rfl ?_); refine bxe 2 (cs := #[.int .i64 a0_0, .int .u64 a0_1, .int .u64 a0_2, .string a0_3]) (t := 24) ?_; intro gb190 hg w17 hbox hb; have BK190 := Aside0.mk hbox; have GW190 := bsz HB hg; have GE190 := bsz HB hg; replace HB := bls HB hb; clear hb hbox hg) | ((with_reducible refine gate_dst (N := 3) rfl ?_); refine bxe 3 (cs := #[.int .i64 a1_0, .int .u64 a1_1, .int .u64 a1_2, .string a1_3]) (t := 24) ?_; intro gb191 hg w18 hbox hb; have BK191 := Aside0.mk hbox; have GW191 := bsz HB hg; have GE191 := bsz HB hg; have NB190_191 := bnl BK190 hg; have NB191_190 := bng BK190 hg; replace BK190 := bkb BK190 hb; replace HB := bls HB hb; clear hb hbox hg; have hnb19 := NB190_191.out; have hnc19 := NB191_190.out; obtain ⟨hcz20_0, hcz20_1, hcz20_2, hcz20_3, hfz20_0, hfz20_1, hfz20_2, hfz20_3⟩ := cf4 BK190) | ((with_reducible refine gate_callee (f := 29) rfl ?_); refine gLc 8 Tryz.func29 (r10_ValueErr.calls a0_0 a0_1 a0_2 a0_3 t192 _ A3.out) (fun w21 hb => ?_); replace BK190 := bkb BK190 hb; replace BK191 := bkb BK191 hb; replace HB := bls HB hb; clear hb; obtain ⟨hcz22_0, hcz22_1, hcz22_2, hcz22_3, hfz22_0, hfz22_1, hfz22_2, hfz22_3⟩ := cf4 BK191) | ((with_reducible refine gate_callee (f := 29) rfl ?_); refine gLc 13 Tryz.func29 (r10_ValueErr.calls a1_0 a1_1 a1_2 a1_3 t193 _ A5.out) (fun w23 hb => ?_); replace BK190 := bkb BK190 hb; replace BK191 := bkb BK191 hb; replace HB := bls HB hb; clear hb; obtain ⟨hcz24_0, hcz24_1, hcz24_2, hcz24_3, hfz24_0, hfz24_1, hfz24_2, hfz24_3⟩ := cf4 BK190; obtain ⟨hcz25_0, hcz25_1, hcz25_2, hcz25_3, hfz25_0, hfz25_1, hfz25_2, hfz25_3⟩ := cf4 BK191))
    go_ret
    exact fin_ (blt HB)
  ·rw [if_neg c6] at H
   have c6b0 : (t193 == 0) = false := beq_eq_false_iff_ne.mpr c6
   have c6b1 : (t193 != 0) = true := bne_iff_ne.mpr c6
   obtain rfl := Option.some.inj H
   go_enter Tryz.func13, Tryz.ntmps13
   go_wp2_with (first | ((with_reducible refine gate_dst (N := 2) rfl ?_); refine bxe 2 (cs := #[.int .i64 a0_0, .int .u64 a0_1, .int .u64 a0_2, .string a0_3]) (t := 24) ?_; intro gb190 hg w26 hbox hb; have BK190 := Aside0.mk hbox; have GW190 := bsz HB hg; have GE190 := bsz HB hg; replace HB := bls HB hb; clear hb hbox hg) | ((with_reducible refine gate_dst (N := 3) rfl ?_); refine bxe 3 (cs := #[.int .i64 a1_0, .int .u64 a1_1, .int .u64 a1_2, .string a1_3]) (t := 24) ?_; intro gb191 hg w27 hbox hb; have BK191 := Aside0.mk hbox; have GW191 := bsz HB hg; have GE191 := bsz HB hg; have NB190_191 := bnl BK190 hg; have NB191_190 := bng BK190 hg; replace BK190 := bkb BK190 hb; replace HB := bls HB hb; clear hb hbox hg; have hnb28 := NB190_191.out; have hnc28 := NB191_190.out; obtain ⟨hcz29_0, hcz29_1, hcz29_2, hcz29_3, hfz29_0, hfz29_1, hfz29_2, hfz29_3⟩ := cf4 BK190) | ((with_reducible refine gate_callee (f := 29) rfl ?_); refine gLc 8 Tryz.func29 (r10_ValueErr.calls a0_0 a0_1 a0_2 a0_3 t192 _ A3.out) (fun w30 hb => ?_); replace BK190 := bkb BK190 hb; replace BK191 := bkb BK191 hb; replace HB := bls HB hb; clear hb; obtain ⟨hcz31_0, hcz31_1, hcz31_2, hcz31_3, hfz31_0, hfz31_1, hfz31_2, hfz31_3⟩ := cf4 BK191) | ((with_reducible refine gate_callee (f := 29) rfl ?_); refine gLc 13 Tryz.func29 (r10_ValueErr.calls a1_0 a1_1 a1_2 a1_3 t193 _ A5.out) (fun w32 hb => ?_); replace BK190 := bkb BK190 hb; replace BK191 := bkb BK191 hb; replace HB := bls HB hb; clear hb))
   go_ret
   exact fin_ (blt HB)
 ·rw [if_neg c4] at H
  have c4b0 : (t192 == 0) = false := beq_eq_false_iff_ne.mpr c4
  have c4b1 : (t192 != 0) = true := bne_iff_ne.mpr c4
  obtain rfl := Option.some.inj H
  go_enter Tryz.func13, Tryz.ntmps13
  go_wp2_with (first | ((with_reducible refine gate_dst (N := 2) rfl ?_); refine bxe 2 (cs := #[.int .i64 a0_0, .int .u64 a0_1, .int .u64 a0_2, .string a0_3]) (t := 24) ?_; intro gb190 hg w33 hbox hb; have BK190 := Aside0.mk hbox; have GW190 := bsz HB hg; have GE190 := bsz HB hg; replace HB := bls HB hb; clear hb hbox hg) | ((with_reducible refine gate_dst (N := 3) rfl ?_); refine bxe 3 (cs := #[.int .i64 a1_0, .int .u64 a1_1, .int .u64 a1_2, .string a1_3]) (t := 24) ?_; intro gb191 hg w34 hbox hb; have BK191 := Aside0.mk hbox; have GW191 := bsz HB hg; have GE191 := bsz HB hg; have NB190_191 := bnl BK190 hg; have NB191_190 := bng BK190 hg; replace BK190 := bkb BK190 hb; replace HB := bls HB hb; clear hb hbox hg; have hnb35 := NB190_191.out; have hnc35 := NB191_190.out; obtain ⟨hcz36_0, hcz36_1, hcz36_2, hcz36_3, hfz36_0, hfz36_1, hfz36_2, hfz36_3⟩ := cf4 BK190) | ((with_reducible refine gate_callee (f := 29) rfl ?_); refine gLc 8 Tryz.func29 (r10_ValueErr.calls a0_0 a0_1 a0_2 a0_3 t192 _ A3.out) (fun w37 hb => ?_); replace BK190 := bkb BK190 hb; replace BK191 := bkb BK191 hb; replace HB := bls HB hb; clear hb))
  go_ret
  exact fin_ (blt HB)
end Go.Proofs.YtmoimcblmmcffaaGreat.PRA

namespace Go.Proofs.YtmoimcblmmcffaaGreat.B
open Go.RowKit NC N PPC PRA
set_option linter.unusedSimpArgs false
set_option linter.unusedVariables false
theorem addR_lt {s : Bool} {a b : Nat} (ha : a < 2 * signN s) (hb : b < 2 * signN s) : addR s a b < 2 * signN s := by
 have h := add_eq ha hb
 exact nat_rg (h ▸ res_rg s .add (a : Int).toNat (b : Int).toNat)
theorem subR_lt {s : Bool} {a b : Nat} (ha : a < 2 * signN s) (hb : b < 2 * signN s) : subR s a b < 2 * signN s := by
 have h := sub_eq ha hb
 exact nat_rg (h ▸ res_rg s .sub (a : Int).toNat (b : Int).toNat)
theorem u64B_nat {s : Bool} {x : Nat} (h : x < 2 * signN s) : u64B (x : Int) = true := by
 have := (rg_nat h).u64
 unfold u64B
 rw [decide_eq_true this.1, decide_eq_true this.2]; rfl
theorem apply_f {op : Int} {s : Bool} {x y : Nat} (h0 : 0 ≤ op) (h6 : op ≤ 6) (hx : x < 2 * signN s) (hy : y < 2 * signN s) : rl_Apply.f op (tv s) (x : Int) (y : Int) = some (((opR op s x y : Nat) : Int), 0) := by
 have he : applyErrV op (tv s) (x : Int) (y : Int) = 0 := by unfold applyErrV; rw [if_pos (kind0 h0 h6)]; exact (rg_nat hx).valid2 (rg_nat hy)
 unfold rl_Apply.f
 rw [u64B_nat hx, u64B_nat hy, if_pos (show (true && true) = true from rfl), he, if_pos rfl, tv_eq, op_eq hx hy h0 h6]
section
variable {s : Bool} {x y : Nat} (hx : x < 2 * signN s) (hy : y < 2 * signN s)
include hx hy
theorem fadd : fd_add.f (tv s) (x : Int) (y : Int) = some ((addR s x y : Nat) : Int) := by
 unfold fd_add.f fd_operation.f; rw [apply_f (by decide) (by decide) hx hy]; rfl
theorem fsub : fd_sub.f (tv s) (x : Int) (y : Int) = some ((subR s x y : Nat) : Int) := by
 unfold fd_sub.f fd_operation.f; rw [apply_f (by decide) (by decide) hx hy]; rfl
theorem fmul : fd_mul.f (tv s) (x : Int) (y : Int) = some ((mulR s x y : Nat) : Int) := by
 unfold fd_mul.f fd_operation.f; rw [apply_f (by decide) (by decide) hx hy]; rfl
theorem rcmp : r8_Compare.f (tv s) (x : Int) (y : Int) = some (cmpR s x y) := on2_tv hx hy
end
def ct (s : Bool) : Int := if s then 3 else 4
theorem rpart (s : Bool) : r10_PartType.f (ct s) = some (tv s) := by cases s <;> rfl
theorem cpart_ct (s : Bool) : cpart (ct s) = tv s := by cases s <;> rfl
theorem fvalue (s : Bool) (x y : Int) : fd_value.f (tv s) x y = some (ct s, x, y, (⟨#[]⟩ : ByteArray)) := by cases s <;> rfl
abbrev NB : ByteArray := ⟨#[]⟩
end Go.Proofs.YtmoimcblmmcffaaGreat.B

namespace Go.Proofs.YtmoimcblmmcffaaGreat.PPC
open Go.RowKit Go.Proofs.YtmoimcblmmcffaaGreatW.PrintWords Go.Proofs.YtmoimcblmmcffaaGreatW.PrintLast Go.Proofs.YtmoimcblmmcffaaGreatW.PrintMore Go.Proofs.YtmoimcblmmcffaaGreatW.PrintZ
attribute [local go_sem] max2_int min2_int max_two min_two max_three min_three max_four min_four   -- for this text's walks alone
set_option linter.unusedVariables false
set_option linter.unusedSimpArgs false
def fd_squareRoot.j0 : Nat → Int → Bool → Int → Int → Option (Int × Int)
 | 0, _, _, _, _ => none
 | k + 1, x0, x17, x186000, x186001 => if x17 = true then (some (0, x186001)) else ((fd_size.f x0 x186000).bind fun t189 => ((fd_distance.f k x0 x186000 x186001).bind fun t190 => ((fd_add.f x0 t189 t190).bind fun t191 => ((fd_half.f x0).bind fun t192 => ((fd_mul.f x0 t191 t192).bind fun t193 => ((fd_root.f x0 t193).bind fun t194 => ((fd_order.f x0 x186000 0).bind fun t195 => (if t195 = (-1) then ((fd_size.f x0 x186001).bind fun t199 => ((fd_div.f x0 t199 t194).bind fun t200 => ((fd_half.f x0).bind fun t201 => ((fd_mul.f x0 t200 t201).bind fun t202 => ((fd_operation.f x0 4 t194 x186001).bind fun t203 => (some (t202, t203))))))) else ((fd_div.f x0 x186001 t194).bind fun t196 => ((fd_half.f x0).bind fun t197 => ((fd_mul.f x0 t196 t197).bind fun t198 => (some (t194, t198)))))))))))))
def fd_squareRoot.f (k : Nat) (a0 : Int) (a1_0 : Int) (a1_1 : Int) : Option (Int × Int) := (fd_kind.f a0 a1_0).bind fun t187 => (if t187 = 0 then ((fd_kind.f a0 a1_1).bind fun t188 => (fd_squareRoot.j0 k a0 (t188 == 0) a1_0 a1_1)) else (fd_squareRoot.j0 k a0 false a1_0 a1_1))
def fd_squareRoot.T3 : Bool × List (List Nat × List Nat) := (true, [([], []), ([], []), ([], []), ([], []), ([], []), ([4], [4]), ([3, 5], [3, 5]), ([], []), ([], []), ([7, 8, 6], [7, 8]), ([2, 6, 9, 9], [2, 6, 9]), ([], []), ([11, 10], [11]), ([1, 10, 12, 12], [1, 10, 12]), ([0, 13, 13], [0, 13]), ([14, 14, 0, 1, 2, 3, 4, 5, 6, 7, 8, 9, 10, 11, 12, 13, 14], [14])])
def fd_squareRoot.B3 : List Nat := [0, 0, 0, 0, 0, 16, 56, 0, 0, 504, 1020, 0, 4092, 8190, 16383, 32767]
theorem fd_squareRoot.tab3 : rtab .any (opsOf Tryz.f82 3) = fd_squareRoot.T3 := by kernel_rfl
theorem fd_squareRoot.bits3 : waitsOk fd_squareRoot.T3.2 fd_squareRoot.B3 = true := by kernel_rfl
def fd_squareRoot.T6 : Bool × List (List Nat × List Nat) := (true, [([], []), ([], []), ([], []), ([], []), ([3], [3]), ([2, 4], [2, 4]), ([], []), ([1, 5, 6, 5], [1, 5, 6]), ([], []), ([8, 7], [8]), ([0, 7, 9, 9], [0, 7, 9]), ([], []), ([], []), ([], []), ([13], [13]), ([11, 12, 14, 10], [11, 12, 14]), ([10, 15], [10, 15]), ([16, 15, 0, 1, 2, 3, 4, 5, 6, 7, 8, 9, 10, 11, 12, 13, 14, 15, 16], [16])])
def fd_squareRoot.B6 : List Nat := [0, 0, 0, 0, 8, 28, 0, 126, 0, 510, 1023, 0, 0, 0, 8192, 32767, 65535, 131071]
theorem fd_squareRoot.tab6 : rtab .any (opsOf Tryz.f82 6) = fd_squareRoot.T6 := by kernel_rfl
theorem fd_squareRoot.bits6 : waitsOk fd_squareRoot.T6.2 fd_squareRoot.B6 = true := by kernel_rfl
set_option maxHeartbeats 8000000 in
set_option maxRecDepth 100000 in
theorem fd_squareRoot.calls (k : Nat) (a0 : Int) (a1_0 : Int) (a1_1 : Int) (r1 : Int) (r2 : Int) (w : World) (h : fd_squareRoot.f k a0 a1_0 a1_1 = some (r1, r2)) :
  Calls Tryz.prog 82 #[.int .i64 a0, .agg #[.int .u64 a1_0, .int .u64 a1_1]] w fun e w' => e = .returned (.agg #[.int .u64 r1, .int .u64 r2]) ∧ Below w.heap.size w w' := by
 have hu74 := Tryz.underlying74
 have HB := Aside0.mk (Below.refl w.heap.size w)
 have H : ((fd_kind.f a0 a1_0).bind fun t187 => (if t187 = 0 then ((fd_kind.f a0 a1_1).bind fun t188 => (fd_squareRoot.j0 k a0 (t188 == 0) a1_0 a1_1)) else (fd_squareRoot.j0 k a0 false a1_0 a1_1))) = some (r1, r2) := h
 clear h
 have HC3 := Aside0.mk H
 clear H
 go_enter Tryz.func82, Tryz.ntmps82
 go_upto_region 1 with (first | ((with_reducible refine gate_dst (N := 3) rfl ?_); refine bxe 3 (cs := #[.int .u64 a1_0, .int .u64 a1_1]) (t := 74) ?_; intro gb185 hg w4 hbox hb; have BK185 := Aside0.mk hbox; have GW185 := bsz HB hg; have GE185 := bsz HB hg; replace HB := bls HB hb; clear hb hbox hg) | ((with_reducible refine gate_dst (N := 4) rfl ?_); refine bxe 4 (cs := #[.int .u64 0, .int .u64 0]) (t := 74) ?_; intro gb186 hg w5 hbox hb; have BK186 := Aside0.mk hbox; have GW186 := bsz HB hg; have GE186 := bsz HB hg; have NB185_186 := bnl BK185 hg; have NB186_185 := bng BK185 hg; replace BK185 := bkb BK185 hb; replace HB := bls HB hb; clear hb hbox hg))
 (try simp only [Act.put, List.setIfInBounds_toArray, List.set_cons_zero, List.set_cons_succ])
 go_cut [17] (fun v17 wc => ∃ (kq : Nat) (x17_2 : Bool), v17 = .bool x17_2 ∧ Aside0 (fd_squareRoot.j0 kq a0 x17_2 a1_0 a1_1 = some (r1, r2)) ∧ Aside0 (kq ≤ k) ∧ Aside0 (wc.heap[gb185]? = some (.cells #[.int .u64 a1_0, .int .u64 a1_1] 74 (0, 0))) ∧ Aside0 (wc.heap[gb186]? = some (.cells #[.int .u64 0, .int .u64 0] 74 (0, 0))) ∧ Aside0 (Below w.heap.size w wc))
 case first =>
  have H := HC3.out
  clear HC3
  replace H := Option.bind_eq_some_iff.mp H
  obtain ⟨t187, A6, H⟩ := H
  try dsimp only at H
  replace A6 := Aside0.mk A6
  by_cases c7 : t187 = 0
  ·rw [if_pos c7] at H
   have c7b0 : (t187 == 0) = true := beq_iff_eq.mpr c7
   have c7b1 : (t187 != 0) = false := bne_eq_false_iff_eq.mpr c7
   clear c7
   (first | rw [c7b0] | (simp only [i64_w, i32_w]; rw [c7b0]) | skip)
   replace H := Option.bind_eq_some_iff.mp H
   obtain ⟨t188, A8, H⟩ := H
   try dsimp only at H
   replace A8 := Aside0.mk A8
   have H' := Aside0.mk H
   clear H
   have hnb9 := NB185_186.out
   have hnc9 := NB186_185.out
   obtain ⟨hcz10_0, hcz10_1, hfz10_0, hfz10_1⟩ := cf2 BK185
   go_wp2_with (first | ((with_reducible refine gate_callee (f := 119) rfl ?_); refine gLc 9 Tryz.func119 (fd_kind.calls a0 a1_0 t187 _ A6.out) (fun w11 hb => ?_); replace BK185 := bkb BK185 hb; replace BK186 := bkb BK186 hb; replace HB := bls HB hb; clear hb; obtain ⟨hcz12_0, hcz12_1, hfz12_0, hfz12_1⟩ := cf2 BK185) | (go_at_call 119; (with_reducible refine (fd_kind.calls a0 a1_1 t188 _ A8.out).mono ?_); rintro e w13 ⟨rfl, hb⟩; replace BK185 := bkb BK185 hb; replace BK186 := bkb BK186 hb; replace HB := bls HB hb; clear hb))
   go_meet
   case rel => exact ⟨_, ((t188 == 0)), (by first | rfl | (simp; done) | (simp [*]; done)), H', ⟨by first | omega | exact Nat.le_refl _⟩, bks BK185, bks BK186, blt HB⟩
  ·rw [if_neg c7] at H
   have c7b0 : (t187 == 0) = false := beq_eq_false_iff_ne.mpr c7
   have c7b1 : (t187 != 0) = true := bne_iff_ne.mpr c7
   (first | rw [c7b0] | (simp only [i64_w, i32_w]; rw [c7b0]) | skip)
   have H' := Aside0.mk H
   clear H
   have hnb14 := NB185_186.out
   have hnc14 := NB186_185.out
   obtain ⟨hcz15_0, hcz15_1, hfz15_0, hfz15_1⟩ := cf2 BK185
   go_wp2_with (first | ((with_reducible refine gate_callee (f := 119) rfl ?_); refine gLc 9 Tryz.func119 (fd_kind.calls a0 a1_0 t187 _ A6.out) (fun w16 hb => ?_); replace BK185 := bkb BK185 hb; replace BK186 := bkb BK186 hb; replace HB := bls HB hb; clear hb))
   go_meet
   case rel => exact ⟨_, (false), (by first | rfl | (simp; done) | (simp [*]; done)), H', ⟨by first | omega | exact Nat.le_refl _⟩, bks BK185, bks BK186, blt HB⟩
 case rest =>
  clear HC3
  try clear c1
  try clear p2
  try clear c7
  try clear c7b0
  try clear c7b1
  try clear c8
  try clear c9
  try clear c11
  try clear c14
  try clear hcz10_0
  try clear hcz10_1
  try clear hcz12_0
  try clear hcz12_1
  try clear hcz15_0
  try clear hcz15_1
  try clear hfz10_0
  try clear hfz10_1
  try clear hfz12_0
  try clear hfz12_1
  try clear hfz15_0
  try clear hfz15_1
  obtain ⟨kq, x17_2, rfl, HA, HJ2, BK185, BK186, HB⟩ := hcut
  cases kq with
  | zero => exact absurd HA.out (by simp [fd_squareRoot.j0])
  | succ kj2 =>
   have H := HA.out
   clear HA
   simp only [fd_squareRoot.j0] at H
   by_cases c17 : x17_2 = true
   ·subst c17
    have H1 : (some (0, a1_1)) = some (r1, r2) := by rw [if_pos rfl] at H; exact H
    clear H
    have H := H1
    clear H1
    simp only [Option.some.injEq, Prod.mk.injEq] at H
    obtain ⟨rfl, rfl⟩ := H
    have hnb18 := NB185_186.out
    have hnc18 := NB186_185.out
    obtain ⟨hcz19_0, hcz19_1, hfz19_0, hfz19_1⟩ := cf2 BK185
    obtain ⟨hcz20_0, hcz20_1, hfz20_0, hfz20_1⟩ := cf2 BK186
    go_wp2
    refine bodyPost_ret (results_cell_row rfl _ _ gb186 74 #[.int .u64 0, .int .u64 a1_1] (0, 0) _ rfl (by (with_reducible repeat (first | refine blk_drewN ?_ _ | refine blk_drew ?_ | refine blk_alloc ?_ _)); apply bp2; (with_reducible repeat (first | refine blk_drewN ?_ _ | refine blk_drew ?_ | refine blk_alloc ?_ _)); exact BK186.out) Tryz.underlying74 rfl (by kernel_rfl)) rfl ?_
    exact fin_ (blt HB)
   ·replace c17 := Bool.eq_false_iff.mpr c17
    subst c17
    have H1 : ((fd_size.f a0 a1_0).bind fun t189 => ((fd_distance.f kj2 a0 a1_0 a1_1).bind fun t190 => ((fd_add.f a0 t189 t190).bind fun t191 => ((fd_half.f a0).bind fun t192 => ((fd_mul.f a0 t191 t192).bind fun t193 => ((fd_root.f a0 t193).bind fun t194 => ((fd_order.f a0 a1_0 0).bind fun t195 => (if t195 = (-1) then ((fd_size.f a0 a1_1).bind fun t199 => ((fd_div.f a0 t199 t194).bind fun t200 => ((fd_half.f a0).bind fun t201 => ((fd_mul.f a0 t200 t201).bind fun t202 => ((fd_operation.f a0 4 t194 a1_1).bind fun t203 => (some (t202, t203))))))) else ((fd_div.f a0 a1_1 t194).bind fun t196 => ((fd_half.f a0).bind fun t197 => ((fd_mul.f a0 t196 t197).bind fun t198 => (some (t194, t198))))))))))))) = some (r1, r2) := by rw [if_neg (show ¬ (false = true) by decide)] at H; exact H
    clear H
    have H := H1
    clear H1
    replace H := Option.bind_eq_some_iff.mp H
    obtain ⟨t189, A21, H⟩ := H
    try dsimp only at H
    replace A21 := Aside0.mk A21
    replace H := Option.bind_eq_some_iff.mp H
    obtain ⟨t190, A22, H⟩ := H
    try dsimp only at H
    replace A22 := Aside0.mk A22
    replace H := Option.bind_eq_some_iff.mp H
    obtain ⟨t191, A23, H⟩ := H
    try dsimp only at H
    replace A23 := Aside0.mk A23
    replace H := Option.bind_eq_some_iff.mp H
    obtain ⟨t192, A24, H⟩ := H
    try dsimp only at H
    replace A24 := Aside0.mk A24
    replace H := Option.bind_eq_some_iff.mp H
    obtain ⟨t193, A25, H⟩ := H
    try dsimp only at H
    replace A25 := Aside0.mk A25
    replace H := Option.bind_eq_some_iff.mp H
    obtain ⟨t194, A26, H⟩ := H
    try dsimp only at H
    replace A26 := Aside0.mk A26
    replace H := Option.bind_eq_some_iff.mp H
    obtain ⟨t195, A27, H⟩ := H
    try dsimp only at H
    replace A27 := Aside0.mk A27
    by_cases c28 : t195 = (-1)
    ·rw [if_pos c28] at H
     have c28b0 : (t195 == (-1)) = true := beq_iff_eq.mpr c28
     have c28b1 : (t195 != (-1)) = false := bne_eq_false_iff_eq.mpr c28
     clear c28
     replace H := Option.bind_eq_some_iff.mp H
     obtain ⟨t199, A29, H⟩ := H
     try dsimp only at H
     replace A29 := Aside0.mk A29
     replace H := Option.bind_eq_some_iff.mp H
     obtain ⟨t200, A30, H⟩ := H
     try dsimp only at H
     replace A30 := Aside0.mk A30
     replace H := Option.bind_eq_some_iff.mp H
     obtain ⟨t201, A31, H⟩ := H
     try dsimp only at H
     replace A31 := Aside0.mk A31
     replace H := Option.bind_eq_some_iff.mp H
     obtain ⟨t202, A32, H⟩ := H
     try dsimp only at H
     replace A32 := Aside0.mk A32
     replace H := Option.bind_eq_some_iff.mp H
     obtain ⟨t203, A33, H⟩ := H
     try dsimp only at H
     replace A33 := Aside0.mk A33
     simp only [Option.some.injEq, Prod.mk.injEq] at H
     obtain ⟨rfl, rfl⟩ := H
     try go_wp2
     replace BK185 := Aside0.mk (blk_drew BK185.out)
     replace BK186 := Aside0.mk (blk_drew BK186.out)
     replace HB := Aside0.mk (below_drew1 HB.out)
     refine start_ (n := 16) (S := fun w' => w'.cell? ⟨gb185, 0, none⟩ = some (.int .u64 a1_0) ∧ w'.cell? ⟨gb185, 1, none⟩ = some (.int .u64 a1_1)) (ds := []) #[false, false, false, false, false, false, false, false, false, false, false, false, false, false, false, false] (by kernel_rfl) rfl rfl (cf2c BK185) (fun hHeld => ?_); refine with_tabW fd_squareRoot.tab3 fd_squareRoot.bits3 (fun HT_ HW_ => ?_)
     generalize wc.drew = w34 at BK185 BK186 HB hHeld ⊢
     refine pu 0 21 HT_ ?_
     refine pu 1 22 HT_ ?_
     refine pu 2 23 HT_ ?_
     refine pu 3 24 HT_ ?_
     refine pu 4 25 HT_ ?_
     refine pu 7 28 HT_ ?_
     refine pu 11 32 HT_ ?_
     refine tk 5 26 HT_ HW_ hHeld ?_
     refine tk 8 29 HT_ HW_ hHeld ?_
     refine on 6 27 HT_ (fun K hK => ?_)
     refine gsc Tryz.func100 (fd_size.calls a0 a1_0 t189 _ A21.out) (fun w35 hb => ?_)
     replace BK185 := bkb BK185 hb
     replace BK186 := bkb BK186 hb
     replace HB := bls HB hb
     (try clear hb)
     (try clear hb2)
     (try clear hk)
     (try clear hi)
     refine hK.out _ _ (cf2c BK185) (fun hHeld => ?_)
     clear hK K
     refine nm 27 ?_
     refine on 9 30 HT_ (fun K hK => ?_)
     refine gsc Tryz.func79 (fd_distance.calls kj2 a0 a1_0 a1_1 t190 _ A22.out) (fun w36 hb => ?_)
     replace BK185 := bkb BK185 hb
     replace BK186 := bkb BK186 hb
     replace HB := bls HB hb
     (try clear hb)
     (try clear hb2)
     (try clear hk)
     (try clear hi)
     refine hK.out _ _ (cf2c BK185) (fun hHeld => ?_)
     clear hK K
     refine nm 30 ?_
     refine on 10 31 HT_ (fun K hK => ?_)
     refine gsc Tryz.func97 (fd_add.calls a0 t189 t190 t191 _ A23.out) (fun w37 hb => ?_)
     replace BK185 := bkb BK185 hb
     replace BK186 := bkb BK186 hb
     replace HB := bls HB hb
     (try clear hb)
     (try clear hb2)
     (try clear hk)
     (try clear hi)
     refine hK.out _ _ (cf2c BK185) (fun hHeld => ?_)
     clear hK K
     refine nm 31 ?_
     refine on 12 33 HT_ (fun K hK => ?_)
     refine gsc Tryz.func123 (fd_half.calls a0 t192 _ A24.out) (fun w38 hb => ?_)
     replace BK185 := bkb BK185 hb
     replace BK186 := bkb BK186 hb
     replace HB := bls HB hb
     (try clear hb)
     (try clear hb2)
     (try clear hk)
     (try clear hi)
     refine hK.out _ _ (cf2c BK185) (fun hHeld => ?_)
     clear hK K
     refine nm 33 ?_
     refine on 13 34 HT_ (fun K hK => ?_)
     refine gsc Tryz.func99 (fd_mul.calls a0 t191 t192 t193 _ A25.out) (fun w39 hb => ?_)
     replace BK185 := bkb BK185 hb
     replace BK186 := bkb BK186 hb
     replace HB := bls HB hb
     (try clear hb)
     (try clear hb2)
     (try clear hk)
     (try clear hi)
     refine hK.out _ _ (cf2c BK185) (fun hHeld => ?_)
     clear hK K
     refine nm 34 ?_
     refine on 14 35 HT_ (fun K hK => ?_)
     refine gsc Tryz.func121 (fd_root.calls a0 t193 t194 _ A26.out) (fun w40 hb => ?_)
     replace BK185 := bkb BK185 hb
     replace BK186 := bkb BK186 hb
     replace HB := bls HB hb
     (try clear hb)
     (try clear hb2)
     (try clear hk)
     (try clear hi)
     refine hK.out _ _ (cf2c BK185) (fun hHeld => ?_)
     clear hK K
     refine nm 35 ?_
     refine pu 15 5 HT_ ?_
     refine done_ (done_of HT_.out (by kernel_rfl)) ?_
     have hnb41 := NB185_186.out
     have hnc41 := NB186_185.out
     obtain ⟨hcz42_0, hcz42_1, hfz42_0, hfz42_1⟩ := cf2 BK185
     try go_wp2_with (first | ((with_reducible refine gate_callee (f := 92) rfl ?_); refine gLc 39 Tryz.func92 (fd_order.calls a0 a1_0 0 t195 _ A27.out) (fun w43 hb => ?_); replace BK185 := bkb BK185 hb; replace BK186 := bkb BK186 hb; replace HB := bls HB hb; clear hb))
     replace BK185 := Aside0.mk (blk_drew BK185.out)
     replace BK186 := Aside0.mk (blk_drew BK186.out)
     replace HB := Aside0.mk (below_drew1 HB.out)
     refine start_ (n := 18) (S := fun w' => w'.cell? ⟨gb185, 0, none⟩ = some (.int .u64 a1_0) ∧ w'.cell? ⟨gb185, 1, none⟩ = some (.int .u64 a1_1)) (ds := []) #[false, false, false, false, false, false, false, false, false, false, false, false, false, false, false, false, false, false] (by kernel_rfl) rfl rfl (cf2c BK185) (fun hHeld => ?_); refine with_tabW fd_squareRoot.tab6 fd_squareRoot.bits6 (fun HT_ HW_ => ?_)
     generalize w43.drew = w44 at BK185 BK186 HB hHeld ⊢
     refine pu 0 52 HT_ ?_
     refine pu 1 53 HT_ ?_
     refine pu 2 54 HT_ ?_
     refine pu 3 55 HT_ ?_
     refine pu 6 58 HT_ ?_
     refine pu 8 60 HT_ ?_
     refine pu 11 63 HT_ ?_
     refine pu 12 64 HT_ ?_
     refine pu 13 65 HT_ ?_
     refine tk 4 56 HT_ HW_ hHeld ?_
     refine tk 14 66 HT_ HW_ hHeld ?_
     refine on 5 57 HT_ (fun K hK => ?_)
     refine gsc Tryz.func100 (fd_size.calls a0 a1_1 t199 _ A29.out) (fun w45 hb => ?_)
     replace BK185 := bkb BK185 hb
     replace BK186 := bkb BK186 hb
     replace HB := bls HB hb
     (try clear hb)
     (try clear hb2)
     (try clear hk)
     (try clear hi)
     refine hK.out _ _ (cf2c BK185) (fun hHeld => ?_)
     clear hK K
     refine nm 57 ?_
     refine on 7 59 HT_ (fun K hK => ?_)
     refine gsc Tryz.func101 (fd_div.calls a0 t199 t194 t200 _ A30.out) (fun w46 hb => ?_)
     replace BK185 := bkb BK185 hb
     replace BK186 := bkb BK186 hb
     replace HB := bls HB hb
     (try clear hb)
     (try clear hb2)
     (try clear hk)
     (try clear hi)
     refine hK.out _ _ (cf2c BK185) (fun hHeld => ?_)
     clear hK K
     refine nm 59 ?_
     refine on 9 61 HT_ (fun K hK => ?_)
     refine gsc Tryz.func123 (fd_half.calls a0 t201 _ A31.out) (fun w47 hb => ?_)
     replace BK185 := bkb BK185 hb
     replace BK186 := bkb BK186 hb
     replace HB := bls HB hb
     (try clear hb)
     (try clear hb2)
     (try clear hk)
     (try clear hi)
     refine hK.out _ _ (cf2c BK185) (fun hHeld => ?_)
     clear hK K
     refine nm 61 ?_
     refine on 10 62 HT_ (fun K hK => ?_)
     refine gsc Tryz.func99 (fd_mul.calls a0 t200 t201 t202 _ A32.out) (fun w48 hb => ?_)
     replace BK185 := bkb BK185 hb
     replace BK186 := bkb BK186 hb
     replace HB := bls HB hb
     (try clear hb)
     (try clear hb2)
     (try clear hk)
     (try clear hi)
     refine hK.out _ _ (cf2c BK185) (fun hHeld => ?_)
     clear hK K
     refine nm 62 ?_
     refine on 15 67 HT_ (fun K hK => ?_)
     refine gsc Tryz.func120 (fd_operation.calls a0 4 t194 a1_1 t203 _ A33.out) (fun w49 hb => ?_)
     replace BK185 := bkb BK185 hb
     replace BK186 := bkb BK186 hb
     replace HB := bls HB hb
     (try clear hb)
     (try clear hb2)
     (try clear hk)
     (try clear hi)
     refine hK.out _ _ (cf2c BK185) (fun hHeld => ?_)
     clear hK K
     refine nm 67 ?_
     refine pu 16 68 HT_ ?_
     refine one_ (i := 17) (N := none) #[true, true, true, true, true, true, true, true, true, true, true, true, true, true, true, true, true, true] rfl rfl (one_of HT_.out (by kernel_rfl)) (by decide) (fun K hK => ?_)
     have hs50 : w49.cell? ⟨gb186, 0, none⟩ = some (.int .u64 0) := (blk_cell BK186.out 0).trans rfl
     have hfs50 := blk_frozen BK186.out 0
     have hns50_0 := NB185_186.out
     have hms50_0 := NB186_185.out
     have hs51 : w49.cell? ⟨gb186, 1, none⟩ = some (.int .u64 0) := (blk_cell BK186.out 1).trans rfl
     have hfs51 := blk_frozen BK186.out 1
     have hns51_0 := NB185_186.out
     have hms51_0 := NB186_185.out
     refine skip_ (w1 := ?_) (by rfl) rfl ?_ ?_
     rotate_left
     ·go_simp
      rfl
     refine hK.out _ _ ⟨((cell_far (p := ⟨gb186, _, none⟩) NB185_186.out _).trans (((cell_far (p := ⟨gb186, _, none⟩) NB185_186.out _).trans (hHeld.1)))), ((cell_far (p := ⟨gb186, _, none⟩) NB185_186.out _).trans (((cell_far (p := ⟨gb186, _, none⟩) NB185_186.out _).trans (hHeld.2))))⟩ (fun hHeld => ?_)
     clear hK K
     refine done_ (done_of HT_.out (by kernel_rfl)) ?_
     try go_wp2
     refine bodyPost_ret (results_cell_row rfl _ _ gb186 74 #[.int .u64 t202, .int .u64 t203] (0, 0) _ rfl (by (with_reducible repeat (first | refine blk_drewN ?_ _ | refine blk_drew ?_ | refine blk_alloc ?_ _)); apply bp2; (with_reducible repeat (first | refine blk_drewN ?_ _ | refine blk_drew ?_ | refine blk_alloc ?_ _)); exact BK186.out) Tryz.underlying74 rfl (by kernel_rfl)) rfl ?_
     exact fin_ (blt HB)
    ·rw [if_neg c28] at H
     have c28b0 : (t195 == (-1)) = false := beq_eq_false_iff_ne.mpr c28
     have c28b1 : (t195 != (-1)) = true := bne_iff_ne.mpr c28
     replace H := Option.bind_eq_some_iff.mp H
     obtain ⟨t196, A52, H⟩ := H
     try dsimp only at H
     replace A52 := Aside0.mk A52
     replace H := Option.bind_eq_some_iff.mp H
     obtain ⟨t197, A53, H⟩ := H
     try dsimp only at H
     replace A53 := Aside0.mk A53
     replace H := Option.bind_eq_some_iff.mp H
     obtain ⟨t198, A54, H⟩ := H
     try dsimp only at H
     replace A54 := Aside0.mk A54
     simp only [Option.some.injEq, Prod.mk.injEq] at H
     obtain ⟨rfl, rfl⟩ := H
     try go_wp2
     replace BK185 := Aside0.mk (blk_drew BK185.out)
     replace BK186 := Aside0.mk (blk_drew BK186.out)
     replace HB := Aside0.mk (below_drew1 HB.out)
     refine start_ (n := 16) (S := fun w' => w'.cell? ⟨gb185, 0, none⟩ = some (.int .u64 a1_0) ∧ w'.cell? ⟨gb185, 1, none⟩ = some (.int .u64 a1_1)) (ds := []) #[false, false, false, false, false, false, false, false, false, false, false, false, false, false, false, false] (by kernel_rfl) rfl rfl (cf2c BK185) (fun hHeld => ?_); refine with_tabW fd_squareRoot.tab3 fd_squareRoot.bits3 (fun HT_ HW_ => ?_)
     generalize wc.drew = w55 at BK185 BK186 HB hHeld ⊢
     refine pu 0 21 HT_ ?_
     refine pu 1 22 HT_ ?_
     refine pu 2 23 HT_ ?_
     refine pu 3 24 HT_ ?_
     refine pu 4 25 HT_ ?_
     refine pu 7 28 HT_ ?_
     refine pu 11 32 HT_ ?_
     refine tk 5 26 HT_ HW_ hHeld ?_
     refine tk 8 29 HT_ HW_ hHeld ?_
     refine on 6 27 HT_ (fun K hK => ?_)
     refine gsc Tryz.func100 (fd_size.calls a0 a1_0 t189 _ A21.out) (fun w56 hb => ?_)
     replace BK185 := bkb BK185 hb
     replace BK186 := bkb BK186 hb
     replace HB := bls HB hb
     (try clear hb)
     (try clear hb2)
     (try clear hk)
     (try clear hi)
     refine hK.out _ _ (cf2c BK185) (fun hHeld => ?_)
     clear hK K
     refine nm 27 ?_
     refine on 9 30 HT_ (fun K hK => ?_)
     refine gsc Tryz.func79 (fd_distance.calls kj2 a0 a1_0 a1_1 t190 _ A22.out) (fun w57 hb => ?_)
     replace BK185 := bkb BK185 hb
     replace BK186 := bkb BK186 hb
     replace HB := bls HB hb
     (try clear hb)
     (try clear hb2)
     (try clear hk)
     (try clear hi)
     refine hK.out _ _ (cf2c BK185) (fun hHeld => ?_)
     clear hK K
     refine nm 30 ?_
     refine on 10 31 HT_ (fun K hK => ?_)
     refine gsc Tryz.func97 (fd_add.calls a0 t189 t190 t191 _ A23.out) (fun w58 hb => ?_)
     replace BK185 := bkb BK185 hb
     replace BK186 := bkb BK186 hb
     replace HB := bls HB hb
     (try clear hb)
     (try clear hb2)
     (try clear hk)
     (try clear hi)
     refine hK.out _ _ (cf2c BK185) (fun hHeld => ?_)
     clear hK K
     refine nm 31 ?_
     refine on 12 33 HT_ (fun K hK => ?_)
     refine gsc Tryz.func123 (fd_half.calls a0 t192 _ A24.out) (fun w59 hb => ?_)
     replace BK185 := bkb BK185 hb
     replace BK186 := bkb BK186 hb
     replace HB := bls HB hb
     (try clear hb)
     (try clear hb2)
     (try clear hk)
     (try clear hi)
     refine hK.out _ _ (cf2c BK185) (fun hHeld => ?_)
     clear hK K
     refine nm 33 ?_
     refine on 13 34 HT_ (fun K hK => ?_)
     refine gsc Tryz.func99 (fd_mul.calls a0 t191 t192 t193 _ A25.out) (fun w60 hb => ?_)
     replace BK185 := bkb BK185 hb
     replace BK186 := bkb BK186 hb
     replace HB := bls HB hb
     (try clear hb)
     (try clear hb2)
     (try clear hk)
     (try clear hi)
     refine hK.out _ _ (cf2c BK185) (fun hHeld => ?_)
     clear hK K
     refine nm 34 ?_
     refine on 14 35 HT_ (fun K hK => ?_)
     refine gsc Tryz.func121 (fd_root.calls a0 t193 t194 _ A26.out) (fun w61 hb => ?_)
     replace BK185 := bkb BK185 hb
     replace BK186 := bkb BK186 hb
     replace HB := bls HB hb
     (try clear hb)
     (try clear hb2)
     (try clear hk)
     (try clear hi)
     refine hK.out _ _ (cf2c BK185) (fun hHeld => ?_)
     clear hK K
     refine nm 35 ?_
     refine pu 15 5 HT_ ?_
     refine done_ (done_of HT_.out (by kernel_rfl)) ?_
     have hnb62 := NB185_186.out
     have hnc62 := NB186_185.out
     obtain ⟨hcz63_0, hcz63_1, hfz63_0, hfz63_1⟩ := cf2 BK185
     try go_wp2_with (first | ((with_reducible refine gate_callee (f := 92) rfl ?_); refine gLc 39 Tryz.func92 (fd_order.calls a0 a1_0 0 t195 _ A27.out) (fun w64 hb => ?_); replace BK185 := bkb BK185 hb; replace BK186 := bkb BK186 hb; replace HB := bls HB hb; clear hb; obtain ⟨hcz65_0, hcz65_1, hfz65_0, hfz65_1⟩ := cf2 BK185) | ((with_reducible refine gate_callee (f := 101) rfl ?_); refine gLc 47 Tryz.func101 (fd_div.calls a0 a1_1 t194 t196 _ A52.out) (fun w66 hb => ?_); replace BK185 := bkb BK185 hb; replace BK186 := bkb BK186 hb; replace HB := bls HB hb; clear hb) | ((with_reducible refine gate_callee (f := 123) rfl ?_); refine gLc 49 Tryz.func123 (fd_half.calls a0 t197 _ A53.out) (fun w67 hb => ?_); replace BK185 := bkb BK185 hb; replace BK186 := bkb BK186 hb; replace HB := bls HB hb; clear hb) | ((with_reducible refine gate_callee (f := 99) rfl ?_); refine gLc 50 Tryz.func99 (fd_mul.calls a0 t196 t197 t198 _ A54.out) (fun w68 hb => ?_); replace BK185 := bkb BK185 hb; replace BK186 := bkb BK186 hb; replace HB := bls HB hb; clear hb; obtain ⟨hcz69_0, hcz69_1, hfz69_0, hfz69_1⟩ := cf2 BK186))
     refine bodyPost_ret (results_cell_row rfl _ _ gb186 74 #[.int .u64 t194, .int .u64 t198] (0, 0) _ rfl (by (with_reducible repeat (first | refine blk_drewN ?_ _ | refine blk_drew ?_ | refine blk_alloc ?_ _)); apply bp2; (with_reducible repeat (first | refine blk_drewN ?_ _ | refine blk_drew ?_ | refine blk_alloc ?_ _)); exact BK186.out) Tryz.underlying74 rfl (by kernel_rfl)) rfl ?_
     exact fin_ (blt HB)
end Go.Proofs.YtmoimcblmmcffaaGreat.PPC

namespace Go.Proofs.YtmoimcblmmcffaaGreat.PPC
open Go.RowKit Go.Proofs.YtmoimcblmmcffaaGreatW.PrintWords Go.Proofs.YtmoimcblmmcffaaGreatW.PrintLast Go.Proofs.YtmoimcblmmcffaaGreatW.PrintMore Go.Proofs.YtmoimcblmmcffaaGreatW.PrintZ
attribute [local go_sem] max2_int min2_int max_two min_two max_three min_three max_four min_four   -- for this text's walks alone
set_option linter.unusedVariables false
set_option linter.unusedSimpArgs false


mutual
def cx_list.l0 : Nat → Int → List (S74) → List (S24) → Int → Int → Option ((List (S74)) × Int)
 | 0, _, _, _, _, _ => none
 | k + 1, x0, x6, x12, x13, x14 => if x14 < x13 then (if 0 ≤ x14 then (if x14 < (x12.length : Int) then ((cx_open.f ((rd_T24 x12 x14).f0) ((rd_T24 x12 x14).f1) ((rd_T24 x12 x14).f2) ((rd_T24 x12 x14).f3)).bind fun bt245 => (if bt245.2.2.2 = 0 then (cx_list.j1 k x0 x6 bt245.2.2.2 x12 x13 x14 (((rd_T24 x12 x14).f0) != x0) bt245.2.1 bt245.2.2.1) else (cx_list.j1 k x0 x6 bt245.2.2.2 x12 x13 x14 false bt245.2.1 bt245.2.2.1))) else (none)) else (none)) else (some (x6, 0))
def cx_list.j1 : Nat → Int → List (S74) → Int → List (S24) → Int → Int → Bool → Int → Int → Option ((List (S74)) × Int)
 | 0, _, _, _, _, _, _, _, _, _ => none
 | k + 1, x0, x6, x11, x12, x13, x14, x31, x250000, x250001 => if x31 = true then (if 27 = 0 then (if x6.length < 8796093022208 then (cx_list.l0 k x0 (x6 ++ [(⟨x250000, x250001⟩ : S74)]) x12 x13 (wrap64 (x14 + 1))) else (none)) else (some (([] : List (S74)), 27))) else (if x11 = 0 then (if x6.length < 8796093022208 then (cx_list.l0 k x0 (x6 ++ [(⟨x250000, x250001⟩ : S74)]) x12 x13 (wrap64 (x14 + 1))) else (none)) else (some (([] : List (S74)), x11)))
end
def cx_list.f (k : Nat) (a0 : Int) (l1 : List (S24)) : Option ((List (S74)) × Int) := cx_list.l0 k a0 ([] : List (S74)) l1 (l1.length : Int) 0
set_option maxHeartbeats 8000000 in
set_option maxRecDepth 100000 in
theorem cx_list.calls (k : Nat) (a0 : Int) (A1 : Option Addr) (c1 : Nat) (l1 : List (S24)) (r1 : List (S74)) (r2 : Int) (w : World) (hr1 : Kd.C k24 w A1 l1.length l1) (hc1 : l1.length ≤ c1) (h : cx_list.f k a0 l1 = some (r1, r2)) :
  Calls Tryz.prog 89 #[.int .i64 a0, .slice A1 l1.length c1] w fun e w' => ∃ v0_ : Value, e = .returned (.tuple #[v0_, .int .i64 r2]) ∧ Kd.R k74 74 w' w.heap.size (fun _ => True) v0_ r1 ∧ Below w.heap.size w w' := by
 have hu24 := Tryz.underlying24
 have hu74 := Tryz.underlying74
 have HR1 := Aside0.mk hr1
 have HC1 := Aside0.mk hc1
 clear hr1 hc1
 have HB := Aside0.mk (Below.refl w.heap.size w)
 have H : (cx_list.l0 k a0 ([] : List (S74)) l1 (l1.length : Int) 0) = some (r1, r2) := h
 clear h
 have H' := Aside0.mk H
 clear H
 go_enter Tryz.func89, Tryz.ntmps89
 go_wp2
 go_loopg [6, 14] k (fun kq v6 v14 w' => ∃ (x6_1 : List (S74)) (x14_1 : Int), v14 = .int .i64 x14_1 ∧ Aside0 (cx_list.l0 kq a0 x6_1 l1 (l1.length : Int) x14_1 = some (r1, r2)) ∧ Aside0 (kq ≤ k) ∧ Aside0 (Kd.R k74 74 w' w.heap.size (fun _ => True) v6 x6_1) ∧ Aside0 (Below w.heap.size w w'))
 case atStart => exact ⟨(([] : List (S74))), (0), (by first | rfl | (simp; done) | (simp [*]; done)), H', ⟨Nat.le_refl _⟩, ⟨by first | exact Kd.R_nil _ _ _ _ _ | exact Kd.N_nil _ _ _ _ _ | exact Kd.V_nil _ _ _ _ _ | exact Kd.Q_nil _ _ _ _ _ | exact Kd.S_nil _ _ _ _ _⟩, blt HB⟩
 case round =>
  clear H'
  try clear c1
  try clear p2
  obtain ⟨x6_1, x14_1, rfl, HA, HK1, HO_6, HB⟩ := hrel
  cases gk with
  | zero => exact absurd HA.out (by simp [cx_list.l0])
  | succ k1 =>
   have H := HA.out
   clear HA
   simp only [cx_list.l0] at H
   by_cases c3 : x14_1 < (l1.length : Int)
   ·rw [if_pos c3] at H
    have c3b0 : decide (x14_1 < (l1.length : Int)) = true := decide_eq_true c3
    clear c3
    by_cases c4 : 0 ≤ x14_1
    ·rw [if_pos c4] at H
     have c4b0 : decide (0 ≤ x14_1) = true := decide_eq_true c4
     clear c4
     by_cases c5 : x14_1 < (l1.length : Int)
     ·rw [if_pos c5] at H
      have c5b0 : decide (x14_1 < (l1.length : Int)) = true := decide_eq_true c5
      clear c5
      replace H := Option.bind_eq_some_iff.mp H
      obtain ⟨⟨t245, t246, t247, t248⟩, A6, H⟩ := H
      try dsimp only at H
      replace A6 := Aside0.mk A6
      have HC7 := Aside0.mk H
      clear H
      have p243 : 0 ≤ (x14_1 : Int) := of_decide_eq_true (by first | (with_reducible assumption) | assumption)
      have q243 : x14_1 < (l1.length : Int) := of_decide_eq_true (by first | (with_reducible assumption) | assumption)
      obtain ⟨ad243, e243, hx243_0, hx243_1, hx243_2, hx243_3⟩ := at_T24 HR1.out x14_1 p243 q243
      cases e243
      replace hx243_0 := (HB.out.cell (World.block_lt_of_cell? w _ hx243_0)).trans hx243_0
      replace hx243_1 := (HB.out.cell (World.block_lt_of_cell? w _ hx243_1)).trans hx243_1
      replace hx243_2 := (HB.out.cell (World.block_lt_of_cell? w _ hx243_2)).trans hx243_2
      replace hx243_3 := (HB.out.cell (World.block_lt_of_cell? w _ hx243_3)).trans hx243_3
      replace p243 := eq_true p243
      replace q243 := eq_true q243
      go_upto_region 6 with (first | ((with_reducible refine gate_dst (N := 8) rfl ?_); refine bxe 8 (cs := #[.int .i64 0, .int .u64 0, .int .u64 0, .string (⟨#[]⟩ : ByteArray)]) (t := 24) ?_; intro gb244 hg w8 hbox hb; have BK244 := Aside0.mk hbox; have GW244 := bsz HB hg; have GE244 := bsz HB hg; replace HO_6 := Aside0.mk (Kd.R_below (by (with_reducible repeat (first | apply Kd.R_alloc | apply Kd.R_drewN | apply Kd.R_drew)); exact HO_6.out) hb); replace HB := bls HB hb; clear hb hbox hg; obtain ⟨hcz9_0, hcz9_1, hcz9_2, hcz9_3, hfz9_0, hfz9_1, hfz9_2, hfz9_3⟩ := cf4 BK244) | ((with_reducible refine gate_callee (f := 72) rfl ?_); refine gLc 20 Tryz.func72 (cx_open.calls ((rd_T24 l1 x14_1).f0) ((rd_T24 l1 x14_1).f1) ((rd_T24 l1 x14_1).f2) ((rd_T24 l1 x14_1).f3) t245 t246 t247 t248 _ A6.out) (fun w10 hb => ?_); replace HO_6 := Aside0.mk (Kd.R_below (by (with_reducible repeat (first | apply Kd.R_alloc | apply Kd.R_drewN | apply Kd.R_drew)); exact (Kd.R_mono (Kd.R_far (p := ⟨gb244, 3, none⟩) (Kd.R_far (p := ⟨gb244, 2, none⟩) (Kd.R_far (p := ⟨gb244, 1, none⟩) (Kd.R_far (p := ⟨gb244, 0, none⟩) (Kd.R_types HO_6.out BK244.out (by decide)) (fun _ hk => hk.2) (.int .i64 ((rd_T24 l1 x14_1).f0))) (fun _ hk => hk.2) (.int .u64 ((rd_T24 l1 x14_1).f1))) (fun _ hk => hk.2) (.int .u64 ((rd_T24 l1 x14_1).f2))) (fun _ hk => hk.2) (.string ((rd_T24 l1 x14_1).f3))) (fun _ h_ => h_.1))) hb); replace BK244 := Aside0.mk (blk_below (g := gb244) (o := .cells #[.int .i64 ((rd_T24 l1 x14_1).f0), .int .u64 ((rd_T24 l1 x14_1).f1), .int .u64 ((rd_T24 l1 x14_1).f2), .string ((rd_T24 l1 x14_1).f3)] 24 (0, 0)) (by (with_reducible repeat (first | refine blk_drewN ?_ _ | refine blk_drew ?_ | refine blk_alloc ?_ _)); apply bp4; (with_reducible repeat (first | refine blk_drewN ?_ _ | refine blk_drew ?_ | refine blk_alloc ?_ _)); exact BK244.out) hb); replace HB := bls HB hb; clear hb) | ((with_reducible refine gate_dst (N := 10) rfl ?_); refine bxe 10 (cs := #[.int .u64 0, .int .u64 0]) (t := 74) ?_; intro gb249 hg w11 hbox hb; have BK249 := Aside0.mk hbox; have GW249 := bsz HB hg; have GE249 := bsz HB hg; have NB244_249 := bnl BK244 hg; have NB249_244 := bng BK244 hg; replace HO_6 := Aside0.mk (Kd.R_below (Kd.R_elderB (by (with_reducible repeat (first | apply Kd.R_alloc | apply Kd.R_drewN | apply Kd.R_drew)); exact HO_6.out) gb249 (Nat.le_of_eq hg.symm)) hb); replace BK244 := bkb BK244 hb; replace HB := bls HB hb; clear hb hbox hg; have hnb12 := NB249_244.out; have hnc12 := NB244_249.out; obtain ⟨hcz13_0, hcz13_1, hfz13_0, hfz13_1⟩ := cf2 BK249))
      (try simp only [Act.put, List.setIfInBounds_toArray, List.set_cons_zero, List.set_cons_succ])
      go_cut [31] (fun v31 wc => ∃ (kq : Nat) (x31_6 : Bool), v31 = .bool x31_6 ∧ Aside0 (cx_list.j1 kq a0 x6_1 t248 l1 (l1.length : Int) x14_1 x31_6 t246 t247 = some (r1, r2)) ∧ Aside0 (kq ≤ k1) ∧ Aside0 (Kd.R k74 74 wc w.heap.size (fun k_ => k_ ≠ gb249) u6 x6_1) ∧ Aside0 (wc.heap[gb244]? = some (.cells #[.int .i64 ((rd_T24 l1 x14_1).f0), .int .u64 ((rd_T24 l1 x14_1).f1), .int .u64 ((rd_T24 l1 x14_1).f2), .string ((rd_T24 l1 x14_1).f3)] 24 (0, 0))) ∧ Aside0 (wc.heap[gb249]? = some (.cells #[.int .u64 t246, .int .u64 t247] 74 (0, 0))) ∧ Aside0 (Below w.heap.size w wc))
      case first =>
       have H := HC7.out
       clear HC7
       by_cases c14 : t248 = 0
       ·rw [if_pos c14] at H
        have c14b0 : (t248 == 0) = true := beq_iff_eq.mpr c14
        have c14b1 : (t248 != 0) = false := bne_eq_false_iff_eq.mpr c14
        clear c14
        (first | rw [c14b0] | (simp only [i64_w, i32_w]; rw [c14b0]) | skip)
        have H' := Aside0.mk H
        clear H
        have hnb15 := NB244_249.out
        have hnc15 := NB249_244.out
        obtain ⟨hcz16_0, hcz16_1, hcz16_2, hcz16_3, hfz16_0, hfz16_1, hfz16_2, hfz16_3⟩ := cf4 BK244
        go_wp2
        go_meet
        case rel => exact ⟨_, ((((rd_T24 l1 x14_1).f0) != a0)), (by first | rfl | (simp; done) | (simp [*]; done)), H', ⟨by have := HK1.out; first | omega | exact Nat.le_refl _⟩, ⟨by (with_reducible repeat (first | apply Kd.R_alloc | apply Kd.R_drewN | apply Kd.R_drew)); exact Kd.R_mono (Kd.R_far (p := ⟨gb249, 1, none⟩) (Kd.R_far (p := ⟨gb249, 0, none⟩) (Kd.R_mono HO_6.out (fun k_ hk => (⟨hk, hk.2⟩ : _ ∧ k_ ≠ gb249))) (fun _ hk => hk.2) (.int .u64 t246)) (fun _ hk => hk.2) (.int .u64 t247)) (fun _ hk => hk.1.2)⟩, bkf BK244, ⟨by (with_reducible repeat (first | refine blk_drewN ?_ _ | refine blk_drew ?_ | refine blk_alloc ?_ _)); apply bp2; (with_reducible repeat (first | refine blk_drewN ?_ _ | refine blk_drew ?_ | refine blk_alloc ?_ _)); exact BK249.out⟩, blt HB⟩
       ·rw [if_neg c14] at H
        have c14b0 : (t248 == 0) = false := beq_eq_false_iff_ne.mpr c14
        have c14b1 : (t248 != 0) = true := bne_iff_ne.mpr c14
        (first | rw [c14b0] | (simp only [i64_w, i32_w]; rw [c14b0]) | skip)
        have H' := Aside0.mk H
        clear H
        go_wp2
        go_meet
        case rel => exact ⟨_, (false), (by first | rfl | (simp; done) | (simp [*]; done)), H', ⟨by have := HK1.out; first | omega | exact Nat.le_refl _⟩, ⟨by (with_reducible repeat (first | apply Kd.R_alloc | apply Kd.R_drewN | apply Kd.R_drew)); exact Kd.R_mono (Kd.R_far (p := ⟨gb249, 1, none⟩) (Kd.R_far (p := ⟨gb249, 0, none⟩) (Kd.R_mono HO_6.out (fun k_ hk => (⟨hk, hk.2⟩ : _ ∧ k_ ≠ gb249))) (fun _ hk => hk.2) (.int .u64 t246)) (fun _ hk => hk.2) (.int .u64 t247)) (fun _ hk => hk.1.2)⟩, bkf BK244, ⟨by (with_reducible repeat (first | refine blk_drewN ?_ _ | refine blk_drew ?_ | refine blk_alloc ?_ _)); apply bp2; (with_reducible repeat (first | refine blk_drewN ?_ _ | refine blk_drew ?_ | refine blk_alloc ?_ _)); exact BK249.out⟩, blt HB⟩
      case rest =>
       clear HC7
       try clear c1
       try clear p2
       try clear q2
       try clear hx2
       try clear c3
       try clear c3b0
       try clear c4
       try clear c4b0
       try clear c5
       try clear c5b0
       try clear c7
       try clear c8
       try clear c12
       try clear c14
       try clear c14b0
       try clear c14b1
       try clear c15
       try clear hcz13_0
       try clear hcz13_1
       try clear hcz16_0
       try clear hcz16_1
       try clear hcz16_2
       try clear hcz16_3
       try clear hcz9_0
       try clear hcz9_1
       try clear hcz9_2
       try clear hcz9_3
       try clear hfz13_0
       try clear hfz13_1
       try clear hfz16_0
       try clear hfz16_1
       try clear hfz16_2
       try clear hfz16_3
       try clear hfz9_0
       try clear hfz9_1
       try clear hfz9_2
       try clear hfz9_3
       try clear hx243_0
       try clear hx243_1
       try clear hx243_2
       try clear hx243_3
       try clear p2
       try clear p243
       try clear q243
       obtain ⟨kq, x31_6, rfl, HA, HJ6, HO_6, BK244, BK249, HB⟩ := hcut
       cases kq with
       | zero => exact absurd HA.out (by simp [cx_list.j1])
       | succ kj6 =>
        have H := HA.out
        clear HA
        simp only [cx_list.j1] at H
        by_cases c17 : x31_6 = true
        ·subst c17
         have H1 : (if 27 = 0 then (if x6_1.length < 8796093022208 then (cx_list.l0 kj6 a0 (x6_1 ++ [(⟨t246, t247⟩ : S74)]) l1 (l1.length : Int) (wrap64 (x14_1 + 1))) else (none)) else (some (([] : List (S74)), 27))) = some (r1, r2) := by rw [if_pos rfl] at H; exact H
         clear H
         have H := H1
         clear H1
         by_cases c18 : 27 = 0
         ·exact absurd c18 (by decide)
         ·rw [if_neg c18] at H
          have c18b0 : (27 == 0) = false := beq_eq_false_iff_ne.mpr c18
          have c18b1 : (27 != 0) = true := bne_iff_ne.mpr c18
          simp only [Option.some.injEq, Prod.mk.injEq] at H
          obtain ⟨rfl, rfl⟩ := H
          go_wp2
          go_ret2
          exact ⟨_, by first | rfl | (simp [errW_none, errW_some] <;> rfl) | (simp [*, errW_none, errW_some] <;> rfl), by first | exact Kd.R_nil _ _ _ _ _ | exact Kd.N_nil _ _ _ _ _ | exact Kd.V_nil _ _ _ _ _ | exact Kd.Q_nil _ _ _ _ _ | exact Kd.S_nil _ _ _ _ _, (blt HB).out⟩
        ·replace c17 := Bool.eq_false_iff.mpr c17
         subst c17
         have H1 : (if t248 = 0 then (if x6_1.length < 8796093022208 then (cx_list.l0 kj6 a0 (x6_1 ++ [(⟨t246, t247⟩ : S74)]) l1 (l1.length : Int) (wrap64 (x14_1 + 1))) else (none)) else (some (([] : List (S74)), t248))) = some (r1, r2) := by rw [if_neg (show ¬ (false = true) by decide)] at H; exact H
         clear H
         have H := H1
         clear H1
         by_cases c23 : t248 = 0
         ·rw [if_pos c23] at H
          have c23b0 : (t248 == 0) = true := beq_iff_eq.mpr c23
          have c23b1 : (t248 != 0) = false := bne_eq_false_iff_eq.mpr c23
          clear c23
          by_cases c24 : x6_1.length < 8796093022208
          ·rw [if_pos c24] at H
           have LMc24 := Aside0.mk c24
           clear c24
           obtain ⟨y253, hy253⟩ : ∃ y_ : List (S74), y_ = (x6_1 ++ [(⟨t246, t247⟩ : S74)]) := ⟨_, rfl⟩
           replace H : (cx_list.l0 kj6 a0 y253 l1 (l1.length : Int) (wrap64 (x14_1 + 1))) = some (r1, r2) := by first | (rw [hy253]; with_reducible exact H) | (have H2_ := (Option.bind_some _ _).symm.trans H; rw [hy253]; with_reducible exact H2_) | (have H2_ := (Option.bind_some _ _).symm.trans H; with_reducible exact H2_) | with_reducible exact H | (rw [hy253]; exact H) | exact H
           have Ny253 := Aside0.mk hy253
           clear hy253
           have H' := Aside0.mk H
           clear H
           have hnb25 := NB249_244.out
           have hnc25 := NB244_249.out
           obtain ⟨hcz26_0, hcz26_1, hfz26_0, hfz26_1⟩ := cf2 BK249
           go_wp2_with (first | ((with_reducible refine gate_builtin (b := .append) (xs := #[.tmp 35, .tmp 37]) rfl ?_); at_builtin; refine Kd.R_append k74 (w0 := w) w.heap.size rfl (.tmp 35) (.tmp 37) 103 74 (.agg #[(.int .u64 0), (.int .u64 0)]) 16 rfl Tryz.underlying103 info74 rfl (by decide) (by omega) u6 x6_1 (⟨t246, t247⟩ : S74) [.int .u64 t246, .int .u64 t247] (fun k_ => k_ ≠ gb249) (fun _ => False) rfl rfl ?aP (fun _ hk => hk.elim) ?aF ?aO ?aB ?aS ?aL ?_; (case aP => exact k74_mkM _ _ _ (⟨t246, t247⟩ : S74)); (case aB => exact (blt HB).out); (case aF => exact (fun k_ hk => Kd.freshB (g := gb249) (o := .cells #[.int .u64 t246, .int .u64 t247] 74 (0, 0)) (bks BK249).out k_ hk)); (case aO => exact (by (with_reducible repeat (first | apply Kd.R_alloc | apply Kd.R_drewN | apply Kd.R_drew)); exact HO_6.out)); (case aS => exact (below_size (blt HB).out)); (case aL => have := LMc24.out; omega); intro v254 w27 ho hb hg hat; rw [← Ny253.out] at ho; have n0_ := Aside0.mk (blk_grown (g := gb244) (o := .cells #[.int .i64 ((rd_T24 l1 x14_1).f0), .int .u64 ((rd_T24 l1 x14_1).f1), .int .u64 ((rd_T24 l1 x14_1).f2), .string ((rd_T24 l1 x14_1).f3)] 24 (0, 0)) (bks BK244).out hg (Kd.R_ne HO_6.out BK244.out (by decide))); have n1_ := Aside0.mk (blk_grown (g := gb249) (o := .cells #[.int .u64 t246, .int .u64 t247] 74 (0, 0)) (bks BK249).out hg (Kd.R_away HO_6.out (fun _ hk => hk))); have n2_ := Aside0.mk (hb); have n3_ := Aside0.mk (ho); clear BK244; clear BK249; clear HB; clear HO_6; have BK244 := n0_; have BK249 := n1_; have HB := n2_; have HO255 := n3_; clear n0_ n1_ n2_ n3_; clear ho hb hg hat))
           go_roundg kj6
           case measure => have := HK1.out; have := HJ6.out; omega
           case rel => exact ⟨(y253), (wrap64 (x14_1 + 1)), (by first | rfl | (simp; done) | (simp [*]; done)), H', ⟨by have := HK1.out; have := HJ6.out; omega⟩, ⟨by (with_reducible repeat (first | apply Kd.R_alloc | apply Kd.R_drewN | apply Kd.R_drew)); exact Kd.R_mono HO255.out (fun _ hk => trivial)⟩, blt HB⟩
          ·rw [if_neg c24] at H
           exact absurd H (by simp)
         ·rw [if_neg c23] at H
          have c23b0 : (t248 == 0) = false := beq_eq_false_iff_ne.mpr c23
          have c23b1 : (t248 != 0) = true := bne_iff_ne.mpr c23
          simp only [Option.some.injEq, Prod.mk.injEq] at H
          obtain ⟨rfl, rfl⟩ := H
          go_wp2
          go_ret2
          exact ⟨_, by first | rfl | (simp [errW_none, errW_some] <;> rfl) | (simp [*, errW_none, errW_some] <;> rfl), by first | exact Kd.R_nil _ _ _ _ _ | exact Kd.N_nil _ _ _ _ _ | exact Kd.V_nil _ _ _ _ _ | exact Kd.Q_nil _ _ _ _ _ | exact Kd.S_nil _ _ _ _ _, (blt HB).out⟩
     ·rw [if_neg c5] at H
      exact absurd H (by simp)
    ·rw [if_neg c4] at H
     exact absurd H (by simp)
   ·rw [if_neg c3] at H
    have c3b0 : decide (x14_1 < (l1.length : Int)) = false := decide_eq_false c3
    clear c3
    simp only [Option.some.injEq, Prod.mk.injEq] at H
    obtain ⟨rfl, rfl⟩ := H
    go_wp2
    go_ret2
    exact ⟨_, by first | rfl | (simp [errW_none, errW_some] <;> rfl) | (simp [*, errW_none, errW_some] <;> rfl), by (with_reducible repeat (first | apply Kd.R_alloc | apply Kd.R_drewN | apply Kd.R_drew)); exact HO_6.out, (blt HB).out⟩
def fd_sum.f (a0 : Int) (l1 : List (S74)) : Option (Int × Int) := if l1.length = 1 then some ((rd_T74 l1 0).f0, (rd_T74 l1 0).f1) else none
set_option maxHeartbeats 8000000 in
set_option maxRecDepth 100000 in
theorem fd_sum.calls (a0 : Int) (A1 : Option Addr) (c1 : Nat) (l1 : List (S74)) (r1 : Int) (r2 : Int) (w : World) (hr1 : Kd.C k74 w A1 l1.length l1) (hc1 : l1.length ≤ c1) (h : fd_sum.f a0 l1 = some (r1, r2)) :
  Calls Tryz.prog 90 #[.int .i64 a0, .slice A1 l1.length c1] w fun e w' => e = .returned (.agg #[.int .u64 r1, .int .u64 r2]) ∧ Below w.heap.size w w' := by
 by_cases hl : l1.length = 1
 ·unfold fd_sum.f at h
  rw [if_pos hl] at h
  obtain ⟨x, rfl⟩ := List.length_eq_one_iff.1 hl
  have h := Option.some.inj h
  simp only [Prod.mk.injEq] at h
  obtain ⟨rfl, rfl⟩ := h
  generalize hy0 : (rd_T74 [x] 0).f0 = y0
  generalize hy1 : (rd_T74 [x] 0).f1 = y1
  have HR := Aside0.mk hr1
  have HC := Aside0.mk hc1
  clear hr1 hc1 hl
  by_cases hcap : c1 = 1
  all_goals
   go_enter Tryz.func90, Tryz.ntmps90
   go_upto_region 1 with (fail)
   refine B.hide0own (fun W n hn ho hlt hB => ?_)
   rw [hn]
   obtain ⟨ad, e, hx0, hx1⟩ := at_T74 (Kd.C_below HR.out hB) 0 (by simp) (by simp)
   cases e
   have ea : ad.add (((0 : Int)).toNat * 2) = ad := by cases ad; rfl
   rw [ea] at hx0 hx1
   rw [hy0] at hx0
   rw [hy1] at hx1
   go_upto_region 4 with (fail)
   refine B.hideLoc ho hlt hB (fun V gx hgx k0 k1 ho2 hB2 => ?_)
   rw [hgx]
   clear hx0 hx1 ho hlt hB
   go_wp2
   go_loop [18] (fun i => i = .int .i64 0) (fun _ => 0)
   case atStart => rfl
   case round =>
    subst hrel
    go_wp2
    have hr := B.Own.read2 (n := 0) ((ho2.set ⟨n, 0, none⟩ (.int .u64 y0)).set ⟨n, 1, none⟩ (.int .u64 y1))
    exact bodyPost_ret (v := .agg #[.int .u64 y0, .int .u64 y1]) (by simp [results, Tryz.results90, go_sem, hr.1, hr.2]) rfl ⟨rfl, by have hz := B.below_two hB2 (Nat.le_of_eq hn) (.int .u64 y0) (.int .u64 y1); rw [hn] at hz; exact hz⟩
 ·unfold fd_sum.f at h
  rw [if_neg hl] at h
  cases h
end Go.Proofs.YtmoimcblmmcffaaGreat.PPC

namespace Go.Proofs.YtmoimcblmmcffaaGreat.PPC
open Go.RowKit Go.Proofs.YtmoimcblmmcffaaGreatW.PrintWords Go.Proofs.YtmoimcblmmcffaaGreatW.PrintLast Go.Proofs.YtmoimcblmmcffaaGreatW.PrintMore Go.Proofs.YtmoimcblmmcffaaGreatW.PrintZ
attribute [local go_sem] max2_int min2_int max_two min_two max_three min_three max_four min_four   -- for this text's walks alone
set_option linter.unusedVariables false
set_option linter.unusedSimpArgs false


mutual
def cx_DotOf.j0 : Nat → Int → List (S24) → List (S24) → Int → Int → Option (Int × Int × Int × ByteArray × Int)
 | 0, _, _, _, _, _ => none
 | k + 1, x0, x1, x2, x8, x9 => if x9 = 0 then ((cx_list.f k x0 x1).bind fun bt259 => (if bt259.2 = 0 then ((cx_list.f k x0 x2).bind fun bt263 => (if bt263.2 = 0 then (cx_DotOf.l0 k x8 bt259.1 bt263.1 (bt259.1.length : Int) 0) else (some (0, 0, 0, (⟨#[]⟩ : ByteArray), bt263.2)))) else (some (0, 0, 0, (⟨#[]⟩ : ByteArray), bt259.2)))) else (some (0, 0, 0, (⟨#[]⟩ : ByteArray), x9))
def cx_DotOf.l0 : Nat → Int → List (S74) → List (S74) → Int → Int → Option (Int × Int × Int × ByteArray × Int)
 | 0, _, _, _, _, _ => none
 | k + 1, x8, x10, x11, x56, x57 => if x57 < x56 then (if 0 ≤ x57 then (if x57 < (x10.length : Int) then ((fd_conjugate.f x8 ((rd_T74 x10 x57).f0) ((rd_T74 x10 x57).f1)).bind fun bt268 => (if x57 < (x11.length : Int) then ((fd_times.f x8 bt268.1 bt268.2 ((rd_T74 x11 x57).f0) ((rd_T74 x11 x57).f1)).bind fun bt271 => (cx_DotOf.l0 k x8 (x10.set (x57 : Int).toNat (⟨bt271.1, bt271.2⟩ : S74)) x11 x56 (wrap64 (x57 + 1)))) else (none))) else (none)) else (none)) else ((fd_sum.f x8 x10).bind fun bt274 => ((fd_value.f x8 bt274.1 bt274.2).bind fun bt276 => (some (bt276.1, bt276.2.1, bt276.2.2.1, bt276.2.2.2, 0))))
end
def cx_DotOf.f (k : Nat) (a0 : Int) (l1 : List (S24)) (l2 : List (S24)) : Option (Int × Int × Int × ByteArray × Int) := (cx_partType.f a0).bind fun bt257 => (if bt257.2 = 0 then (if (l1.length : Int) = (l2.length : Int) then (if (l1.length : Int) > 40 then (cx_DotOf.j0 k a0 l1 l2 bt257.1 8) else (cx_DotOf.j0 k a0 l1 l2 bt257.1 bt257.2)) else (cx_DotOf.j0 k a0 l1 l2 bt257.1 10)) else (cx_DotOf.j0 k a0 l1 l2 bt257.1 bt257.2))
def cx_DotOf.T18 : Bool × List (List Nat × List Nat) := (true, [([], []), ([], []), ([], []), ([], []), ([], []), ([], []), ([4, 5], [4, 5]), ([6], [6]), ([3, 7], [3, 7]), ([], []), ([], []), ([9, 10], [9, 10]), ([11], [11]), ([2, 8, 12, 8], [2, 8, 12]), ([0, 1, 0, 1, 2, 3, 4, 5, 6, 7, 8, 9, 10, 11, 12, 13], [0, 1]), ([14, 13, 13, 0, 1, 2, 3, 4, 5, 6, 7, 8, 9, 10, 11, 12, 13], [13, 14])])
def cx_DotOf.B18 : List Nat := [0, 0, 0, 0, 0, 0, 48, 112, 248, 0, 0, 1536, 3584, 8188, 16383, 32767]
theorem cx_DotOf.tab18 : rtab .any (opsOf Tryz.f38 18) = cx_DotOf.T18 := by kernel_rfl
theorem cx_DotOf.bits18 : waitsOk cx_DotOf.T18.2 cx_DotOf.B18 = true := by kernel_rfl
set_option maxHeartbeats 8000000 in
set_option maxRecDepth 100000 in
theorem cx_DotOf.calls (k : Nat) (a0 : Int) (A1 : Option Addr) (c1 : Nat) (l1 : List (S24)) (A2 : Option Addr) (c2 : Nat) (l2 : List (S24)) (r1 : Int) (r2 : Int) (r3 : Int) (r4 : ByteArray) (r5 : Int) (w : World) (hr1 : Kd.C k24 w A1 l1.length l1) (hc1 : l1.length ≤ c1) (hr2 : Kd.C k24 w A2 l2.length l2) (hc2 : l2.length ≤ c2) (h : cx_DotOf.f k a0 l1 l2 = some (r1, r2, r3, r4, r5)) :
  Calls Tryz.prog 38 #[.int .i64 a0, .slice A1 l1.length c1, .slice A2 l2.length c2] w fun e w' => e = .returned (.tuple #[.agg #[.int .i64 r1, .int .u64 r2, .int .u64 r3, .string r4], .int .i64 r5]) ∧ Below w.heap.size w w' := by
 have hu24 := Tryz.underlying24
 have hu74 := Tryz.underlying74
 have HR1 := Aside0.mk hr1
 have HC1 := Aside0.mk hc1
 clear hr1 hc1
 have HR2 := Aside0.mk hr2
 have HC2 := Aside0.mk hc2
 clear hr2 hc2
 have HB := Aside0.mk (Below.refl w.heap.size w)
 have H : ((cx_partType.f a0).bind fun bt257 => (if bt257.2 = 0 then (if (l1.length : Int) = (l2.length : Int) then (if (l1.length : Int) > 40 then (cx_DotOf.j0 k a0 l1 l2 bt257.1 8) else (cx_DotOf.j0 k a0 l1 l2 bt257.1 bt257.2)) else (cx_DotOf.j0 k a0 l1 l2 bt257.1 10)) else (cx_DotOf.j0 k a0 l1 l2 bt257.1 bt257.2))) = some (r1, r2, r3, r4, r5) := h
 clear h
 replace H := Option.bind_eq_some_iff.mp H
 obtain ⟨⟨t257, t258⟩, A4, H⟩ := H
 try dsimp only at H
 replace A4 := Aside0.mk A4
 have HC5 := Aside0.mk H
 clear H
 go_enter Tryz.func38, Tryz.ntmps38
 go_upto_block 0 with (first | ((with_reducible refine gate_dst (N := 6) rfl ?_); refine bxe 6 (cs := #[.int .i64 0, .int .u64 0, .int .u64 0, .string (⟨#[]⟩ : ByteArray)]) (t := 24) ?_; intro gb256 hg w6 hbox hb; have BK256 := Aside0.mk hbox; have GW256 := bsz HB hg; have GE256 := bsz HB hg; replace HB := bls HB hb; clear hb hbox hg) | ((with_reducible refine gate_callee (f := 88) rfl ?_); refine gLc 15 Tryz.func88 (cx_partType.calls a0 t257 t258 _ A4.out) (fun w7 hb => ?_); replace BK256 := bkb BK256 hb; replace HB := bls HB hb; clear hb))
 (try simp only [Act.put, List.setIfInBounds_toArray, List.set_cons_zero, List.set_cons_succ])
 go_cut [9] (fun v9 wc => ∃ (kq : Nat) (x9_4 : Int), v9 = .int .i64 x9_4 ∧ Aside0 (cx_DotOf.j0 kq a0 l1 l2 t257 x9_4 = some (r1, r2, r3, r4, r5)) ∧ Aside0 (kq ≤ k) ∧ Aside0 (wc.heap[gb256]? = some (.cells #[.int .i64 0, .int .u64 0, .int .u64 0, .string (⟨#[]⟩ : ByteArray)] 24 (0, 0))) ∧ Aside0 (Below w.heap.size w wc))
 case first =>
  have H := HC5.out
  clear HC5
  by_cases c8 : t258 = 0
  ·rw [if_pos c8] at H
   have c8b0 : (t258 == 0) = true := beq_iff_eq.mpr c8
   have c8b1 : (t258 != 0) = false := bne_eq_false_iff_eq.mpr c8
   clear c8
   (first | rw [c8b0] | (simp only [i64_w, i32_w]; rw [c8b0]) | skip)
   by_cases c9 : (l1.length : Int) = (l2.length : Int)
   ·rw [if_pos c9] at H
    have c9b0 : ((l1.length : Int) == (l2.length : Int)) = true := beq_iff_eq.mpr c9
    have c9b1 : ((l1.length : Int) != (l2.length : Int)) = false := bne_eq_false_iff_eq.mpr c9
    have c9b2 : (l1.length == l2.length) = true := by first | simpa using c9 | (simp at c9 ⊢; omega)
    clear c9
    by_cases c10 : (l1.length : Int) > 40
    ·rw [if_pos c10] at H
     have c10b0 : decide (40 < (l1.length : Int)) = true := decide_eq_true c10
     have c10b1 : decide (40 < l1.length) = true := decide_eq_true (by omega)
     clear c10
     have H' := Aside0.mk H
     clear H
     go_wp2
     go_meet
     case rel => exact ⟨_, (8), (by first | rfl | (simp; done) | (simp [*]; done)), H', ⟨by first | omega | exact Nat.le_refl _⟩, bks BK256, blt HB⟩
    ·rw [if_neg c10] at H
     have c10b0 : decide (40 < (l1.length : Int)) = false := decide_eq_false c10
     have c10b1 : decide (40 < l1.length) = false := decide_eq_false (by omega)
     clear c10
     have H' := Aside0.mk H
     clear H
     go_wp2
     go_meet
     case rel => exact ⟨_, (t258), (by first | rfl | (simp; done) | (simp [*]; done)), H', ⟨by first | omega | exact Nat.le_refl _⟩, bks BK256, blt HB⟩
   ·rw [if_neg c9] at H
    have c9b0 : ((l1.length : Int) == (l2.length : Int)) = false := beq_eq_false_iff_ne.mpr c9
    have c9b1 : ((l1.length : Int) != (l2.length : Int)) = true := bne_iff_ne.mpr c9
    have c9b2 : (l1.length == l2.length) = false := by first | simpa using c9 | (simp at c9 ⊢; omega)
    have H' := Aside0.mk H
    clear H
    go_wp2
    go_meet
    case rel => exact ⟨_, (10), (by first | rfl | (simp; done) | (simp [*]; done)), H', ⟨by first | omega | exact Nat.le_refl _⟩, bks BK256, blt HB⟩
  ·rw [if_neg c8] at H
   have c8b0 : (t258 == 0) = false := beq_eq_false_iff_ne.mpr c8
   have c8b1 : (t258 != 0) = true := bne_iff_ne.mpr c8
   (first | rw [c8b0] | (simp only [i64_w, i32_w]; rw [c8b0]) | skip)
   have H' := Aside0.mk H
   clear H
   go_wp2
   go_meet
   case rel => exact ⟨_, (t258), (by first | rfl | (simp; done) | (simp [*]; done)), H', ⟨by first | omega | exact Nat.le_refl _⟩, bks BK256, blt HB⟩
 case rest =>
  clear HC5
  try clear c1
  try clear c2
  try clear p2
  try clear c3
  try clear c8
  try clear c8b0
  try clear c8b1
  try clear c9
  try clear c9b0
  try clear c9b1
  try clear c9b2
  try clear c10
  try clear c10b0
  try clear c10b1
  obtain ⟨kq, x9_4, rfl, HA, HJ4, BK256, HB⟩ := hcut
  cases kq with
  | zero => exact absurd HA.out (by simp [cx_DotOf.j0])
  | succ kj4 =>
   have H := HA.out
   clear HA
   simp only [cx_DotOf.j0] at H
   by_cases c11 : x9_4 = 0
   ·rw [if_pos c11] at H
    have c11b0 : (x9_4 == 0) = true := beq_iff_eq.mpr c11
    have c11b1 : (x9_4 != 0) = false := bne_eq_false_iff_eq.mpr c11
    clear c11
    replace H := Option.bind_eq_some_iff.mp H
    obtain ⟨⟨t259, t260⟩, A12, H⟩ := H
    try dsimp only at H
    replace A12 := Aside0.mk A12
    by_cases c13 : t260 = 0
    ·rw [if_pos c13] at H
     have c13b0 : (t260 == 0) = true := beq_iff_eq.mpr c13
     have c13b1 : (t260 != 0) = false := bne_eq_false_iff_eq.mpr c13
     clear c13
     replace H := Option.bind_eq_some_iff.mp H
     obtain ⟨⟨t263, t264⟩, A14, H⟩ := H
     try dsimp only at H
     replace A14 := Aside0.mk A14
     by_cases c15 : t264 = 0
     ·rw [if_pos c15] at H
      have c15b0 : (t264 == 0) = true := beq_iff_eq.mpr c15
      have c15b1 : (t264 != 0) = false := bne_eq_false_iff_eq.mpr c15
      clear c15
      have H' := Aside0.mk H
      clear H
      go_wp2_with (first | ((with_reducible refine gate_callee (f := 89) rfl ?_); refine gL 38 Tryz.func89 #[.int .i64 a0, .slice A1 l1.length c1] ?_; (with_reducible refine (cx_list.calls kj4 a0 _ _ l1 t259 t260 _ ?side1 ?side2 A12.out).mono ?_); (case side1 => repeat (first | exact (Kd.C_below HR1.out HB.out) | (with_reducible refine Kd.C_alloc ?_ _) | (with_reducible refine Kd.C_drewN ?_ _) | (with_reducible refine Kd.C_drew ?_))); (case side2 => exact HC1.out); rintro e w16 ⟨v261, rfl, ho0, hb⟩; refine ⟨_, rfl, ?_⟩; have HO262 := Aside0.mk (Kd.R_lower ho0 (below_size (blt HB).out)); replace BK256 := bkb BK256 hb; replace HB := bls HB hb; (try clear hb); (try clear hb2); (try clear hk); (try clear hi); (try clear ho0)) | ((with_reducible refine gate_callee (f := 89) rfl ?_); refine gL 48 Tryz.func89 #[.int .i64 a0, .slice A2 l2.length c2] ?_; (with_reducible refine (cx_list.calls kj4 a0 _ _ l2 t263 t264 _ ?side1 ?side2 A14.out).mono ?_); (case side1 => repeat (first | exact (Kd.C_below HR2.out HB.out) | (with_reducible refine Kd.C_alloc ?_ _) | (with_reducible refine Kd.C_drewN ?_ _) | (with_reducible refine Kd.C_drew ?_))); (case side2 => exact HC2.out); rintro e w17 ⟨v265, rfl, ho0, hb⟩; refine ⟨_, rfl, ?_⟩; have HO266 := Aside0.mk (Kd.R_lower (Kd.R_new' ho0 (Kd.R_lt (by (with_reducible repeat (first | apply Kd.R_alloc | apply Kd.R_drewN | apply Kd.R_drew)); exact HO262.out))) (below_size (blt HB).out)); replace HO262 := Aside0.mk (Kd.R_elder' (by (with_reducible repeat (first | apply Kd.R_alloc | apply Kd.R_drewN | apply Kd.R_drew)); exact HO262.out) (Kd.R_base ho0) hb); replace BK256 := bkb BK256 hb; replace HB := bls HB hb; (try clear hb); (try clear hb2); (try clear hk); (try clear hi); (try clear ho0); obtain ⟨Ao18, co18, eo18⟩ := Kd.R_slice HO262.out; subst eo18))
      go_loopg [57] kj4 (fun kq v57 w' => ∃ (x10_2 : List (S74)) (x57_2 : Int), v57 = .int .i64 x57_2 ∧ Aside0 (cx_DotOf.l0 kq t257 x10_2 t263 (t259.length : Int) x57_2 = some (r1, r2, r3, r4, r5)) ∧ Aside0 (kq ≤ kj4) ∧ Aside0 (Kd.R k74 74 w' w.heap.size (fun k_ => some k_ ≠ (v265 : Value).ownBlock) (.slice Ao18 t259.length co18) x10_2) ∧ Aside0 (Kd.R k74 74 w' w.heap.size (fun k_ => some k_ ≠ ((.slice Ao18 t259.length co18) : Value).ownBlock) v265 t263) ∧ Aside0 (w'.heap[gb256]? = some (.cells #[.int .i64 0, .int .u64 0, .int .u64 0, .string (⟨#[]⟩ : ByteArray)] 24 (0, 0))) ∧ Aside0 (Below w.heap.size w w'))
      case atStart => exact ⟨(t259), (0), (by first | rfl | (simp; done) | (simp [*]; done)), H', ⟨Nat.le_refl _⟩, ⟨by (with_reducible repeat (first | apply Kd.R_alloc | apply Kd.R_drewN | apply Kd.R_drew)); exact Kd.R_mono HO262.out (fun _ hk => hk.2)⟩, ⟨by (with_reducible repeat (first | apply Kd.R_alloc | apply Kd.R_drewN | apply Kd.R_drew)); exact Kd.R_mono HO266.out (fun _ hk => hk.2)⟩, bks BK256, blt HB⟩
      case round =>
       clear H'
       try clear c1
       try clear c2
       try clear p2
       try clear c3
       try clear c8
       try clear c8b0
       try clear c8b1
       try clear c9
       try clear c9b0
       try clear c9b1
       try clear c9b2
       try clear c10
       try clear c10b0
       try clear c10b1
       try clear c11
       try clear c11b0
       try clear c11b1
       try clear c13
       try clear c13b0
       try clear c13b1
       try clear c15
       try clear c15b0
       try clear c15b1
       try clear p2
       obtain ⟨x10_2, x57_2, rfl, HA, HK2, HO_10, HO_11, BK256, HB⟩ := hrel
       have hl10_2 := (Kd.R_reads' HO_10.out).1
       rw [hl10_2] at HO_10
       (try simp only [hl10_2])
       (try simp only [hl10_2] at BK256)
       (try simp only [hl10_2] at HO_11)
       cases gk with
       | zero => exact absurd HA.out (by simp [cx_DotOf.l0])
       | succ k2 =>
        have H := HA.out
        clear HA
        simp only [cx_DotOf.l0] at H
        by_cases c19 : x57_2 < (t259.length : Int)
        ·rw [if_pos c19] at H
         have c19b0 : decide (x57_2 < (t259.length : Int)) = true := decide_eq_true c19
         clear c19
         by_cases c20 : 0 ≤ x57_2
         ·rw [if_pos c20] at H
          have c20b0 : decide (0 ≤ x57_2) = true := decide_eq_true c20
          clear c20
          by_cases c21 : x57_2 < (x10_2.length : Int)
          ·rw [if_pos c21] at H
           have c21b0 : decide (x57_2 < (x10_2.length : Int)) = true := decide_eq_true c21
           clear c21
           replace H := Option.bind_eq_some_iff.mp H
           obtain ⟨⟨t268, t269⟩, A22, H⟩ := H
           try dsimp only at H
           replace A22 := Aside0.mk A22
           by_cases c23 : x57_2 < (t263.length : Int)
           ·rw [if_pos c23] at H
            have c23b0 : decide (x57_2 < (t263.length : Int)) = true := decide_eq_true c23
            clear c23
            replace H := Option.bind_eq_some_iff.mp H
            obtain ⟨⟨t271, t272⟩, A24, H⟩ := H
            try dsimp only at H
            replace A24 := Aside0.mk A24
            obtain ⟨y273, hy273⟩ : ∃ y_ : List (S74), y_ = (x10_2.set (x57_2 : Int).toNat (⟨t271, t272⟩ : S74)) := ⟨_, rfl⟩
            replace H : (cx_DotOf.l0 k2 t257 y273 t263 (t259.length : Int) (wrap64 (x57_2 + 1))) = some (r1, r2, r3, r4, r5) := by first | (rw [hy273]; with_reducible exact H) | (have H2_ := (Option.bind_some _ _).symm.trans H; rw [hy273]; with_reducible exact H2_) | (have H2_ := (Option.bind_some _ _).symm.trans H; with_reducible exact H2_) | with_reducible exact H | (rw [hy273]; exact H) | exact H
            have Ny273 := Aside0.mk hy273
            clear hy273
            have H' := Aside0.mk H
            clear H
            try go_wp2
            replace HO_10 := Aside0.mk (Kd.R_drew HO_10.out)
            replace HO_11 := Aside0.mk (Kd.R_drew HO_11.out)
            replace BK256 := Aside0.mk (blk_drew BK256.out)
            replace HB := Aside0.mk (below_drew1 HB.out)
            have p267 : 0 ≤ (x57_2 : Int) := of_decide_eq_true (by first | (with_reducible assumption) | assumption)
            have q267 : x57_2 < (x10_2.length : Int) := of_decide_eq_true (by first | (with_reducible assumption) | assumption)
            obtain ⟨ad267, e267, hx267_0, hx267_1⟩ := at_T74 (Kd.R_reads' HO_10.out).2.2 x57_2 p267 q267
            cases e267
            replace p267 := eq_true p267
            replace q267 := eq_true q267
            obtain ⟨Ao27, co27, eo27⟩ := Kd.R_slice HO_11.out
            (first | subst eo27 | (injection eo27 with f1_ f2_ f3_; have f4_ := f1_.symm; have f5_ := f3_.symm; clear f1_ f2_ f3_; subst f4_; subst f5_))
            have p270 : 0 ≤ (x57_2 : Int) := of_decide_eq_true (by first | (with_reducible assumption) | assumption)
            have q270 : x57_2 < (t263.length : Int) := of_decide_eq_true (by first | (with_reducible assumption) | assumption)
            obtain ⟨ad270, e270, hx270_0, hx270_1⟩ := at_T74 (Kd.R_reads' HO_11.out).2.2 x57_2 p270 q270
            cases e270
            replace p270 := eq_true p270
            replace q270 := eq_true q270
            refine start_ (n := 16) (S := fun w' => w'.cell? (ad267.add ((x57_2).toNat * 2)) = some (.int .u64 ((rd_T74 x10_2 x57_2).f0)) ∧ w'.cell? ⟨(ad267.add ((x57_2).toNat * 2)).block, (ad267.add ((x57_2).toNat * 2)).off + 1, none⟩ = some (.int .u64 ((rd_T74 x10_2 x57_2).f1)) ∧ w'.cell? (ad270.add ((x57_2).toNat * 2)) = some (.int .u64 ((rd_T74 t263 x57_2).f0)) ∧ w'.cell? ⟨(ad270.add ((x57_2).toNat * 2)).block, (ad270.add ((x57_2).toNat * 2)).off + 1, none⟩ = some (.int .u64 ((rd_T74 t263 x57_2).f1))) (ds := [15]) #[false, false, false, false, false, false, false, false, false, false, false, false, false, false, false, false] (by kernel_rfl) rfl rfl ⟨hx267_0, hx267_1, hx270_0, hx270_1⟩ (fun hHeld => ?_); refine with_tabW cx_DotOf.tab18 cx_DotOf.bits18 (fun HT_ HW_ => ?_)
            generalize wr.drew = w26 at HO_10 HO_11 BK256 HB hx267_0 hx267_1 hx270_0 hx270_1 hHeld ⊢
            refine pu 0 60 HT_ ?_
            refine pu 1 61 HT_ ?_
            refine pu 2 62 HT_ ?_
            refine pu 3 63 HT_ ?_
            refine pu 4 64 HT_ ?_
            refine pu 5 65 HT_ ?_
            refine pu 6 66 HT_ ?_
            refine pu 9 69 HT_ ?_
            refine pu 10 70 HT_ ?_
            refine pu 11 71 HT_ ?_
            refine tk 7 67 HT_ HW_ hHeld ?_
            refine tk 12 72 HT_ HW_ hHeld ?_
            refine on 8 68 HT_ (fun K hK => ?_)
            refine goes_ Tryz.func78 (by kernel_rfl) rfl #[.int .i64 t257, .agg #[.int .u64 ((rd_T74 x10_2 x57_2).f0), .int .u64 ((rd_T74 x10_2 x57_2).f1)]] (by rfl) rfl rfl (by (try simp only [List.map_toArray, List.map_cons, List.map_nil]); first | done | rfl | (simp only [List.length_drop, List.length_take]; rfl)) ?_
            with_reducible refine (fd_conjugate.calls t257 ((rd_T74 x10_2 x57_2).f0) ((rd_T74 x10_2 x57_2).f1) t268 t269 _ A22.out).mono ?_
            rintro e w28 ⟨rfl, hb⟩
            have HS0_ := (hb.cell (World.block_lt_of_cell? _ _ (hHeld.1))).trans (hHeld.1)
            have HS1_ := (hb.cell (World.block_lt_of_cell? _ _ (hHeld.2.1))).trans (hHeld.2.1)
            have HS2_ := (hb.cell (World.block_lt_of_cell? _ _ (hHeld.2.2.1))).trans (hHeld.2.2.1)
            have HS3_ := (hb.cell (World.block_lt_of_cell? _ _ (hHeld.2.2.2))).trans (hHeld.2.2.2)
            refine ⟨_, rfl, ?_⟩
            replace HO_10 := Aside0.mk (Kd.R_below (by (with_reducible repeat (first | apply Kd.R_alloc | apply Kd.R_drewN | apply Kd.R_drew)); exact HO_10.out) hb)
            replace HO_11 := Aside0.mk (Kd.R_below (by (with_reducible repeat (first | apply Kd.R_alloc | apply Kd.R_drewN | apply Kd.R_drew)); exact HO_11.out) hb)
            replace BK256 := bkb BK256 hb
            replace HB := bls HB hb
            (try clear hb)
            (try clear hb2)
            (try clear hk)
            (try clear hi)
            refine hK.out _ _ ⟨HS0_, HS1_, HS2_, HS3_⟩ (fun hHeld => ?_)
            clear hK K
            refine nm 68 ?_
            refine on 13 73 HT_ (fun K hK => ?_)
            refine goes_ Tryz.func55 (by kernel_rfl) rfl #[.int .i64 t257, .agg #[.int .u64 t268, .int .u64 t269], .agg #[.int .u64 ((rd_T74 t263 x57_2).f0), .int .u64 ((rd_T74 t263 x57_2).f1)]] (by rfl) rfl rfl (by (try simp only [List.map_toArray, List.map_cons, List.map_nil]); first | done | rfl | (simp only [List.length_drop, List.length_take]; rfl)) ?_
            with_reducible refine (fd_times.calls t257 t268 t269 ((rd_T74 t263 x57_2).f0) ((rd_T74 t263 x57_2).f1) t271 t272 _ A24.out).mono ?_
            rintro e w29 ⟨rfl, hb⟩
            have HS0_ := (hb.cell (World.block_lt_of_cell? _ _ (hHeld.1))).trans (hHeld.1)
            have HS1_ := (hb.cell (World.block_lt_of_cell? _ _ (hHeld.2.1))).trans (hHeld.2.1)
            have HS2_ := (hb.cell (World.block_lt_of_cell? _ _ (hHeld.2.2.1))).trans (hHeld.2.2.1)
            have HS3_ := (hb.cell (World.block_lt_of_cell? _ _ (hHeld.2.2.2))).trans (hHeld.2.2.2)
            refine ⟨_, rfl, ?_⟩
            replace HO_10 := Aside0.mk (Kd.R_below (by (with_reducible repeat (first | apply Kd.R_alloc | apply Kd.R_drewN | apply Kd.R_drew)); exact HO_10.out) hb)
            replace HO_11 := Aside0.mk (Kd.R_below (by (with_reducible repeat (first | apply Kd.R_alloc | apply Kd.R_drewN | apply Kd.R_drew)); exact HO_11.out) hb)
            replace BK256 := bkb BK256 hb
            replace HB := bls HB hb
            (try clear hb)
            (try clear hb2)
            (try clear hk)
            (try clear hi)
            have p25 : 0 ≤ (x57_2 : Int) := of_decide_eq_true (by first | (with_reducible assumption) | assumption)
            have q25 : (x57_2 : Int) < ((x10_2.length : Int) : Int) := of_decide_eq_true (by first | (with_reducible assumption) | assumption)
            obtain ⟨go25, co25, eo25, gb25, gl25, cl25, HG25⟩ := Kd.R_form HO_10.out (by omega)
            (first | cases eo25 | (injection eo25 with ea_ en_ ec_; (first | subst ea_ | (injection ea_ with ea_; subst ea_)); subst ec_; clear en_))
            have GB25 := Aside0.mk gb25
            have GG25 := Aside0.mk HG25
            clear gb25 gl25 HG25
            (first | simp only [add_plain] at hx267_0 | skip)
            (first | simp only [add_plain] at hx267_1 | skip)
            obtain ⟨ce25, hcl25, hM25, hcc25, hfr25⟩ := Kd.R_elem HO_10.out z74 (x57_2 : Int) p25 q25
            obtain rfl := k74_openM hM25
            have hx25_0 : World.cell? _ ⟨go25, (x57_2 : Int).toNat * 2, none⟩ = some (.int .u64 ((rd_T74 x10_2 x57_2).f0)) := hcc25 0 _ rfl
            have hx25_1 : World.cell? _ ⟨go25, (x57_2 : Int).toNat * 2 + 1, none⟩ = some (.int .u64 ((rd_T74 x10_2 x57_2).f1)) := hcc25 1 _ rfl
            have hf25_0 : World.frozen? _ ⟨go25, (x57_2 : Int).toNat * 2, none⟩ = false := hfr25 0
            have hf25_1 : World.frozen? _ ⟨go25, (x57_2 : Int).toNat * 2 + 1, none⟩ = false := hfr25 1
            clear hcl25 hcc25 hfr25 hM25
            replace p25 := eq_true p25
            replace q25 := eq_true q25
            obtain ⟨ce30, hcl30, hM30, hcc30, hfr30⟩ := Kd.R_elem HO_10.out z74 (x57_2 : Int) (of_decide_eq_true (by first | (with_reducible assumption) | assumption)) (by have h_ : (x57_2 : Int) < ((x10_2.length : Int) : Int) := of_decide_eq_true (by first | (with_reducible assumption) | assumption); first | exact h_ | (have e_ := (Kd.R_reads' HO_10.out).1; omega) | simpa using h_)
            obtain rfl := k74_openM hM30
            have HP30 := (Kd.R_seg HO_10.out (x57_2 : Int) (of_decide_eq_true (by first | (with_reducible assumption) | assumption)) (by have h_ : (x57_2 : Int) < ((x10_2.length : Int) : Int) := of_decide_eq_true (by first | (with_reducible assumption) | assumption); first | exact h_ | (have e_ := (Kd.R_reads' HO_10.out).1; omega) | simpa using h_) (seg := [.int .u64 t271, .int .u64 t272]) (j := 0) hcl30 hcc30 (show 2 ≤ 2 from by decide) (x' := (⟨t271, t272⟩ : S74)) (k74_mkM _ _ _ (⟨t271, t272⟩ : S74) ) (fun _ hk => hk)).1
            rw [← Ny273.out] at HP30
            have HQ30 := Aside0.mk HP30
            clear hcl30 hcc30 hfr30 hM30 HP30
            refine hK.out _ _ ⟨HS0_, HS1_, HS2_, HS3_⟩ (fun hHeld => ?_)
            clear hK K
            refine nm 73 ?_
            refine pu 14 74 HT_ ?_
            refine last_ (i := 15) (N := none) #[true, true, true, true, true, true, true, true, true, true, true, true, true, true, true, true] rfl rfl (one_of HT_.out (by kernel_rfl)) (by decide) (fun K hK => ?_)
            refine skip_ (w1 := ?_) (by rfl) rfl ?_ ?_
            rotate_left
            ·go_simp
             rfl
            refine hK.out _ _ ?_
            clear hK K
            refine done_ (done_of HT_.out (by kernel_rfl)) ?_
            try go_wp2
            (try simp only [← hl10_2])
            go_roundg k2
            case measure => have := HJ4.out; have := HK2.out; omega
            case rel => exact ⟨(y273), (wrap64 (x57_2 + 1)), (by first | rfl | (simp; done) | (simp [*]; done)), H', ⟨by have := HJ4.out; have := HK2.out; omega⟩, ⟨by (try simp only [hl10_2]); (with_reducible repeat (first | apply Kd.R_alloc | apply Kd.R_drewN | apply Kd.R_drew)); exact HQ30.out⟩, ⟨by (try simp only [hl10_2]); (with_reducible repeat (first | apply Kd.R_alloc | apply Kd.R_drewN | apply Kd.R_drew)); exact Kd.R_mono (Kd.R_far (p := ⟨go25, (x57_2 : Int).toNat * 2 + 1, none⟩) (Kd.R_far (p := ⟨go25, (x57_2 : Int).toNat * 2, none⟩) (Kd.R_mono HO_11.out (fun k_ hk => (⟨hk, fun e_ => hk (by rw [e_]; rfl)⟩ : _ ∧ k_ ≠ go25))) (fun _ hk => hk.2) (.int .u64 t271)) (fun _ hk => hk.2) (.int .u64 t272)) (fun _ hk => hk.1)⟩, ⟨by (try simp only [hl10_2]); (with_reducible repeat (first | refine blk_drewN ?_ _ | refine blk_drew ?_ | refine blk_alloc ?_ _)); refine blk_far ?_ (by have h_ := Kd.R_ne HO_10.out BK256.out (by decide); intro e_; exact h_ (by rw [e_]; rfl)) _; (with_reducible repeat (first | refine blk_drewN ?_ _ | refine blk_drew ?_ | refine blk_alloc ?_ _)); refine blk_far ?_ (by have h_ := Kd.R_ne HO_10.out BK256.out (by decide); intro e_; exact h_ (by rw [e_]; rfl)) _; (with_reducible repeat (first | refine blk_drewN ?_ _ | refine blk_drew ?_ | refine blk_alloc ?_ _)); exact BK256.out⟩, ⟨by repeat (first | (with_reducible first | exact HB.out | apply below_alloc | apply pw_below_drewN | apply below_drew1 | refine below_set ?_ GB25.out | refine below_set ?_ GB25.out | refine below_set ?_ GE256.out) | exact HB.out)⟩⟩
           ·rw [if_neg c23] at H
            exact absurd H (by simp)
          ·rw [if_neg c21] at H
           exact absurd H (by simp)
         ·rw [if_neg c20] at H
          exact absurd H (by simp)
        ·rw [if_neg c19] at H
         have c19b0 : decide (x57_2 < (t259.length : Int)) = false := decide_eq_false c19
         (try simp only [hl10_2] at c19b0)
         clear c19
         replace H := Option.bind_eq_some_iff.mp H
         obtain ⟨⟨t274, t275⟩, A31, H⟩ := H
         try dsimp only at H
         replace A31 := Aside0.mk A31
         replace H := Option.bind_eq_some_iff.mp H
         obtain ⟨⟨t276, t277, t278, t279⟩, A32, H⟩ := H
         try dsimp only at H
         replace A32 := Aside0.mk A32
         simp only [Option.some.injEq, Prod.mk.injEq] at H
         obtain ⟨rfl, rfl, rfl, rfl, rfl⟩ := H
         go_wp2_with (first | ((with_reducible refine gate_callee (f := 90) rfl ?_); refine gL 79 Tryz.func90 #[.int .i64 t257, .slice Ao18 x10_2.length co18] ?_; (with_reducible refine (fd_sum.calls t257 _ _ x10_2 t274 t275 _ ?side1 ?side2 A31.out).mono ?_); (case side1 => repeat (first | exact (Kd.R_reads' HO_10.out).2.2 | (with_reducible refine Kd.C_alloc ?_ _) | (with_reducible refine Kd.C_drewN ?_ _) | (with_reducible refine Kd.C_drew ?_))); (case side2 => exact (Kd.R_reads' HO_10.out).2.1); rintro e w33 ⟨rfl, hb⟩; refine ⟨_, rfl, ?_⟩; replace HO_10 := Aside0.mk (Kd.R_below (by (with_reducible repeat (first | apply Kd.R_alloc | apply Kd.R_drewN | apply Kd.R_drew)); exact HO_10.out) hb); replace HO_11 := Aside0.mk (Kd.R_below (by (with_reducible repeat (first | apply Kd.R_alloc | apply Kd.R_drewN | apply Kd.R_drew)); exact HO_11.out) hb); replace BK256 := bkb BK256 hb; replace HB := bls HB hb; clear hb) | ((with_reducible refine gate_callee (f := 57) rfl ?_); refine gLc 80 Tryz.func57 (fd_value.calls t257 t274 t275 t276 t277 t278 t279 _ A32.out) (fun w34 hb => ?_); replace HO_10 := Aside0.mk (Kd.R_below (by (with_reducible repeat (first | apply Kd.R_alloc | apply Kd.R_drewN | apply Kd.R_drew)); exact HO_10.out) hb); replace HO_11 := Aside0.mk (Kd.R_below (by (with_reducible repeat (first | apply Kd.R_alloc | apply Kd.R_drewN | apply Kd.R_drew)); exact HO_11.out) hb); replace BK256 := bkb BK256 hb; replace HB := bls HB hb; clear hb; obtain ⟨hcz35_0, hcz35_1, hcz35_2, hcz35_3, hfz35_0, hfz35_1, hfz35_2, hfz35_3⟩ := cf4 BK256))
         refine bodyPost_ret (results_ct rfl _ _ gb256 24 #[.int .i64 t276, .int .u64 t277, .int .u64 t278, .string t279] (0, 0) _ rfl (by (with_reducible repeat (first | refine blk_drewN ?_ _ | refine blk_drew ?_ | refine blk_alloc ?_ _)); apply bp4; (with_reducible repeat (first | refine blk_drewN ?_ _ | refine blk_drew ?_ | refine blk_alloc ?_ _)); exact BK256.out) Tryz.underlying24 rfl (by kernel_rfl)) rfl ?_
         exact fin_ (blt HB)
     ·rw [if_neg c15] at H
      have c15b0 : (t264 == 0) = false := beq_eq_false_iff_ne.mpr c15
      have c15b1 : (t264 != 0) = true := bne_iff_ne.mpr c15
      simp only [Option.some.injEq, Prod.mk.injEq] at H
      obtain ⟨rfl, rfl, rfl, rfl, rfl⟩ := H
      go_wp2_with (first | ((with_reducible refine gate_callee (f := 89) rfl ?_); refine gL 38 Tryz.func89 #[.int .i64 a0, .slice A1 l1.length c1] ?_; (with_reducible refine (cx_list.calls kj4 a0 _ _ l1 t259 t260 _ ?side1 ?side2 A12.out).mono ?_); (case side1 => repeat (first | exact (Kd.C_below HR1.out HB.out) | (with_reducible refine Kd.C_alloc ?_ _) | (with_reducible refine Kd.C_drewN ?_ _) | (with_reducible refine Kd.C_drew ?_))); (case side2 => exact HC1.out); rintro e w36 ⟨v261, rfl, ho0, hb⟩; refine ⟨_, rfl, ?_⟩; have HO262 := Aside0.mk (Kd.R_lower ho0 (below_size (blt HB).out)); replace BK256 := bkb BK256 hb; replace HB := bls HB hb; (try clear hb); (try clear hb2); (try clear hk); (try clear hi); (try clear ho0)) | ((with_reducible refine gate_callee (f := 89) rfl ?_); refine gL 48 Tryz.func89 #[.int .i64 a0, .slice A2 l2.length c2] ?_; (with_reducible refine (cx_list.calls kj4 a0 _ _ l2 t263 t264 _ ?side1 ?side2 A14.out).mono ?_); (case side1 => repeat (first | exact (Kd.C_below HR2.out HB.out) | (with_reducible refine Kd.C_alloc ?_ _) | (with_reducible refine Kd.C_drewN ?_ _) | (with_reducible refine Kd.C_drew ?_))); (case side2 => exact HC2.out); rintro e w37 ⟨v265, rfl, ho0, hb⟩; refine ⟨_, rfl, ?_⟩; have HO266 := Aside0.mk (Kd.R_lower (Kd.R_new' ho0 (Kd.R_lt (by (with_reducible repeat (first | apply Kd.R_alloc | apply Kd.R_drewN | apply Kd.R_drew)); exact HO262.out))) (below_size (blt HB).out)); replace HO262 := Aside0.mk (Kd.R_elder' (by (with_reducible repeat (first | apply Kd.R_alloc | apply Kd.R_drewN | apply Kd.R_drew)); exact HO262.out) (Kd.R_base ho0) hb); replace BK256 := bkb BK256 hb; replace HB := bls HB hb; (try clear hb); (try clear hb2); (try clear hk); (try clear hi); (try clear ho0); obtain ⟨hcz38_0, hcz38_1, hcz38_2, hcz38_3, hfz38_0, hfz38_1, hfz38_2, hfz38_3⟩ := cf4 BK256))
      refine bodyPost_ret (results_ct rfl _ _ gb256 24 #[.int .i64 0, .int .u64 0, .int .u64 0, .string (⟨#[]⟩ : ByteArray)] (0, 0) _ rfl (by (with_reducible repeat (first | refine blk_drewN ?_ _ | refine blk_drew ?_ | refine blk_alloc ?_ _)); apply bp4; (with_reducible repeat (first | refine blk_drewN ?_ _ | refine blk_drew ?_ | refine blk_alloc ?_ _)); exact BK256.out) Tryz.underlying24 rfl (by kernel_rfl)) rfl ?_
      exact fin_ (blt HB)
    ·rw [if_neg c13] at H
     have c13b0 : (t260 == 0) = false := beq_eq_false_iff_ne.mpr c13
     have c13b1 : (t260 != 0) = true := bne_iff_ne.mpr c13
     simp only [Option.some.injEq, Prod.mk.injEq] at H
     obtain ⟨rfl, rfl, rfl, rfl, rfl⟩ := H
     go_wp2_with (first | ((with_reducible refine gate_callee (f := 89) rfl ?_); refine gL 38 Tryz.func89 #[.int .i64 a0, .slice A1 l1.length c1] ?_; (with_reducible refine (cx_list.calls kj4 a0 _ _ l1 t259 t260 _ ?side1 ?side2 A12.out).mono ?_); (case side1 => repeat (first | exact (Kd.C_below HR1.out HB.out) | (with_reducible refine Kd.C_alloc ?_ _) | (with_reducible refine Kd.C_drewN ?_ _) | (with_reducible refine Kd.C_drew ?_))); (case side2 => exact HC1.out); rintro e w39 ⟨v261, rfl, ho0, hb⟩; refine ⟨_, rfl, ?_⟩; have HO262 := Aside0.mk (Kd.R_lower ho0 (below_size (blt HB).out)); replace BK256 := bkb BK256 hb; replace HB := bls HB hb; (try clear hb); (try clear hb2); (try clear hk); (try clear hi); (try clear ho0); obtain ⟨hcz40_0, hcz40_1, hcz40_2, hcz40_3, hfz40_0, hfz40_1, hfz40_2, hfz40_3⟩ := cf4 BK256))
     refine bodyPost_ret (results_ct rfl _ _ gb256 24 #[.int .i64 0, .int .u64 0, .int .u64 0, .string (⟨#[]⟩ : ByteArray)] (0, 0) _ rfl (by (with_reducible repeat (first | refine blk_drewN ?_ _ | refine blk_drew ?_ | refine blk_alloc ?_ _)); apply bp4; (with_reducible repeat (first | refine blk_drewN ?_ _ | refine blk_drew ?_ | refine blk_alloc ?_ _)); exact BK256.out) Tryz.underlying24 rfl (by kernel_rfl)) rfl ?_
     exact fin_ (blt HB)
   ·rw [if_neg c11] at H
    have c11b0 : (x9_4 == 0) = false := beq_eq_false_iff_ne.mpr c11
    have c11b1 : (x9_4 != 0) = true := bne_iff_ne.mpr c11
    simp only [Option.some.injEq, Prod.mk.injEq] at H
    obtain ⟨rfl, rfl, rfl, rfl, rfl⟩ := H
    obtain ⟨hcz41_0, hcz41_1, hcz41_2, hcz41_3, hfz41_0, hfz41_1, hfz41_2, hfz41_3⟩ := cf4 BK256
    go_wp2
    refine bodyPost_ret (results_ct rfl _ _ gb256 24 #[.int .i64 0, .int .u64 0, .int .u64 0, .string (⟨#[]⟩ : ByteArray)] (0, 0) _ rfl (by (with_reducible repeat (first | refine blk_drewN ?_ _ | refine blk_drew ?_ | refine blk_alloc ?_ _)); apply bp4; (with_reducible repeat (first | refine blk_drewN ?_ _ | refine blk_drew ?_ | refine blk_alloc ?_ _)); exact BK256.out) Tryz.underlying24 rfl (by kernel_rfl)) rfl ?_
    exact fin_ (blt HB)
def fd_fits.l0 : Nat → Int → List Int → Int → Int → Option (Bool)
 | 0, _, _, _, _ => none
 | k + 1, x0, x7, x8, x9 => if x9 < x8 then (if 0 ≤ x9 then (if x9 < (x7.length : Int) then (if x0 = 1 then (if ((rd x7 x9) / 4294967296) = 0 then (fd_fits.l0 k x0 x7 x8 (wrap64 (x9 + 1))) else (some false)) else (fd_fits.l0 k x0 x7 x8 (wrap64 (x9 + 1)))) else (none)) else (none)) else (some true)
end Go.Proofs.YtmoimcblmmcffaaGreat.PPC

namespace Go.Proofs.YtmoimcblmmcffaaGreat.B
open Go.RowKit NC N PPC Go.Proofs.YtmoimcblmmcffaaGreatW.PrintWords
set_option linter.unusedSimpArgs false
set_option linter.unusedVariables false
def Blks (V : World) (L : List (Nat × Array Value)) : Prop := ∀ p ∈ L, (∀ i, V.cell? ⟨p.1, i, none⟩ = p.2[i]?) ∧ p.1 < V.heap.size
theorem Blks.call {V V' : World} {L : List (Nat × Array Value)} (h : Blks V L) (hb : Below V.heap.size V V') : Blks V' L := fun p hp =>
 ⟨fun i => ((bcell hb).1 _ i (h p hp).2).trans ((h p hp).1 i), Nat.lt_of_lt_of_le (h p hp).2 hb.size⟩
theorem blk_new' (W : World) (cs : Array Value) (t : TypeId) : Blks (W.alloc (.cells cs t (0, 0))) [(W.heap.size, cs)] := fun p hp => by
 obtain rfl := List.mem_singleton.1 hp
 exact ⟨fun i => cell_of_row _ _ i cs t (0, 0) (heap_alloc_new W _), by simp⟩
theorem hideB {P : Program} {c : Code} {Q : Exit → Act → World → Prop} {a : Act} {w W w1 : World} {cs : Array Value} {t : TypeId} {L : List (Nat × Array Value)} (hL : Blks W L) (hW : Below w.heap.size w W) (hb : Below W.heap.size W w1)
  (h : ∀ V g, w1.heap.size = g → Blks V ((g, cs) :: L) → Below w.heap.size w V → c.wp P Q a V) : c.wp P Q a (w1.alloc (.cells cs t (0, 0))) := by
 have hb2 : Below W.heap.size W (w1.alloc (.cells cs t (0, 0))) := below_alloc0 hb _
 refine h _ _ rfl (fun p hp => ?_) (hW.trans (hb2.mono hW.size))
 rcases List.mem_cons.1 hp with rfl | hp
 ·exact ⟨fun i => cell_of_row _ _ i cs t (0, 0) (heap_alloc_new w1 _), by simp⟩
 ·exact (hL.call hb2) p hp
set_option maxRecDepth 100000 in
set_option maxHeartbeats 1000000 in
theorem whole_c (re im x y : Int) (w : World) (h : r8_FromInteger.f 1 re = some x) (h' : r8_FromInteger.f 1 im = some y) :
  Calls Tryz.prog 51 #[.int .i64 re, .int .i64 im] w (Ret (.agg #[.int .i64 3, .int .u64 x, .int .u64 y, .string { data := #[] }]) w) := by
 have c1 : ∀ w, Calls Tryz.prog 23 #[.int .i64 1, .int .i64 re] w (Ret (.int .u64 x) w) := fun w => r8_FromInteger.calls 1 re x w h
 have c2 : ∀ w, Calls Tryz.prog 23 #[.int .i64 1, .int .i64 im] w (Ret (.int .u64 y) w) := fun w => r8_FromInteger.calls 1 im y w h'
 clear h h'
 go_enter Tryz.func51, Tryz.ntmps51
 go_upto_region 1 with (fail)
 refine hide0own (fun W n hn ho hlt hB => ?_)
 rw [hn]
 have HO : ExO n w W n 4 W := ⟨ExtN.refl (Nat.le_of_lt hlt) hB, ho⟩
 go_wp2_with (go_at_call 23; (first | ((with_reducible refine (c1 _).mono ?_); rintro e w1 ⟨rfl, hb1⟩; have HO := HO.call hb1) | ((with_reducible refine (c2 _).mono ?_); rintro e w1 ⟨rfl, hb1⟩; have HO := HO.call hb1)))
 have hr := Own.read4 (n := 0) ((((HO.2.set ⟨n, 0, none⟩ (.int .i64 3)).set ⟨n, 1, none⟩ (.int .u64 x)).set ⟨n, 2, none⟩ (.int .u64 y)).set ⟨n, 3, none⟩ (.string { data := #[] }))
 exact bodyPost_ret (v := .agg #[.int .i64 3, .int .u64 x, .int .u64 y, .string { data := #[] }]) (by simp [results, Tryz.results51, go_sem, hr.1, hr.2.1, hr.2.2.1, hr.2.2.2]) rfl ⟨rfl, by have hz := below_row HO.1.2.2 (.int .i64 3) (.int .u64 x) (.int .u64 y) (.string { data := #[] }) (g := n) (Nat.le_of_eq hn); exact hz⟩
theorem wh_12 (w : World) : Calls Tryz.prog 51 #[.int .i64 1, .int .i64 2] w (Ret (.agg #[.int .i64 3, .int .u64 1065353216, .int .u64 1073741824, .string { data := #[] }]) w) := whole_c 1 2 1065353216 1073741824 w (by decide +kernel) (by decide +kernel)
theorem wh_34 (w : World) : Calls Tryz.prog 51 #[.int .i64 3, .int .i64 4] w (Ret (.agg #[.int .i64 3, .int .u64 1077936128, .int .u64 1082130432, .string { data := #[] }]) w) := whole_c 3 4 1077936128 1082130432 w (by decide +kernel) (by decide +kernel)
theorem wh_m34 (w : World) : Calls Tryz.prog 51 #[.int .i64 (-3), .int .i64 4] w (Ret (.agg #[.int .i64 3, .int .u64 3225419776, .int .u64 1082130432, .string { data := #[] }]) w) := whole_c (-3) 4 3225419776 1082130432 w (by decide +kernel) (by decide +kernel)
theorem wh_11 (w : World) : Calls Tryz.prog 51 #[.int .i64 1, .int .i64 1] w (Ret (.agg #[.int .i64 3, .int .u64 1065353216, .int .u64 1065353216, .string { data := #[] }]) w) := whole_c 1 1 1065353216 1065353216 w (by decide +kernel) (by decide +kernel)
theorem wh_m510 (w : World) : Calls Tryz.prog 51 #[.int .i64 (-5), .int .i64 10] w (Ret (.agg #[.int .i64 3, .int .u64 3231711232, .int .u64 1092616192, .string { data := #[] }]) w) := whole_c (-5) 10 3231711232 1092616192 w (by decide +kernel) (by decide +kernel)
theorem both_k (w : World) : Calls Tryz.prog 52 #[.agg #[.int .i64 3, .int .u64 1065353216, .int .u64 1073741824, .string { data := #[] }], .agg #[.int .i64 3, .int .u64 1077936128, .int .u64 1082130432, .string { data := #[] }]] w (Ret (.tuple #[.int .i64 1, .agg #[.int .u64 1065353216, .int .u64 1073741824], .agg #[.int .u64 1077936128, .int .u64 1082130432], .int .i64 0]) w) := by
 have h := both_c 3 1065353216 1073741824 { data := #[] } 3 1077936128 1082130432 { data := #[] } w (by decide) (by decide) (by decide) (by decide)
 rw [show bothV 3 1065353216 1073741824 { data := #[] } 3 1077936128 1082130432 { data := #[] } = (1, 1065353216, 1073741824, 1077936128, 1082130432, 0) by decide +kernel] at h
 exact h
theorem apply_k (w : World) : Calls Tryz.prog 12 #[.int .i64 2, .agg #[.int .i64 3, .int .u64 1065353216, .int .u64 1073741824, .string { data := #[] }], .agg #[.int .i64 3, .int .u64 1077936128, .int .u64 1082130432, .string { data := #[] }]] w (Ret (.tuple #[.agg #[.int .i64 3, .int .u64 3231711232, .int .u64 1092616192, .string { data := #[] }], .int .i64 0]) w) :=
 apply_2 3 1065353216 1073741824 { data := #[] } 3 1077936128 1082130432 { data := #[] } 1 1065353216 1073741824 1077936128 1082130432 3231711232 1092616192 3 3231711232 1092616192 { data := #[] } w both_k (fun w => fd_times.calls 1 1065353216 1073741824 1077936128 1082130432 3231711232 1092616192 w (by decide +kernel)) (fun w => fd_value.calls 1 3231711232 1092616192 3 3231711232 1092616192 { data := #[] } w (by decide +kernel))
theorem size_k (w : World) : Calls Tryz.prog 26 #[.agg #[.int .i64 3, .int .u64 1077936128, .int .u64 1082130432, .string { data := #[] }]] w (Ret (.tuple #[.agg #[.int .i64 1, .int .u64 1084227584, .int .u64 0, .string { data := #[] }], .int .i64 0]) w) :=
 cx_SizeOf.calls 9 3 1077936128 1082130432 { data := #[] } 1 1084227584 0 { data := #[] } 0 w (by decide +kernel)
theorem sqrt_k (w : World) : Calls Tryz.prog 28 #[.agg #[.int .i64 3, .int .u64 3225419776, .int .u64 1082130432, .string { data := #[] }]] w (Ret (.tuple #[.agg #[.int .i64 3, .int .u64 1065353216, .int .u64 1073741824, .string { data := #[] }], .int .i64 0]) w) :=
 SqrtOf_w 3 3225419776 1082130432 { data := #[] } 3 1065353216 1073741824 { data := #[] } 0 w (fun w => of_SqrtOf_ok 3 3225419776 1082130432 { data := #[] } 1 3225419776 1082130432 1065353216 1073741824 3 1065353216 1073741824 { data := #[] } w
  (fun w => cx_open.calls 3 3225419776 1082130432 { data := #[] } 1 3225419776 1082130432 0 w (by decide +kernel)) (fun w => fd_squareRoot.calls 9 1 3225419776 1082130432 1065353216 1073741824 w (by decide +kernel)) (fun w => fd_value.calls 1 1065353216 1073741824 3 1065353216 1073741824 { data := #[] } w (by decide +kernel)))
theorem power_k (w : World) : Calls Tryz.prog 22 #[.agg #[.int .i64 3, .int .u64 1065353216, .int .u64 1065353216, .string { data := #[] }], .int .i64 4] w (Ret (.tuple #[.agg #[.int .i64 3, .int .u64 3229614080, .int .u64 0, .string { data := #[] }], .int .i64 0]) w) :=
 cx_PowerOf.calls 40 3 1065353216 1065353216 { data := #[] } 4 3 3229614080 0 { data := #[] } 0 w (by decide +kernel)
theorem kd_one {w : World} {g : Nat} {x y : Int} {s : ByteArray} (h : ∀ i, w.cell? ⟨g, i, none⟩ = (#[.int .i64 3, .int .u64 x, .int .u64 y, .string s] : Array Value)[i]?) : Kd.C k24 w (some ⟨g, 0, none⟩) ([(⟨3, x, y, s⟩ : S24)] : List S24).length [(⟨3, x, y, s⟩ : S24)] := by
 refine ⟨rfl, by simp, fun _ => ⟨_, rfl, fun j p hj => ?_⟩⟩
 rcases j with _ | j
 ·obtain rfl : (⟨3, x, y, s⟩ : S24) = p := by simpa using hj
  refine ⟨[.int .i64 3, .int .u64 x, .int .u64 y, .string s], rfl, k24_mk w _, fun i u hu => ?_⟩
  have e : (⟨g, 0, none⟩ : Addr).add (0 * k24.sz + i) = ⟨g, i, none⟩ := by cases i <;> simp [Addr.add]
  rw [e, h i, ← hu]
  simp
 ·simp at hj
theorem dot_k (g1 g2 : Nat) (w : World) (h1 : ∀ i, w.cell? ⟨g1, i, none⟩ = (#[.int .i64 3, .int .u64 1065353216, .int .u64 1065353216, .string { data := #[] }] : Array Value)[i]?) (h2 : ∀ i, w.cell? ⟨g2, i, none⟩ = (#[.int .i64 3, .int .u64 1065353216, .int .u64 1065353216, .string { data := #[] }] : Array Value)[i]?) :
  Calls Tryz.prog 38 #[.int .i64 3, .slice (some ⟨g1, 0, none⟩) 1 1, .slice (some ⟨g2, 0, none⟩) 1 1] w (Ret (.tuple #[.agg #[.int .i64 3, .int .u64 1073741824, .int .u64 0, .string { data := #[] }], .int .i64 0]) w) :=
 cx_DotOf.calls 9 3 (some ⟨g1, 0, none⟩) 1 [⟨3, 1065353216, 1065353216, { data := #[] }⟩] (some ⟨g2, 0, none⟩) 1 [⟨3, 1065353216, 1065353216, { data := #[] }⟩] 3 1073741824 0 { data := #[] } 0 w (kd_one h1) (by decide) (kd_one h2) (by decide) (by decide +kernel)
set_option maxRecDepth 100000 in
set_option maxHeartbeats 8000000 in
theorem awake_c (w : World) : Calls Tryz.prog 10 #[] w (Ret (.bool true) w) := by
 obtain ⟨z, c4⟩ : ∃ z : Int, ∀ w, Calls Tryz.prog 22 #[.agg #[.int .i64 3, .int .u64 1065353216, .int .u64 1065353216, .string { data := #[] }], .int .i64 4] w (Ret (.tuple #[.agg #[.int .i64 3, .int .u64 3229614080, .int .u64 0, .string { data := #[] }], .int .i64 0]) w) := ⟨0, fun w => power_k w⟩
 have L0 : Blks w [] := fun p hp => by cases hp
 have HE := Below.refl w.heap.size w
 go_enter Tryz.func10, Tryz.ntmps10
 go_upto_region 2 with (first | (go_at_call 51; (with_reducible refine (wh_12 _).mono ?_); rintro e wh ⟨rfl, hbh⟩; have HE := below_call HE hbh) | (go_at_call 51; (with_reducible refine (wh_34 _).mono ?_); rintro e wh ⟨rfl, hbh⟩; have HE := below_call HE hbh) | (go_at_call 12; (with_reducible refine (apply_k _).mono ?_); rintro e wa ⟨rfl, hba⟩; have HE := below_call HE hba))
 refine hideB L0 (Below.refl _ _) HE (fun V1 g1 hg1 L1 B1 => ?_)
 rw [hg1]
 clear hbh hba HE hg1
 have HE := Below.refl V1.heap.size V1
 go_upto_region 3 with (first | (go_at_call 51; (with_reducible refine (wh_34 _).mono ?_); rintro e wh ⟨rfl, hbh⟩; have HE := below_call HE hbh) | (go_at_call 26; (with_reducible refine (size_k _).mono ?_); rintro e wa ⟨rfl, hba⟩; have HE := below_call HE hba))
 refine hideB L1 B1 HE (fun V2 g2 hg2 L2 B2 => ?_)
 rw [hg2]
 clear hbh hba HE hg2
 have HE := Below.refl V2.heap.size V2
 go_upto_region 4 with (first | (go_at_call 51; (with_reducible refine (wh_m34 _).mono ?_); rintro e wh ⟨rfl, hbh⟩; have HE := below_call HE hbh) | (go_at_call 28; (with_reducible refine (sqrt_k _).mono ?_); rintro e wa ⟨rfl, hba⟩; have HE := below_call HE hba))
 refine hideB L2 B2 HE (fun V3 g3 hg3 L3 B3 => ?_)
 rw [hg3]
 clear hbh hba HE hg3
 have HE := Below.refl V3.heap.size V3
 go_upto_region 5 with (first | (go_at_call 51; (with_reducible refine (wh_11 _).mono ?_); rintro e wh ⟨rfl, hbh⟩; have HE := below_call HE hbh) | (go_at_call 22; (with_reducible refine (c4 _).mono ?_); rintro e wa ⟨rfl, hba⟩; have HE := below_call HE hba))
 refine hideB L3 B3 HE (fun V4 g4 hg4 L4 B4 => ?_)
 rw [hg4]
 clear hbh hba HE hg4
 have HE := Below.refl V4.heap.size V4
 go_upto_region 6 with (first | (go_at_call 51; (with_reducible refine (wh_11 _).mono ?_); rintro e wh ⟨rfl, hbh⟩; first | have HE := below_call HE hbh | (have HS := (blk_new' _ _ _).call hbh; have HE := below_call (below_alloc0 HE _) hbh)) | (go_at_call 38; refine (dot_k _ _ _ ((HS.call (below_alloc0 (Below.refl _ _) _)) _ List.mem_cons_self).1 ((blk_new' _ _ _) _ List.mem_cons_self).1).mono ?_; rintro e wa ⟨rfl, hba⟩; have HE := below_call (below_alloc0 HE _) hba))
 refine hideB L4 B4 HE (fun V5 g5 hg5 L5 B5 => ?_)
 rw [hg5]
 clear hbh hba HE hg5 L4 L3 L2 L1 L0
 have a1 := L5 _ (.tail _ (.tail _ (.tail _ (.tail _ (.head _)))))
 have a2 := L5 _ (.tail _ (.tail _ (.tail _ (.head _))))
 have a3 := L5 _ (.tail _ (.tail _ (.head _)))
 have a4 := L5 _ (.tail _ (.head _))
 have a5 := L5 _ (.head _)
 obtain ⟨k1, s1⟩ := a1
 obtain ⟨k2, s2⟩ := a2
 obtain ⟨k3, s3⟩ := a3
 obtain ⟨k4, s4⟩ := a4
 obtain ⟨k5, s5⟩ := a5
 dsimp only at k1 k2 k3 k4 k5 s1 s2 s3 s4 s5
 clear L5
 have HV : Ext w V5 V5 := Ext.refl B5
 first | (go_region_held3 (fun w' => Ext w V5 w') (first | assumption | (with_reducible exact Ext.call (by assumption) hb9) | ((with_reducible refine Ext.drew ?_); assumption)) (first | (go_at_call 51; (with_reducible refine (wh_m510 _).mono ?_); rintro e w9 ⟨rfl, hb9⟩) | (go_at_call 51; (with_reducible refine (wh_12 _).mono ?_); rintro e w9 ⟨rfl, hb9⟩))) | fail
 go_wp2
 go_ret
 exact ⟨rfl, Ext.end (by assumption)⟩
end Go.Proofs.YtmoimcblmmcffaaGreat.B

namespace Go.Proofs.YtmoimcblmmcffaaGreat
open Go.RowKit
def l10_awake.f : Option Bool := some true
theorem l10_awake.calls (r : Bool) (w : World) (h : l10_awake.f = some r) : Calls Tryz.prog 10 #[] w fun e w' => e = .returned (.bool r) ∧ Below w.heap.size w w' := by
 obtain rfl := Option.some.inj h
 exact B.awake_c w
end Go.Proofs.YtmoimcblmmcffaaGreat

namespace Go.Proofs.YtmoimcblmmcffaaGreat
open Go.RowKit B N NC PPC
set_option linter.unusedSimpArgs false
set_option linter.unusedVariables false
def cx_Apply.f (op : Int) (a0 a1 a2 : Int) (a3 : ByteArray) (b0 b1 b2 : Int) (b3 : ByteArray) : Option (Int × Int × Int × ByteArray × Int) := (cx_both.f a0 a1 a2 a3 b0 b1 b2 b3).bind fun z => if z.2.2.2.2.2 = 0 then (if op = 0 then (fd_plus.f z.1 z.2.1 z.2.2.1 z.2.2.2.1 z.2.2.2.2.1).bind fun q => (fd_value.f z.1 q.1 q.2).bind fun y => some (y.1, y.2.1, y.2.2.1, y.2.2.2, 0) else if op = 1 then (fd_minus.f z.1 z.2.1 z.2.2.1 z.2.2.2.1 z.2.2.2.2.1).bind fun q => (fd_value.f z.1 q.1 q.2).bind fun y => some (y.1, y.2.1, y.2.2.1, y.2.2.2, 0) else if op = 2 then (fd_times.f z.1 z.2.1 z.2.2.1 z.2.2.2.1 z.2.2.2.2.1).bind fun q => (fd_value.f z.1 q.1 q.2).bind fun y => some (y.1, y.2.1, y.2.2.1, y.2.2.2, 0) else if op = 3 then (fd_over.f z.1 z.2.1 z.2.2.1 z.2.2.2.1 z.2.2.2.2.1).bind fun q => (fd_value.f z.1 q.1 q.2).bind fun y => some (y.1, y.2.1, y.2.2.1, y.2.2.2, 0) else none) else none
theorem cx_Apply.calls (op : Int) (a0 a1 a2 : Int) (a3 : ByteArray) (b0 b1 b2 : Int) (b3 : ByteArray) (r1 r2 r3 : Int) (r4 : ByteArray) (r5 : Int) (w : World) (h : cx_Apply.f op a0 a1 a2 a3 b0 b1 b2 b3 = some (r1, r2, r3, r4, r5)) :
  Calls Tryz.prog 12 #[.int .i64 op, .agg #[.int .i64 a0, .int .u64 a1, .int .u64 a2, .string a3], .agg #[.int .i64 b0, .int .u64 b1, .int .u64 b2, .string b3]] w fun e w' => e = .returned (.tuple #[.agg #[.int .i64 r1, .int .u64 r2, .int .u64 r3, .string r4], .int .i64 r5]) ∧ Below w.heap.size w w' := by
 obtain ⟨z, hz, h⟩ := Option.bind_eq_some_iff.mp h
 obtain ⟨p, x0, x1, y0, y1, er⟩ := z
 have cb := fun w => cx_both.calls _ _ _ _ _ _ _ _ _ _ _ _ _ _ w hz
 dsimp only at h
 by_cases he : er = 0
 case neg => rw [if_neg he] at h; cases h
 subst he
 rw [if_pos rfl] at h
 by_cases c0 : op = 0
 ·subst c0
  rw [if_pos rfl] at h
  obtain ⟨⟨q0, q1⟩, hq, h⟩ := Option.bind_eq_some_iff.mp h
  obtain ⟨⟨v0, v1, v2, v3⟩, hv, h⟩ := Option.bind_eq_some_iff.mp h
  injection Option.some.inj h with h1 h2
  injection h2 with h2 h3
  injection h3 with h3 h4
  injection h4 with h4 h5
  subst h1 h2 h3 h4 h5
  exact apply_0 _ _ _ _ _ _ _ _ _ _ _ _ _ _ _ _ _ _ _ w cb (fun w => fd_plus.calls _ _ _ _ _ _ _ w hq) (fun w => fd_value.calls _ _ _ _ _ _ _ w hv)
 rw [if_neg c0] at h
 by_cases c1 : op = 1
 ·subst c1
  rw [if_pos rfl] at h
  obtain ⟨⟨q0, q1⟩, hq, h⟩ := Option.bind_eq_some_iff.mp h
  obtain ⟨⟨v0, v1, v2, v3⟩, hv, h⟩ := Option.bind_eq_some_iff.mp h
  injection Option.some.inj h with h1 h2
  injection h2 with h2 h3
  injection h3 with h3 h4
  injection h4 with h4 h5
  subst h1 h2 h3 h4 h5
  exact apply_1 _ _ _ _ _ _ _ _ _ _ _ _ _ _ _ _ _ _ _ w cb (fun w => fd_minus.calls _ _ _ _ _ _ _ w hq) (fun w => fd_value.calls _ _ _ _ _ _ _ w hv)
 rw [if_neg c1] at h
 by_cases c2 : op = 2
 ·subst c2
  rw [if_pos rfl] at h
  obtain ⟨⟨q0, q1⟩, hq, h⟩ := Option.bind_eq_some_iff.mp h
  obtain ⟨⟨v0, v1, v2, v3⟩, hv, h⟩ := Option.bind_eq_some_iff.mp h
  injection Option.some.inj h with h1 h2
  injection h2 with h2 h3
  injection h3 with h3 h4
  injection h4 with h4 h5
  subst h1 h2 h3 h4 h5
  exact apply_2 _ _ _ _ _ _ _ _ _ _ _ _ _ _ _ _ _ _ _ w cb (fun w => fd_times.calls _ _ _ _ _ _ _ w hq) (fun w => fd_value.calls _ _ _ _ _ _ _ w hv)
 rw [if_neg c2] at h
 by_cases c3 : op = 3
 ·subst c3
  rw [if_pos rfl] at h
  obtain ⟨⟨q0, q1⟩, hq, h⟩ := Option.bind_eq_some_iff.mp h
  obtain ⟨⟨v0, v1, v2, v3⟩, hv, h⟩ := Option.bind_eq_some_iff.mp h
  injection Option.some.inj h with h1 h2
  injection h2 with h2 h3
  injection h3 with h3 h4
  injection h4 with h4 h5
  subst h1 h2 h3 h4 h5
  exact apply_3 _ _ _ _ _ _ _ _ _ _ _ _ _ _ _ _ _ _ _ w cb (fun w => fd_over.calls _ _ _ _ _ _ _ w hq) (fun w => fd_value.calls _ _ _ _ _ _ _ w hv)
 rw [if_neg c3] at h
 cases h
end Go.Proofs.YtmoimcblmmcffaaGreat

namespace Go.Proofs.YtmoimcblmmcffaaGreat.B
open Go.RowKit NC N PPC PRA Go.Proofs.YtmoimcblmmcffaaGreatW.PrintWords
set_option linter.unusedSimpArgs false
set_option linter.unusedVariables false
def timesP (s : Bool) (p q : Nat × Nat) : Nat × Nat := (subR s (mulR s p.1 q.1) (mulR s p.2 q.2), addR s (mulR s p.1 q.2) (mulR s p.2 q.1))
def okP (s : Bool) (p : Nat × Nat) : Prop := p.1 < 2 * signN s ∧ p.2 < 2 * signN s
theorem timesP_ok {s : Bool} {p q : Nat × Nat} (hp : okP s p) (hq : okP s q) : okP s (timesP s p q) := ⟨subR_lt (mulR_lt hp.1 hq.1) (mulR_lt hp.2 hq.2), addR_lt (mulR_lt hp.1 hq.2) (mulR_lt hp.2 hq.1)⟩
theorem ftimes {s : Bool} {p q : Nat × Nat} (hp : okP s p) (hq : okP s q) : fd_times.f (tv s) (p.1 : Int) (p.2 : Int) (q.1 : Int) (q.2 : Int) = some (((timesP s p q).1 : Int), ((timesP s p q).2 : Int)) := by
 unfold fd_times.f timesP
 rw [fmul hp.1 hq.1, Option.bind_some, fmul hp.2 hq.2, Option.bind_some, fsub (mulR_lt hp.1 hq.1) (mulR_lt hp.2 hq.2), Option.bind_some, fmul hp.1 hq.2, Option.bind_some, fmul hp.2 hq.1, Option.bind_some, fadd (mulR_lt hp.1 hq.2) (mulR_lt hp.2 hq.1), Option.bind_some]
def powC (s : Bool) (size : Nat) (x : Nat × Nat) : Nat → Nat × Nat → Nat × Nat
 | 0, o => o
 | i + 1, o => powC s size x i (if size / 2 ^ i = 0 then o else if size / 2 ^ i % 2 = 1 then timesP s (timesP s o o) x else timesP s o o)
theorem bits_and (n i : Nat) (hn : n < 18446744073709551616) (hi : i < 64) : (bits .and .u64 (n : Int) ((2 ^ i : Nat) : Int) = 0) ↔ ¬ n / 2 ^ i % 2 = 1 := by
 have h := and_bit n i hn hi
 by_cases k : n / 2 ^ i % 2 = 1
 ·rw [decide_eq_true k] at h
  have : bits .and .u64 (n : Int) ((2 ^ i : Nat) : Int) ≠ 0 := by simpa using h
  exact ⟨fun e => absurd e this, fun e => absurd k e⟩
 ·rw [decide_eq_false k] at h
  exact ⟨fun _ => k, fun _ => by simpa using h⟩
def bitI : Nat → Int
 | 0 => 0
 | j + 1 => ((2 ^ j : Nat) : Int)
theorem fpow_l0 {s : Bool} {n : Int} {size : Nat} {x : Nat × Nat} (hn : ¬ n < 0) (hz : size < 18446744073709551616) (hx : okP s x) (z0 z1 : Int) : ∀ (i k : Nat) (o : Nat × Nat), i ≤ 32 → i < k → okP s o →
  fd_power.l0 k (tv s) n (size : Int) (bitI i) (x.1 : Int) (x.2 : Int) z0 z1 (o.1 : Int) (o.2 : Int) = some (((powC s size x i o).1 : Int), ((powC s size x i o).2 : Int))
 | 0, 0, _, _, h, _ => absurd h (by omega)
 | 0, k + 1, o, _, _, _ => by simp only [fd_power.l0, powC, bitI, if_true, if_neg hn]
 | i + 1, 0, _, _, h, _ => absurd h (by omega)
 | i + 1, k + 1, o, hi, hk, ho => by
  have hp : 0 < 2 ^ i := Nat.two_pow_pos i
  have hd : (((2 ^ i : Nat) : Int) / 2) = bitI i := by
   cases i with
   | zero => rfl
   | succ j => show ((2 ^ (j + 1) : Nat) : Int) / 2 = ((2 ^ j : Nat) : Int); rw [Nat.pow_succ]; omega
  have hrec := fun o ho => fpow_l0 hn hz hx z0 z1 i k o (by omega) (by omega) ho
  show fd_power.l0 (k + 1) (tv s) n (size : Int) ((2 ^ i : Nat) : Int) (x.1 : Int) (x.2 : Int) z0 z1 (o.1 : Int) (o.2 : Int) = _
  simp only [fd_power.l0, powC]
  rw [if_neg (show ¬ (((2 ^ i : Nat) : Int) = 0) by omega), hd]
  have hg : (((2 ^ i : Nat) : Int) > (size : Int)) ↔ size / 2 ^ i = 0 := by
   rw [Nat.div_eq_zero_iff]
   omega
  by_cases c1 : size / 2 ^ i = 0
  ·rw [if_pos (hg.2 c1), if_pos c1]; exact hrec o ho
  ·rw [if_neg (fun e => c1 (hg.1 e)), if_neg c1, ftimes ho ho, Option.bind_some]
   have hb := bits_and size i hz (by omega)
   by_cases c2 : size / 2 ^ i % 2 = 1
   ·rw [if_neg (fun e => hb.1 e c2), if_pos c2]
    dsimp only
    rw [ftimes (timesP_ok ho ho) hx, Option.bind_some]
    exact hrec _ (timesP_ok (timesP_ok ho ho) hx)
   ·rw [if_pos (hb.2 c2), if_neg c2]
    exact hrec _ (timesP_ok ho ho)
theorem fone (s : Bool) : fd_one.f (tv s) = some ((fromR s 1 : Nat) : Int) := by
 unfold fd_one.f; cases s <;> rfl
theorem fpower {s : Bool} {n : Nat} {x : Nat × Nat} (hn : n ≤ 2147483647) (hx : okP s x) : fd_power.f 40 (tv s) (x.1 : Int) (x.2 : Int) (n : Int) = some (((powC s n x 32 (fromR s 1, 0)).1 : Int), ((powC s n x 32 (fromR s 1, 0)).2 : Int)) := by
 unfold fd_power.f
 rw [fone, Option.bind_some]
 have hm : IntKind.u64.wrap (mx (n : Int) (wrap64 (-(n : Int)))) = (n : Int) := by
  have hw : wrap64 (-(n : Int)) = -(n : Int) := by unfold wrap64; omega
  have h2 : mx (n : Int) (-(n : Int)) = (n : Int) := by
   unfold mx
   by_cases h : (n : Int) < -(n : Int)
   ·omega
   ·rw [if_neg h]
  rw [hw, h2]
  exact kuwrap (by omega)
 rw [hm]
 exact fpow_l0 (s := s) (n := (n : Int)) (by omega) (by omega) hx _ _ 32 40 (fromR s 1, 0) (by omega) (by omega) ⟨fromR_lt s 1, by cases s <;> decide⟩
end Go.Proofs.YtmoimcblmmcffaaGreat.B

namespace Go.Proofs.YtmoimcblmmcffaaGreat.NC
open Go.RowKit Go.Proofs.YtmoimcblmmcffaaGreat.B Go.Proofs.YtmoimcblmmcffaaGreat.N
set_option linter.unusedSimpArgs false
set_option linter.unusedVariables false
structure Num (s : Bool) (a : Nat) (n : Bool) (r m : Nat) (e : Int) : Prop where
 word : a = (fm s).word n r
 lt : r < (fm s).infRung
 read : (fm s).read a = .number n m e
 least : leastN s ≤ e
 val : m * 2 ^ (e - leastN s).toNat = Fl.V (fm s) r
 zero : m = 0 ↔ r = 0
 back : Fl.rung (fm s) m e = r
theorem num_word (s n : Bool) {r : Nat} (h : r < (fm s).infRung) : ∃ m e, Num s ((fm s).word n r) n r m e := by
 obtain ⟨m, p, h1, h2, h3, h4, h5⟩ := Fl.read_number (fm s) n r h
 rw [fm_least] at h2 h3
 exact ⟨m, p, rfl, h, h1, h2, h3, h4, h5⟩
theorem num_of {s : Bool} {a : Nat} (ha : a < 2 * signN s) (hn : isNumR s a = true) : ∃ n r m e, Num s a n r m e := by
 have ht := told s a ha
 unfold isNumR at hn
 generalize partsR s a = p at *
 cases ht with
 | zero n h hr => obtain ⟨m, e, hk⟩ := num_word s n (r := 0) (by have := inf_ge s; have := Fl.binade_pos (fm s); omega); rw [← h] at hk; exact ⟨n, 0, m, e, hk⟩
 | fin n m' e' r h0 h1 h hm hm2 he he2 hbn hr => obtain ⟨m, e, hk⟩ := num_word s n h1; rw [← h] at hk; exact ⟨n, r, m, e, hk⟩
 | inf n h hr => simp at hn
 | nan n r t u h0 h1 h hr => simp at hn
def sv (s n : Bool) (r : Nat) : Int := Ieee.signed n (Fl.V (fm s) r) 0
def rkT (s : Bool) (T p : Int) : Int := if T < 0 then -(Fl.rung (fm s) T.natAbs p : Int) else (Fl.rung (fm s) T.natAbs p : Int)
def IsT (s : Bool) (y : Nat) (T p : Int) : Prop := ∃ n, y = (fm s).word n (Fl.rung (fm s) T.natAbs p) ∧ (T < 0 → n = true) ∧ (0 < T → n = false)
theorem IsT.rank {s : Bool} {y : Nat} {T p : Int} (h : IsT s y T p) : ∃ n r, r ≤ (fm s).infRung ∧ y = (fm s).word n r ∧ Fl.rk n r = rkT s T p := by
 obtain ⟨n, h1, h2, h3⟩ := h
 refine ⟨n, _, Fl.rung_le _ _ _, h1, ?_⟩
 unfold Fl.rk rkT
 by_cases k1 : T < 0
 ·rw [h2 k1, if_pos k1]; rfl
 ·rw [if_neg k1]
  by_cases k2 : 0 < T
  ·rw [h3 k2]; rfl
  ·obtain rfl : T = 0 := by omega
   rw [Int.natAbs_zero, Fl.rung_zero]
   cases n <;> rfl
theorem cmp_word {s n m : Bool} {q r : Nat} (h : q ≤ (fm s).infRung) (h' : r ≤ (fm s).infRung) : cmpR s ((fm s).word n q) ((fm s).word m r) = if Fl.rk n q < Fl.rk m r then -1 else if Fl.rk n q = Fl.rk m r then 0 else 1 := by
 have h1 : (fm s).word n q < 2 * signN s := word_lt s n (Nat.lt_of_le_of_lt h (inf_lt s))
 have h2 : (fm s).word m r < 2 * signN s := word_lt s m (Nat.lt_of_le_of_lt h' (inf_lt s))
 rw [← cmp_eq h1 h2]
 have ho := Fl.order_word (fm s) (inf_ge s) n m h h'
 show cmpV ((fm s).order _ _) = _
 rw [Int.toNat_natCast, Int.toNat_natCast, ho]
 rcases Int.lt_trichotomy (Fl.rk n q) (Fl.rk m r) with k | k | k
 ·rw [Int.compare_eq_lt.2 k, if_pos k]; rfl
 ·rw [Int.compare_eq_eq.2 k, if_neg (by omega), if_pos k]; rfl
 ·rw [Int.compare_eq_gt.2 k, if_neg (by omega), if_neg (by omega)]; rfl
theorem cmp_T {s : Bool} {y z : Nat} {T U p : Int} (hy : IsT s y T p) (hz : IsT s z U p) : cmpR s y z = if rkT s T p < rkT s U p then -1 else if rkT s T p = rkT s U p then 0 else 1 := by
 obtain ⟨n, q, h1, rfl, h3⟩ := hy.rank
 obtain ⟨m, r, k1, rfl, k3⟩ := hz.rank
 rw [cmp_word h1 k1, h3, k3]
theorem add_T {s : Bool} {a b : Nat} {n m : Bool} {q r ma mb : Nat} {ea eb : Int} (ha : Num s a n q ma ea) (hb : Num s b m r mb eb) : IsT s (addR s a b) (sv s n q + sv s m r) (leastN s) := by
 have la : a < 2 * signN s := by rw [ha.word]; exact word_lt s n (Nat.lt_trans ha.lt (inf_lt s))
 have lb : b < 2 * signN s := by rw [hb.word]; exact word_lt s m (Nat.lt_trans hb.lt (inf_lt s))
 have hl1 := ha.least
 have hl2 := hb.least
 have hf : floatBits .add (fkOf s) a b = ((((fm s).read a).sum ((fm s).read b)).map (fm s).write) := rfl
 have hT : (Ieee.signed n ma (ea - min ea eb).toNat + Ieee.signed m mb (eb - min ea eb).toNat) * 2 ^ (min ea eb - leastN s).toNat = sv s n q + sv s m r := by
  rw [Int.add_mul, ← Fl.signed_mul, ← Fl.signed_mul, show (ea - min ea eb).toNat + (min ea eb - leastN s).toNat = (ea - leastN s).toNat from by omega, show (eb - min ea eb).toNat + (min ea eb - leastN s).toNat = (eb - leastN s).toNat from by omega, Fl.signed_eq n ma, Fl.signed_eq m mb, ha.val, hb.val]
  rfl
 generalize hX : Ieee.signed n ma (ea - min ea eb).toNat + Ieee.signed m mb (eb - min ea eb).toNat = X at *
 have hpp : (0 : Int) < 2 ^ (min ea eb - leastN s).toNat := Fl.two_pow_pos _
 have hr : resV s .add a b = ((fm s).nearest (if X = 0 then n && m else decide (X < 0)) X.natAbs (min ea eb) : Nat) := by
  refine res_num ?_
  rw [hf, ha.read, hb.read]
  show some ((fm s).nearest _ _ _) = _
  rw [← hX]
 rw [add_eq la lb] at hr
 have hr' : addR s a b = (fm s).nearest (if X = 0 then n && m else decide (X < 0)) X.natAbs (min ea eb) := by exact_mod_cast hr
 refine ⟨if X = 0 then n && m else decide (X < 0), ?_, fun h => ?_, fun h => ?_⟩
 ·rw [hr', Fl.nearest_rung]
  congr 1
  have := Fl.rung_scale (fm s) X.natAbs (min ea eb - leastN s).toNat (leastN s)
  rw [show leastN s + ((min ea eb - leastN s).toNat : Int) = min ea eb from by omega] at this
  rw [← this, ← hT]
  congr 1
  rw [Int.natAbs_mul, Int.natAbs_pow]
  rfl
 ·rw [← hT] at h
  have hx : X < 0 := by
   rcases Int.lt_or_le X 0 with k | k
   ·exact k
   ·have := Int.mul_nonneg k (Int.le_of_lt hpp); omega
  rw [if_neg (by omega)]; simpa using hx
 ·rw [← hT] at h
  have hx : 0 < X := by
   rcases Int.lt_or_le 0 X with k | k
   ·exact k
   ·have := Int.mul_nonneg (show 0 ≤ -X by omega) (Int.le_of_lt hpp); rw [Int.neg_mul] at this; omega
  rw [if_neg (by omega)]; simp; omega
end Go.Proofs.YtmoimcblmmcffaaGreat.NC
