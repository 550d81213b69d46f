/- Contracts and plain laws that the law ComplexesApply leans on (texts joined by program; what it does not come to is left out). -/
import Derived.Test.YtmoimcblmmcffaaGreatQComplexesApplyA
import Derived.Test.YtmoimcblmmcffaaGreatQComplexesApplyG

namespace Go.Proofs.YtmoimcblmmcffaaGreat.PPC
open Go.RowKit Go.Proofs.YtmoimcblmmcffaaGreatW.PrintWords Go.Proofs.YtmoimcblmmcffaaGreatW.PrintLast Go.Proofs.YtmoimcblmmcffaaGreatW.PrintMore Go.Proofs.YtmoimcblmmcffaaGreatW.PrintZ
attribute [local go_sem] max2_int min2_int max_two min_two max_three min_three max_four min_four   -- for this text's walks alone
set_option linter.unusedVariables false
set_option linter.unusedSimpArgs false
def complexes_field_operation.f (a0 : Int) (a1 : Int) (a2 : Int) (a3 : Int) : Option (Int) := (reals_Apply.f a1 a0 a2 a3).bind fun bt101 => (some bt101.1)
set_option maxHeartbeats 8000000 in
set_option maxRecDepth 100000 in
theorem complexes_field_operation.calls (a0 : Int) (a1 : Int) (a2 : Int) (a3 : Int) (r : Int) (w : World) (h : complexes_field_operation.f a0 a1 a2 a3 = some r) :
  Calls Tryz.prog 120 #[.int .i64 a0, .int .i64 a1, .int .u64 a2, .int .u64 a3] w fun e w' => e = .returned (.int .u64 r) ∧ Below w.heap.size w w' := by
 have HB := Aside0.mk (Below.refl w.heap.size w)
 have H : ((reals_Apply.f a1 a0 a2 a3).bind fun bt101 => (some bt101.1)) = some r := h
 clear h
 replace H := Option.bind_eq_some_iff.mp H
 obtain ⟨⟨t101, t102⟩, A5, H⟩ := H
 try dsimp only at H
 replace A5 := Aside0.mk A5
 obtain rfl := Option.some.inj H
 go_enter Tryz.func120, Tryz.ntmps120
 go_wp2_with (first | ((with_reducible refine gate_callee (f := 139) rfl ?_); refine gL 16 Tryz.func139 #[.int .i64 a1, .int .i64 a0, .int .u64 a2, .int .u64 a3] ?_; (with_reducible refine (reals_Apply.calls a1 a0 a2 a3 t101 t102 _ A5.out).mono ?_); rintro e w6 ⟨rfl, hb⟩; refine ⟨_, rfl, ?_⟩; replace HB := bls HB hb; clear hb))
 go_ret
 exact ⟨by first | rfl | (simp [errW_none, errW_some] <;> rfl) | (simp [*, errW_none, errW_some] <;> rfl), (blt HB).out⟩
def complexes_field_add.f (a0 : Int) (a1 : Int) (a2 : Int) : Option (Int) := (complexes_field_operation.f a0 0 a1 a2).bind fun t103 => (some t103)
set_option maxHeartbeats 8000000 in
set_option maxRecDepth 100000 in
theorem complexes_field_add.calls (a0 : Int) (a1 : Int) (a2 : Int) (r : Int) (w : World) (h : complexes_field_add.f a0 a1 a2 = some r) :
  Calls Tryz.prog 97 #[.int .i64 a0, .int .u64 a1, .int .u64 a2] w fun e w' => e = .returned (.int .u64 r) ∧ Below w.heap.size w w' := by
 have HB := Aside0.mk (Below.refl w.heap.size w)
 have H : ((complexes_field_operation.f a0 0 a1 a2).bind fun t103 => (some t103)) = some r := h
 clear h
 replace H := Option.bind_eq_some_iff.mp H
 obtain ⟨t103, A4, H⟩ := H
 try dsimp only at H
 replace A4 := Aside0.mk A4
 obtain rfl := Option.some.inj H
 go_enter Tryz.func97, Tryz.ntmps97
 go_wp2_with (first | ((with_reducible refine gate_callee (f := 120) rfl ?_); refine gL 10 Tryz.func120 #[.int .i64 a0, .int .i64 0, .int .u64 a1, .int .u64 a2] ?_; (with_reducible refine (complexes_field_operation.calls a0 0 a1 a2 t103 _ A4.out).mono ?_); rintro e w5 ⟨rfl, hb⟩; refine ⟨_, rfl, ?_⟩; replace HB := bls HB hb; clear hb))
 go_ret
 exact ⟨by first | rfl | (simp [errW_none, errW_some] <;> rfl) | (simp [*, errW_none, errW_some] <;> rfl), (blt HB).out⟩
def complexes_field_plus.f (a0 : Int) (a1_0 : Int) (a1_1 : Int) (a2_0 : Int) (a2_1 : Int) : Option (Int × Int) := (complexes_field_add.f a0 a1_0 a2_0).bind fun t107 => ((complexes_field_add.f a0 a1_1 a2_1).bind fun t108 => (some (t107, t108)))
set_option maxHeartbeats 8000000 in
set_option maxRecDepth 100000 in
theorem complexes_field_plus.calls (a0 : Int) (a1_0 : Int) (a1_1 : Int) (a2_0 : Int) (a2_1 : Int) (r1 : Int) (r2 : Int) (w : World) (h : complexes_field_plus.f a0 a1_0 a1_1 a2_0 a2_1 = some (r1, r2)) :
  Calls Tryz.prog 53 #[.int .i64 a0, .agg #[.int .u64 a1_0, .int .u64 a1_1], .agg #[.int .u64 a2_0, .int .u64 a2_1]] w fun e w' => e = .returned (.agg #[.int .u64 r1, .int .u64 r2]) ∧ Below w.heap.size w w' := by
 have hu74 := Tryz.underlying74
 have HB := Aside0.mk (Below.refl w.heap.size w)
 have H : ((complexes_field_add.f a0 a1_0 a2_0).bind fun t107 => ((complexes_field_add.f a0 a1_1 a2_1).bind fun t108 => (some (t107, t108)))) = some (r1, r2) := h
 clear h
 replace H := Option.bind_eq_some_iff.mp H
 obtain ⟨t107, A4, H⟩ := H
 try dsimp only at H
 replace A4 := Aside0.mk A4
 replace H := Option.bind_eq_some_iff.mp H
 obtain ⟨t108, A5, H⟩ := H
 try dsimp only at H
 replace A5 := Aside0.mk A5
 simp only [Option.some.injEq, Prod.mk.injEq] at H
 obtain ⟨rfl, rfl⟩ := H
 go_enter Tryz.func53, Tryz.ntmps53
 go_upto_region 1 with (fail)
 refine B.hide2own w (fun W k0 k1 ho HW => ?_) (Below.refl _ _)
 have HO : B.ExO (w.heap.size + 2) w W (w.heap.size + 2) 2 W := ⟨HW, ho⟩
 go_upto_region 1 with ((go_at_call 97; first | ((with_reducible refine (complexes_field_add.calls a0 a1_0 a2_0 t107 _ A4.out).mono ?_); rintro e w1 ⟨rfl, hb1⟩; (try replace hb1 := Drawn0.below hb1); have HO := (by first | (with_reducible exact B.ExO.call HO hb1) | (with_reducible exact B.ExO.callN HO hb1) | (with_reducible exact B.ExO.callD HO hb1) : B.ExO (w.heap.size + 2) w W (w.heap.size + 2) 2 w1)) | ((with_reducible refine (complexes_field_add.calls a0 a1_1 a2_1 t108 _ A5.out).mono ?_); rintro e w1 ⟨rfl, hb1⟩; (try replace hb1 := Drawn0.below hb1); have HO := (by first | (with_reducible exact B.ExO.call HO hb1) | (with_reducible exact B.ExO.callN HO hb1) | (with_reducible exact B.ExO.callD HO hb1) : B.ExO (w.heap.size + 2) w W (w.heap.size + 2) 2 w1))))
 go_region_held3 (fun w' => B.ExO (w.heap.size + 2) w W (w.heap.size + 2) 2 w') (first | (with_reducible assumption) | (with_reducible exact B.ExO.call (by assumption) hb1) | ((with_reducible refine B.ExO.drew ?_); (with_reducible assumption)) | (with_reducible exact B.ExO.put (B.ExO.put (by assumption) _ _) _ _)) ((go_at_call 97; first | ((with_reducible refine (complexes_field_add.calls a0 a1_0 a2_0 t107 _ A4.out).mono ?_); rintro e w1 ⟨rfl, hb1⟩; (try replace hb1 := Drawn0.below hb1)) | ((with_reducible refine (complexes_field_add.calls a0 a1_1 a2_1 t108 _ A5.out).mono ?_); rintro e w1 ⟨rfl, hb1⟩; (try replace hb1 := Drawn0.below hb1))))
 have HO := (by with_reducible assumption : B.ExO (w.heap.size + 2) w W (w.heap.size + 2) 2 _)
 try go_wp2
 first | (have h := HO; obtain ⟨e0, e1⟩ := B.Own.read2 (n := 0) h.2; exact bodyPost_ret (v := .agg #[.int .u64 t107, .int .u64 t108]) (by simp [results, Tryz.results53, go_sem, e0, e1]) rfl ⟨rfl, h.1.2.2⟩) | (have h := B.ExO.put (B.ExO.put HO 0 (.int .u64 t107)) 1 (.int .u64 t108); obtain ⟨e0, e1⟩ := B.Own.read2 (n := 0) h.2; exact bodyPost_ret (v := .agg #[.int .u64 t107, .int .u64 t108]) (by simp [results, Tryz.results53, go_sem, e0, e1]) rfl ⟨rfl, h.1.2.2⟩)
def complexes_field_sub.f (a0 : Int) (a1 : Int) (a2 : Int) : Option (Int) := (complexes_field_operation.f a0 1 a1 a2).bind fun t109 => (some t109)
set_option maxHeartbeats 8000000 in
set_option maxRecDepth 100000 in
theorem complexes_field_sub.calls (a0 : Int) (a1 : Int) (a2 : Int) (r : Int) (w : World) (h : complexes_field_sub.f a0 a1 a2 = some r) :
  Calls Tryz.prog 98 #[.int .i64 a0, .int .u64 a1, .int .u64 a2] w fun e w' => e = .returned (.int .u64 r) ∧ Below w.heap.size w w' := by
 have HB := Aside0.mk (Below.refl w.heap.size w)
 have H : ((complexes_field_operation.f a0 1 a1 a2).bind fun t109 => (some t109)) = some r := h
 clear h
 replace H := Option.bind_eq_some_iff.mp H
 obtain ⟨t109, A4, H⟩ := H
 try dsimp only at H
 replace A4 := Aside0.mk A4
 obtain rfl := Option.some.inj H
 go_enter Tryz.func98, Tryz.ntmps98
 go_wp2_with (first | ((with_reducible refine gate_callee (f := 120) rfl ?_); refine gL 10 Tryz.func120 #[.int .i64 a0, .int .i64 1, .int .u64 a1, .int .u64 a2] ?_; (with_reducible refine (complexes_field_operation.calls a0 1 a1 a2 t109 _ A4.out).mono ?_); rintro e w5 ⟨rfl, hb⟩; refine ⟨_, rfl, ?_⟩; replace HB := bls HB hb; clear hb))
 go_ret
 exact ⟨by first | rfl | (simp [errW_none, errW_some] <;> rfl) | (simp [*, errW_none, errW_some] <;> rfl), (blt HB).out⟩
def complexes_field_minus.f (a0 : Int) (a1_0 : Int) (a1_1 : Int) (a2_0 : Int) (a2_1 : Int) : Option (Int × Int) := (complexes_field_sub.f a0 a1_0 a2_0).bind fun t113 => ((complexes_field_sub.f a0 a1_1 a2_1).bind fun t114 => (some (t113, t114)))
set_option maxHeartbeats 8000000 in
set_option maxRecDepth 100000 in
theorem complexes_field_minus.calls (a0 : Int) (a1_0 : Int) (a1_1 : Int) (a2_0 : Int) (a2_1 : Int) (r1 : Int) (r2 : Int) (w : World) (h : complexes_field_minus.f a0 a1_0 a1_1 a2_0 a2_1 = some (r1, r2)) :
  Calls Tryz.prog 54 #[.int .i64 a0, .agg #[.int .u64 a1_0, .int .u64 a1_1], .agg #[.int .u64 a2_0, .int .u64 a2_1]] w fun e w' => e = .returned (.agg #[.int .u64 r1, .int .u64 r2]) ∧ Below w.heap.size w w' := by
 have hu74 := Tryz.underlying74
 have HB := Aside0.mk (Below.refl w.heap.size w)
 have H : ((complexes_field_sub.f a0 a1_0 a2_0).bind fun t113 => ((complexes_field_sub.f a0 a1_1 a2_1).bind fun t114 => (some (t113, t114)))) = some (r1, r2) := h
 clear h
 replace H := Option.bind_eq_some_iff.mp H
 obtain ⟨t113, A4, H⟩ := H
 try dsimp only at H
 replace A4 := Aside0.mk A4
 replace H := Option.bind_eq_some_iff.mp H
 obtain ⟨t114, A5, H⟩ := H
 try dsimp only at H
 replace A5 := Aside0.mk A5
 simp only [Option.some.injEq, Prod.mk.injEq] at H
 obtain ⟨rfl, rfl⟩ := H
 go_enter Tryz.func54, Tryz.ntmps54
 go_upto_region 1 with (fail)
 refine B.hide2own w (fun W k0 k1 ho HW => ?_) (Below.refl _ _)
 have HO : B.ExO (w.heap.size + 2) w W (w.heap.size + 2) 2 W := ⟨HW, ho⟩
 go_upto_region 1 with ((go_at_call 98; first | ((with_reducible refine (complexes_field_sub.calls a0 a1_0 a2_0 t113 _ A4.out).mono ?_); rintro e w1 ⟨rfl, hb1⟩; (try replace hb1 := Drawn0.below hb1); have HO := (by first | (with_reducible exact B.ExO.call HO hb1) | (with_reducible exact B.ExO.callN HO hb1) | (with_reducible exact B.ExO.callD HO hb1) : B.ExO (w.heap.size + 2) w W (w.heap.size + 2) 2 w1)) | ((with_reducible refine (complexes_field_sub.calls a0 a1_1 a2_1 t114 _ A5.out).mono ?_); rintro e w1 ⟨rfl, hb1⟩; (try replace hb1 := Drawn0.below hb1); have HO := (by first | (with_reducible exact B.ExO.call HO hb1) | (with_reducible exact B.ExO.callN HO hb1) | (with_reducible exact B.ExO.callD HO hb1) : B.ExO (w.heap.size + 2) w W (w.heap.size + 2) 2 w1))))
 go_region_held3 (fun w' => B.ExO (w.heap.size + 2) w W (w.heap.size + 2) 2 w') (first | (with_reducible assumption) | (with_reducible exact B.ExO.call (by assumption) hb1) | ((with_reducible refine B.ExO.drew ?_); (with_reducible assumption)) | (with_reducible exact B.ExO.put (B.ExO.put (by assumption) _ _) _ _)) ((go_at_call 98; first | ((with_reducible refine (complexes_field_sub.calls a0 a1_0 a2_0 t113 _ A4.out).mono ?_); rintro e w1 ⟨rfl, hb1⟩; (try replace hb1 := Drawn0.below hb1)) | ((with_reducible refine (complexes_field_sub.calls a0 a1_1 a2_1 t114 _ A5.out).mono ?_); rintro e w1 ⟨rfl, hb1⟩; (try replace hb1 := Drawn0.below hb1))))
 have HO := (by with_reducible assumption : B.ExO (w.heap.size + 2) w W (w.heap.size + 2) 2 _)
 try go_wp2
 first | (have h := HO; obtain ⟨e0, e1⟩ := B.Own.read2 (n := 0) h.2; exact bodyPost_ret (v := .agg #[.int .u64 t113, .int .u64 t114]) (by simp [results, Tryz.results54, go_sem, e0, e1]) rfl ⟨rfl, h.1.2.2⟩) | (have h := B.ExO.put (B.ExO.put HO 0 (.int .u64 t113)) 1 (.int .u64 t114); obtain ⟨e0, e1⟩ := B.Own.read2 (n := 0) h.2; exact bodyPost_ret (v := .agg #[.int .u64 t113, .int .u64 t114]) (by simp [results, Tryz.results54, go_sem, e0, e1]) rfl ⟨rfl, h.1.2.2⟩)
def complexes_field_mul.f (a0 : Int) (a1 : Int) (a2 : Int) : Option (Int) := (complexes_field_operation.f a0 2 a1 a2).bind fun t115 => (some t115)
set_option maxHeartbeats 8000000 in
set_option maxRecDepth 100000 in
theorem complexes_field_mul.calls (a0 : Int) (a1 : Int) (a2 : Int) (r : Int) (w : World) (h : complexes_field_mul.f a0 a1 a2 = some r) :
  Calls Tryz.prog 99 #[.int .i64 a0, .int .u64 a1, .int .u64 a2] w fun e w' => e = .returned (.int .u64 r) ∧ Below w.heap.size w w' := by
 have HB := Aside0.mk (Below.refl w.heap.size w)
 have H : ((complexes_field_operation.f a0 2 a1 a2).bind fun t115 => (some t115)) = some r := h
 clear h
 replace H := Option.bind_eq_some_iff.mp H
 obtain ⟨t115, A4, H⟩ := H
 try dsimp only at H
 replace A4 := Aside0.mk A4
 obtain rfl := Option.some.inj H
 go_enter Tryz.func99, Tryz.ntmps99
 go_wp2_with (first | ((with_reducible refine gate_callee (f := 120) rfl ?_); refine gL 10 Tryz.func120 #[.int .i64 a0, .int .i64 2, .int .u64 a1, .int .u64 a2] ?_; (with_reducible refine (complexes_field_operation.calls a0 2 a1 a2 t115 _ A4.out).mono ?_); rintro e w5 ⟨rfl, hb⟩; refine ⟨_, rfl, ?_⟩; replace HB := bls HB hb; clear hb))
 go_ret
 exact ⟨by first | rfl | (simp [errW_none, errW_some] <;> rfl) | (simp [*, errW_none, errW_some] <;> rfl), (blt HB).out⟩
end Go.Proofs.YtmoimcblmmcffaaGreat.PPC

namespace Go.Proofs.YtmoimcblmmcffaaGreat.PPC
open Go.RowKit Go.Proofs.YtmoimcblmmcffaaGreatW.PrintWords Go.Proofs.YtmoimcblmmcffaaGreatW.PrintLast Go.Proofs.YtmoimcblmmcffaaGreatW.PrintMore Go.Proofs.YtmoimcblmmcffaaGreatW.PrintZ
attribute [local go_sem] max2_int min2_int max_two min_two max_three min_three max_four min_four   -- for this text's walks alone
set_option linter.unusedVariables false
set_option linter.unusedSimpArgs false
def complexes_field_times.f (a0 : Int) (a1_0 : Int) (a1_1 : Int) (a2_0 : Int) (a2_1 : Int) : Option (Int × Int) := (complexes_field_mul.f a0 a1_0 a2_0).bind fun t119 => ((complexes_field_mul.f a0 a1_1 a2_1).bind fun t120 => ((complexes_field_sub.f a0 t119 t120).bind fun t121 => ((complexes_field_mul.f a0 a1_0 a2_1).bind fun t122 => ((complexes_field_mul.f a0 a1_1 a2_0).bind fun t123 => ((complexes_field_add.f a0 t122 t123).bind fun t124 => (some (t121, t124)))))))
set_option maxHeartbeats 8000000 in
set_option maxRecDepth 100000 in
theorem complexes_field_times.calls (a0 : Int) (a1_0 : Int) (a1_1 : Int) (a2_0 : Int) (a2_1 : Int) (r1 : Int) (r2 : Int) (w : World) (h : complexes_field_times.f a0 a1_0 a1_1 a2_0 a2_1 = some (r1, r2)) :
  Calls Tryz.prog 55 #[.int .i64 a0, .agg #[.int .u64 a1_0, .int .u64 a1_1], .agg #[.int .u64 a2_0, .int .u64 a2_1]] w fun e w' => e = .returned (.agg #[.int .u64 r1, .int .u64 r2]) ∧ Below w.heap.size w w' := by
 have hu74 := Tryz.underlying74
 have HB := Aside0.mk (Below.refl w.heap.size w)
 have H : ((complexes_field_mul.f a0 a1_0 a2_0).bind fun t119 => ((complexes_field_mul.f a0 a1_1 a2_1).bind fun t120 => ((complexes_field_sub.f a0 t119 t120).bind fun t121 => ((complexes_field_mul.f a0 a1_0 a2_1).bind fun t122 => ((complexes_field_mul.f a0 a1_1 a2_0).bind fun t123 => ((complexes_field_add.f a0 t122 t123).bind fun t124 => (some (t121, t124)))))))) = some (r1, r2) := h
 clear h
 replace H := Option.bind_eq_some_iff.mp H
 obtain ⟨t119, A4, H⟩ := H
 try dsimp only at H
 replace A4 := Aside0.mk A4
 replace H := Option.bind_eq_some_iff.mp H
 obtain ⟨t120, A5, H⟩ := H
 try dsimp only at H
 replace A5 := Aside0.mk A5
 replace H := Option.bind_eq_some_iff.mp H
 obtain ⟨t121, A6, H⟩ := H
 try dsimp only at H
 replace A6 := Aside0.mk A6
 replace H := Option.bind_eq_some_iff.mp H
 obtain ⟨t122, A7, H⟩ := H
 try dsimp only at H
 replace A7 := Aside0.mk A7
 replace H := Option.bind_eq_some_iff.mp H
 obtain ⟨t123, A8, H⟩ := H
 try dsimp only at H
 replace A8 := Aside0.mk A8
 replace H := Option.bind_eq_some_iff.mp H
 obtain ⟨t124, A9, H⟩ := H
 try dsimp only at H
 replace A9 := Aside0.mk A9
 simp only [Option.some.injEq, Prod.mk.injEq] at H
 obtain ⟨rfl, rfl⟩ := H
 go_enter Tryz.func55, Tryz.ntmps55
 go_upto_region 1 with (fail)
 refine B.hide2own w (fun W k0 k1 ho HW => ?_) (Below.refl _ _)
 have HO : B.ExO (w.heap.size + 2) w W (w.heap.size + 2) 2 W := ⟨HW, ho⟩
 go_upto_region 1 with (first | (go_at_call 99; first | ((with_reducible refine (complexes_field_mul.calls a0 a1_0 a2_0 t119 _ A4.out).mono ?_); rintro e w1 ⟨rfl, hb1⟩; (try replace hb1 := Drawn0.below hb1); have HO := (by first | (with_reducible exact B.ExO.call HO hb1) | (with_reducible exact B.ExO.callN HO hb1) | (with_reducible exact B.ExO.callD HO hb1) : B.ExO (w.heap.size + 2) w W (w.heap.size + 2) 2 w1)) | ((with_reducible refine (complexes_field_mul.calls a0 a1_1 a2_1 t120 _ A5.out).mono ?_); rintro e w1 ⟨rfl, hb1⟩; (try replace hb1 := Drawn0.below hb1); have HO := (by first | (with_reducible exact B.ExO.call HO hb1) | (with_reducible exact B.ExO.callN HO hb1) | (with_reducible exact B.ExO.callD HO hb1) : B.ExO (w.heap.size + 2) w W (w.heap.size + 2) 2 w1)) | ((with_reducible refine (complexes_field_mul.calls a0 a1_0 a2_1 t122 _ A7.out).mono ?_); rintro e w1 ⟨rfl, hb1⟩; (try replace hb1 := Drawn0.below hb1); have HO := (by first | (with_reducible exact B.ExO.call HO hb1) | (with_reducible exact B.ExO.callN HO hb1) | (with_reducible exact B.ExO.callD HO hb1) : B.ExO (w.heap.size + 2) w W (w.heap.size + 2) 2 w1)) | ((with_reducible refine (complexes_field_mul.calls a0 a1_1 a2_0 t123 _ A8.out).mono ?_); rintro e w1 ⟨rfl, hb1⟩; (try replace hb1 := Drawn0.below hb1); have HO := (by first | (with_reducible exact B.ExO.call HO hb1) | (with_reducible exact B.ExO.callN HO hb1) | (with_reducible exact B.ExO.callD HO hb1) : B.ExO (w.heap.size + 2) w W (w.heap.size + 2) 2 w1))) | (go_at_call 98; ((with_reducible refine (complexes_field_sub.calls a0 t119 t120 t121 _ A6.out).mono ?_); rintro e w1 ⟨rfl, hb1⟩; (try replace hb1 := Drawn0.below hb1); have HO := (by first | (with_reducible exact B.ExO.call HO hb1) | (with_reducible exact B.ExO.callN HO hb1) | (with_reducible exact B.ExO.callD HO hb1) : B.ExO (w.heap.size + 2) w W (w.heap.size + 2) 2 w1))) | (go_at_call 97; ((with_reducible refine (complexes_field_add.calls a0 t122 t123 t124 _ A9.out).mono ?_); rintro e w1 ⟨rfl, hb1⟩; (try replace hb1 := Drawn0.below hb1); have HO := (by first | (with_reducible exact B.ExO.call HO hb1) | (with_reducible exact B.ExO.callN HO hb1) | (with_reducible exact B.ExO.callD HO hb1) : B.ExO (w.heap.size + 2) w W (w.heap.size + 2) 2 w1))))
 go_region_held3 (fun w' => B.ExO (w.heap.size + 2) w W (w.heap.size + 2) 2 w') (first | (with_reducible assumption) | (with_reducible exact B.ExO.call (by assumption) hb1) | ((with_reducible refine B.ExO.drew ?_); (with_reducible assumption)) | (with_reducible exact B.ExO.put (B.ExO.put (by assumption) _ _) _ _)) (first | (go_at_call 99; first | ((with_reducible refine (complexes_field_mul.calls a0 a1_0 a2_0 t119 _ A4.out).mono ?_); rintro e w1 ⟨rfl, hb1⟩; (try replace hb1 := Drawn0.below hb1)) | ((with_reducible refine (complexes_field_mul.calls a0 a1_1 a2_1 t120 _ A5.out).mono ?_); rintro e w1 ⟨rfl, hb1⟩; (try replace hb1 := Drawn0.below hb1)) | ((with_reducible refine (complexes_field_mul.calls a0 a1_0 a2_1 t122 _ A7.out).mono ?_); rintro e w1 ⟨rfl, hb1⟩; (try replace hb1 := Drawn0.below hb1)) | ((with_reducible refine (complexes_field_mul.calls a0 a1_1 a2_0 t123 _ A8.out).mono ?_); rintro e w1 ⟨rfl, hb1⟩; (try replace hb1 := Drawn0.below hb1))) | (go_at_call 98; ((with_reducible refine (complexes_field_sub.calls a0 t119 t120 t121 _ A6.out).mono ?_); rintro e w1 ⟨rfl, hb1⟩; (try replace hb1 := Drawn0.below hb1))) | (go_at_call 97; ((with_reducible refine (complexes_field_add.calls a0 t122 t123 t124 _ A9.out).mono ?_); rintro e w1 ⟨rfl, hb1⟩; (try replace hb1 := Drawn0.below hb1))))
 have HO := (by with_reducible assumption : B.ExO (w.heap.size + 2) w W (w.heap.size + 2) 2 _)
 try go_wp2
 first | (have h := HO; obtain ⟨e0, e1⟩ := B.Own.read2 (n := 0) h.2; exact bodyPost_ret (v := .agg #[.int .u64 t121, .int .u64 t124]) (by simp [results, Tryz.results55, go_sem, e0, e1]) rfl ⟨rfl, h.1.2.2⟩) | (have h := B.ExO.put (B.ExO.put HO 0 (.int .u64 t121)) 1 (.int .u64 t124); obtain ⟨e0, e1⟩ := B.Own.read2 (n := 0) h.2; exact bodyPost_ret (v := .agg #[.int .u64 t121, .int .u64 t124]) (by simp [results, Tryz.results55, go_sem, e0, e1]) rfl ⟨rfl, h.1.2.2⟩)
def complexes_field_order.f (a0 : Int) (a1 : Int) (a2 : Int) : Option (Int) := (reals_Compare.f a0 a1 a2).bind fun bt125 => (some bt125.1)
set_option maxHeartbeats 8000000 in
set_option maxRecDepth 100000 in
theorem complexes_field_order.calls (a0 : Int) (a1 : Int) (a2 : Int) (r : Int) (w : World) (h : complexes_field_order.f a0 a1 a2 = some r) :
  Calls Tryz.prog 92 #[.int .i64 a0, .int .u64 a1, .int .u64 a2] w fun e w' => e = .returned (.int .i64 r) ∧ Below w.heap.size w w' := by
 have HB := Aside0.mk (Below.refl w.heap.size w)
 have H : ((reals_Compare.f a0 a1 a2).bind fun bt125 => (some bt125.1)) = some r := h
 clear h
 replace H := Option.bind_eq_some_iff.mp H
 obtain ⟨⟨t125, t126⟩, A4, H⟩ := H
 try dsimp only at H
 replace A4 := Aside0.mk A4
 obtain rfl := Option.some.inj H
 go_enter Tryz.func92, Tryz.ntmps92
 go_wp2_with (first | ((with_reducible refine gate_callee (f := 127) rfl ?_); refine gL 13 Tryz.func127 #[.int .i64 a0, .int .u64 a1, .int .u64 a2] ?_; (with_reducible refine (reals_Compare.calls a0 a1 a2 t125 t126 _ A4.out).mono ?_); rintro e w5 ⟨rfl, hb⟩; refine ⟨_, rfl, ?_⟩; replace HB := bls HB hb; clear hb))
 go_ret
 exact ⟨by first | rfl | (simp [errW_none, errW_some] <;> rfl) | (simp [*, errW_none, errW_some] <;> rfl), (blt HB).out⟩
def complexes_field_size.f (a0 : Int) (a1 : Int) : Option (Int) := (reals_SizeOf.f a0 a1).bind fun bt127 => (some bt127.1)
set_option maxHeartbeats 8000000 in
set_option maxRecDepth 100000 in
theorem complexes_field_size.calls (a0 : Int) (a1 : Int) (r : Int) (w : World) (h : complexes_field_size.f a0 a1 = some r) :
  Calls Tryz.prog 100 #[.int .i64 a0, .int .u64 a1] w fun e w' => e = .returned (.int .u64 r) ∧ Below w.heap.size w w' := by
 have HB := Aside0.mk (Below.refl w.heap.size w)
 have H : ((reals_SizeOf.f a0 a1).bind fun bt127 => (some bt127.1)) = some r := h
 clear h
 replace H := Option.bind_eq_some_iff.mp H
 obtain ⟨⟨t127, t128⟩, A3, H⟩ := H
 try dsimp only at H
 replace A3 := Aside0.mk A3
 obtain rfl := Option.some.inj H
 go_enter Tryz.func100, Tryz.ntmps100
 go_wp2_with (first | ((with_reducible refine gate_callee (f := 136) rfl ?_); refine gL 10 Tryz.func136 #[.int .i64 a0, .int .u64 a1] ?_; (with_reducible refine (reals_SizeOf.calls a0 a1 t127 t128 _ A3.out).mono ?_); rintro e w4 ⟨rfl, hb⟩; refine ⟨_, rfl, ?_⟩; replace HB := bls HB hb; clear hb))
 go_ret
 exact ⟨by first | rfl | (simp [errW_none, errW_some] <;> rfl) | (simp [*, errW_none, errW_some] <;> rfl), (blt HB).out⟩
def complexes_field_div.f (a0 : Int) (a1 : Int) (a2 : Int) : Option (Int) := (complexes_field_operation.f a0 3 a1 a2).bind fun t129 => (some t129)
set_option maxHeartbeats 8000000 in
set_option maxRecDepth 100000 in
theorem complexes_field_div.calls (a0 : Int) (a1 : Int) (a2 : Int) (r : Int) (w : World) (h : complexes_field_div.f a0 a1 a2 = some r) :
  Calls Tryz.prog 101 #[.int .i64 a0, .int .u64 a1, .int .u64 a2] w fun e w' => e = .returned (.int .u64 r) ∧ Below w.heap.size w w' := by
 have HB := Aside0.mk (Below.refl w.heap.size w)
 have H : ((complexes_field_operation.f a0 3 a1 a2).bind fun t129 => (some t129)) = some r := h
 clear h
 replace H := Option.bind_eq_some_iff.mp H
 obtain ⟨t129, A4, H⟩ := H
 try dsimp only at H
 replace A4 := Aside0.mk A4
 obtain rfl := Option.some.inj H
 go_enter Tryz.func101, Tryz.ntmps101
 go_wp2_with (first | ((with_reducible refine gate_callee (f := 120) rfl ?_); refine gL 10 Tryz.func120 #[.int .i64 a0, .int .i64 3, .int .u64 a1, .int .u64 a2] ?_; (with_reducible refine (complexes_field_operation.calls a0 3 a1 a2 t129 _ A4.out).mono ?_); rintro e w5 ⟨rfl, hb⟩; refine ⟨_, rfl, ?_⟩; replace HB := bls HB hb; clear hb))
 go_ret
 exact ⟨by first | rfl | (simp [errW_none, errW_some] <;> rfl) | (simp [*, errW_none, errW_some] <;> rfl), (blt HB).out⟩
def complexes_field_over.f (a0 : Int) (a1_0 : Int) (a1_1 : Int) (a2_0 : Int) (a2_1 : Int) : Option (Int × Int) := (complexes_field_size.f a0 a2_0).bind fun t133 => ((complexes_field_size.f a0 a2_1).bind fun t134 => ((complexes_field_order.f a0 t133 t134).bind fun t135 => (if t135 ≥ 0 then ((complexes_field_div.f a0 a2_1 a2_0).bind fun t136 => ((complexes_field_mul.f a0 t136 a2_1).bind fun t137 => ((complexes_field_add.f a0 a2_0 t137).bind fun t138 => ((complexes_field_mul.f a0 a1_1 t136).bind fun t139 => ((complexes_field_add.f a0 a1_0 t139).bind fun t140 => ((complexes_field_div.f a0 t140 t138).bind fun t141 => ((complexes_field_mul.f a0 a1_0 t136).bind fun t142 => ((complexes_field_sub.f a0 a1_1 t142).bind fun t143 => ((complexes_field_div.f a0 t143 t138).bind fun t144 => (some (t141, t144))))))))))) else ((complexes_field_div.f a0 a2_0 a2_1).bind fun t145 => ((complexes_field_mul.f a0 t145 a2_0).bind fun t146 => ((complexes_field_add.f a0 a2_1 t146).bind fun t147 => ((complexes_field_mul.f a0 a1_0 t145).bind fun t148 => ((complexes_field_add.f a0 t148 a1_1).bind fun t149 => ((complexes_field_div.f a0 t149 t147).bind fun t150 => ((complexes_field_mul.f a0 a1_1 t145).bind fun t151 => ((complexes_field_sub.f a0 t151 a1_0).bind fun t152 => ((complexes_field_div.f a0 t152 t147).bind fun t153 => (some (t150, t153))))))))))))))
set_option maxHeartbeats 8000000 in
set_option maxRecDepth 100000 in
theorem complexes_field_over.calls (a0 : Int) (a1_0 : Int) (a1_1 : Int) (a2_0 : Int) (a2_1 : Int) (r1 : Int) (r2 : Int) (w : World) (h : complexes_field_over.f a0 a1_0 a1_1 a2_0 a2_1 = some (r1, r2)) :
  Calls Tryz.prog 56 #[.int .i64 a0, .agg #[.int .u64 a1_0, .int .u64 a1_1], .agg #[.int .u64 a2_0, .int .u64 a2_1]] w fun e w' => e = .returned (.agg #[.int .u64 r1, .int .u64 r2]) ∧ Below w.heap.size w w' := by
 have hu74 := Tryz.underlying74
 have HB := Aside0.mk (Below.refl w.heap.size w)
 have H : ((complexes_field_size.f a0 a2_0).bind fun t133 => ((complexes_field_size.f a0 a2_1).bind fun t134 => ((complexes_field_order.f a0 t133 t134).bind fun t135 => (if t135 ≥ 0 then ((complexes_field_div.f a0 a2_1 a2_0).bind fun t136 => ((complexes_field_mul.f a0 t136 a2_1).bind fun t137 => ((complexes_field_add.f a0 a2_0 t137).bind fun t138 => ((complexes_field_mul.f a0 a1_1 t136).bind fun t139 => ((complexes_field_add.f a0 a1_0 t139).bind fun t140 => ((complexes_field_div.f a0 t140 t138).bind fun t141 => ((complexes_field_mul.f a0 a1_0 t136).bind fun t142 => ((complexes_field_sub.f a0 a1_1 t142).bind fun t143 => ((complexes_field_div.f a0 t143 t138).bind fun t144 => (some (t141, t144))))))))))) else ((complexes_field_div.f a0 a2_0 a2_1).bind fun t145 => ((complexes_field_mul.f a0 t145 a2_0).bind fun t146 => ((complexes_field_add.f a0 a2_1 t146).bind fun t147 => ((complexes_field_mul.f a0 a1_0 t145).bind fun t148 => ((complexes_field_add.f a0 t148 a1_1).bind fun t149 => ((complexes_field_div.f a0 t149 t147).bind fun t150 => ((complexes_field_mul.f a0 a1_1 t145).bind fun t151 => ((complexes_field_sub.f a0 t151 a1_0).bind fun t152 => ((complexes_field_div.f a0 t152 t147).bind fun t153 => (some (t150, t153))))))))))))))) = some (r1, r2) := h
 clear h
 replace H := Option.bind_eq_some_iff.mp H
 obtain ⟨t133, A4, H⟩ := H
 try dsimp only at H
 replace A4 := Aside0.mk A4
 replace H := Option.bind_eq_some_iff.mp H
 obtain ⟨t134, A5, H⟩ := H
 try dsimp only at H
 replace A5 := Aside0.mk A5
 replace H := Option.bind_eq_some_iff.mp H
 obtain ⟨t135, A6, H⟩ := H
 try dsimp only at H
 replace A6 := Aside0.mk A6
 by_cases c7 : t135 ≥ 0
 ·rw [if_pos c7] at H
  have c7b0 : decide (0 ≤ t135) = true := decide_eq_true c7
  clear c7
  replace H := Option.bind_eq_some_iff.mp H
  obtain ⟨t136, A8, H⟩ := H
  try dsimp only at H
  replace A8 := Aside0.mk A8
  replace H := Option.bind_eq_some_iff.mp H
  obtain ⟨t137, A9, H⟩ := H
  try dsimp only at H
  replace A9 := Aside0.mk A9
  replace H := Option.bind_eq_some_iff.mp H
  obtain ⟨t138, A10, H⟩ := H
  try dsimp only at H
  replace A10 := Aside0.mk A10
  replace H := Option.bind_eq_some_iff.mp H
  obtain ⟨t139, A11, H⟩ := H
  try dsimp only at H
  replace A11 := Aside0.mk A11
  replace H := Option.bind_eq_some_iff.mp H
  obtain ⟨t140, A12, H⟩ := H
  try dsimp only at H
  replace A12 := Aside0.mk A12
  replace H := Option.bind_eq_some_iff.mp H
  obtain ⟨t141, A13, H⟩ := H
  try dsimp only at H
  replace A13 := Aside0.mk A13
  replace H := Option.bind_eq_some_iff.mp H
  obtain ⟨t142, A14, H⟩ := H
  try dsimp only at H
  replace A14 := Aside0.mk A14
  replace H := Option.bind_eq_some_iff.mp H
  obtain ⟨t143, A15, H⟩ := H
  try dsimp only at H
  replace A15 := Aside0.mk A15
  replace H := Option.bind_eq_some_iff.mp H
  obtain ⟨t144, A16, H⟩ := H
  try dsimp only at H
  replace A16 := Aside0.mk A16
  simp only [Option.some.injEq, Prod.mk.injEq] at H
  obtain ⟨rfl, rfl⟩ := H
  go_enter Tryz.func56, Tryz.ntmps56
  go_upto_region 1 with (fail)
  refine B.hide2own w (fun W k0 k1 ho HW => ?_) (Below.refl _ _)
  have HO : B.ExO (w.heap.size + 2) w W (w.heap.size + 2) 2 W := ⟨HW, ho⟩
  repeat (go_quiet (fail))
  go_wp2_with (first | (go_at_call 100; first | ((with_reducible refine (complexes_field_size.calls a0 a2_0 t133 _ A4.out).mono ?_); rintro e w1 ⟨rfl, hb1⟩; have HO := (by first | (with_reducible exact B.ExO.call HO hb1) | (with_reducible exact B.ExO.callN HO hb1) | (with_reducible exact B.ExO.callD HO hb1) : B.ExO (w.heap.size + 2) w W (w.heap.size + 2) 2 w1)) | ((with_reducible refine (complexes_field_size.calls a0 a2_1 t134 _ A5.out).mono ?_); rintro e w1 ⟨rfl, hb1⟩; have HO := (by first | (with_reducible exact B.ExO.call HO hb1) | (with_reducible exact B.ExO.callN HO hb1) | (with_reducible exact B.ExO.callD HO hb1) : B.ExO (w.heap.size + 2) w W (w.heap.size + 2) 2 w1))) | (go_at_call 92; ((with_reducible refine (complexes_field_order.calls a0 t133 t134 t135 _ A6.out).mono ?_); rintro e w1 ⟨rfl, hb1⟩; have HO := (by first | (with_reducible exact B.ExO.call HO hb1) | (with_reducible exact B.ExO.callN HO hb1) | (with_reducible exact B.ExO.callD HO hb1) : B.ExO (w.heap.size + 2) w W (w.heap.size + 2) 2 w1))) | (go_at_call 101; first | ((with_reducible refine (complexes_field_div.calls a0 a2_1 a2_0 t136 _ A8.out).mono ?_); rintro e w1 ⟨rfl, hb1⟩; have HO := (by first | (with_reducible exact B.ExO.call HO hb1) | (with_reducible exact B.ExO.callN HO hb1) | (with_reducible exact B.ExO.callD HO hb1) : B.ExO (w.heap.size + 2) w W (w.heap.size + 2) 2 w1)) | ((with_reducible refine (complexes_field_div.calls a0 t140 t138 t141 _ A13.out).mono ?_); rintro e w1 ⟨rfl, hb1⟩; have HO := (by first | (with_reducible exact B.ExO.call HO hb1) | (with_reducible exact B.ExO.callN HO hb1) | (with_reducible exact B.ExO.callD HO hb1) : B.ExO (w.heap.size + 2) w W (w.heap.size + 2) 2 w1)) | ((with_reducible refine (complexes_field_div.calls a0 t143 t138 t144 _ A16.out).mono ?_); rintro e w1 ⟨rfl, hb1⟩; have HO := (by first | (with_reducible exact B.ExO.call HO hb1) | (with_reducible exact B.ExO.callN HO hb1) | (with_reducible exact B.ExO.callD HO hb1) : B.ExO (w.heap.size + 2) w W (w.heap.size + 2) 2 w1))) | (go_at_call 99; first | ((with_reducible refine (complexes_field_mul.calls a0 t136 a2_1 t137 _ A9.out).mono ?_); rintro e w1 ⟨rfl, hb1⟩; have HO := (by first | (with_reducible exact B.ExO.call HO hb1) | (with_reducible exact B.ExO.callN HO hb1) | (with_reducible exact B.ExO.callD HO hb1) : B.ExO (w.heap.size + 2) w W (w.heap.size + 2) 2 w1)) | ((with_reducible refine (complexes_field_mul.calls a0 a1_1 t136 t139 _ A11.out).mono ?_); rintro e w1 ⟨rfl, hb1⟩; have HO := (by first | (with_reducible exact B.ExO.call HO hb1) | (with_reducible exact B.ExO.callN HO hb1) | (with_reducible exact B.ExO.callD HO hb1) : B.ExO (w.heap.size + 2) w W (w.heap.size + 2) 2 w1)) | ((with_reducible refine (complexes_field_mul.calls a0 a1_0 t136 t142 _ A14.out).mono ?_); rintro e w1 ⟨rfl, hb1⟩; have HO := (by first | (with_reducible exact B.ExO.call HO hb1) | (with_reducible exact B.ExO.callN HO hb1) | (with_reducible exact B.ExO.callD HO hb1) : B.ExO (w.heap.size + 2) w W (w.heap.size + 2) 2 w1))) | (go_at_call 97; first | ((with_reducible refine (complexes_field_add.calls a0 a2_0 t137 t138 _ A10.out).mono ?_); rintro e w1 ⟨rfl, hb1⟩; have HO := (by first | (with_reducible exact B.ExO.call HO hb1) | (with_reducible exact B.ExO.callN HO hb1) | (with_reducible exact B.ExO.callD HO hb1) : B.ExO (w.heap.size + 2) w W (w.heap.size + 2) 2 w1)) | ((with_reducible refine (complexes_field_add.calls a0 a1_0 t139 t140 _ A12.out).mono ?_); rintro e w1 ⟨rfl, hb1⟩; have HO := (by first | (with_reducible exact B.ExO.call HO hb1) | (with_reducible exact B.ExO.callN HO hb1) | (with_reducible exact B.ExO.callD HO hb1) : B.ExO (w.heap.size + 2) w W (w.heap.size + 2) 2 w1))) | (go_at_call 98; ((with_reducible refine (complexes_field_sub.calls a0 a1_1 t142 t143 _ A15.out).mono ?_); rintro e w1 ⟨rfl, hb1⟩; have HO := (by first | (with_reducible exact B.ExO.call HO hb1) | (with_reducible exact B.ExO.callN HO hb1) | (with_reducible exact B.ExO.callD HO hb1) : B.ExO (w.heap.size + 2) w W (w.heap.size + 2) 2 w1))))
  have h := B.ExO.put (B.ExO.put HO 0 (.int .u64 t141)) 1 (.int .u64 t144)
  obtain ⟨e0, e1⟩ := B.Own.read2 (n := 0) h.2
  exact bodyPost_ret (v := .agg #[.int .u64 t141, .int .u64 t144]) (by simp [results, Tryz.results56, go_sem, e0, e1]) rfl ⟨rfl, h.end⟩
 ·rw [if_neg c7] at H
  have c7b0 : decide (0 ≤ t135) = false := decide_eq_false c7
  clear c7
  replace H := Option.bind_eq_some_iff.mp H
  obtain ⟨t145, A38, H⟩ := H
  try dsimp only at H
  replace A38 := Aside0.mk A38
  replace H := Option.bind_eq_some_iff.mp H
  obtain ⟨t146, A39, H⟩ := H
  try dsimp only at H
  replace A39 := Aside0.mk A39
  replace H := Option.bind_eq_some_iff.mp H
  obtain ⟨t147, A40, H⟩ := H
  try dsimp only at H
  replace A40 := Aside0.mk A40
  replace H := Option.bind_eq_some_iff.mp H
  obtain ⟨t148, A41, H⟩ := H
  try dsimp only at H
  replace A41 := Aside0.mk A41
  replace H := Option.bind_eq_some_iff.mp H
  obtain ⟨t149, A42, H⟩ := H
  try dsimp only at H
  replace A42 := Aside0.mk A42
  replace H := Option.bind_eq_some_iff.mp H
  obtain ⟨t150, A43, H⟩ := H
  try dsimp only at H
  replace A43 := Aside0.mk A43
  replace H := Option.bind_eq_some_iff.mp H
  obtain ⟨t151, A44, H⟩ := H
  try dsimp only at H
  replace A44 := Aside0.mk A44
  replace H := Option.bind_eq_some_iff.mp H
  obtain ⟨t152, A45, H⟩ := H
  try dsimp only at H
  replace A45 := Aside0.mk A45
  replace H := Option.bind_eq_some_iff.mp H
  obtain ⟨t153, A46, H⟩ := H
  try dsimp only at H
  replace A46 := Aside0.mk A46
  simp only [Option.some.injEq, Prod.mk.injEq] at H
  obtain ⟨rfl, rfl⟩ := H
  go_enter Tryz.func56, Tryz.ntmps56
  go_upto_region 1 with (fail)
  refine B.hide2own w (fun W k0 k1 ho HW => ?_) (Below.refl _ _)
  have HO : B.ExO (w.heap.size + 2) w W (w.heap.size + 2) 2 W := ⟨HW, ho⟩
  repeat (go_quiet (fail))
  go_wp2_with (first | (go_at_call 100; first | ((with_reducible refine (complexes_field_size.calls a0 a2_0 t133 _ A4.out).mono ?_); rintro e w1 ⟨rfl, hb1⟩; have HO := (by first | (with_reducible exact B.ExO.call HO hb1) | (with_reducible exact B.ExO.callN HO hb1) | (with_reducible exact B.ExO.callD HO hb1) : B.ExO (w.heap.size + 2) w W (w.heap.size + 2) 2 w1)) | ((with_reducible refine (complexes_field_size.calls a0 a2_1 t134 _ A5.out).mono ?_); rintro e w1 ⟨rfl, hb1⟩; have HO := (by first | (with_reducible exact B.ExO.call HO hb1) | (with_reducible exact B.ExO.callN HO hb1) | (with_reducible exact B.ExO.callD HO hb1) : B.ExO (w.heap.size + 2) w W (w.heap.size + 2) 2 w1))) | (go_at_call 92; ((with_reducible refine (complexes_field_order.calls a0 t133 t134 t135 _ A6.out).mono ?_); rintro e w1 ⟨rfl, hb1⟩; have HO := (by first | (with_reducible exact B.ExO.call HO hb1) | (with_reducible exact B.ExO.callN HO hb1) | (with_reducible exact B.ExO.callD HO hb1) : B.ExO (w.heap.size + 2) w W (w.heap.size + 2) 2 w1))) | (go_at_call 101; first | ((with_reducible refine (complexes_field_div.calls a0 a2_0 a2_1 t145 _ A38.out).mono ?_); rintro e w1 ⟨rfl, hb1⟩; have HO := (by first | (with_reducible exact B.ExO.call HO hb1) | (with_reducible exact B.ExO.callN HO hb1) | (with_reducible exact B.ExO.callD HO hb1) : B.ExO (w.heap.size + 2) w W (w.heap.size + 2) 2 w1)) | ((with_reducible refine (complexes_field_div.calls a0 t149 t147 t150 _ A43.out).mono ?_); rintro e w1 ⟨rfl, hb1⟩; have HO := (by first | (with_reducible exact B.ExO.call HO hb1) | (with_reducible exact B.ExO.callN HO hb1) | (with_reducible exact B.ExO.callD HO hb1) : B.ExO (w.heap.size + 2) w W (w.heap.size + 2) 2 w1)) | ((with_reducible refine (complexes_field_div.calls a0 t152 t147 t153 _ A46.out).mono ?_); rintro e w1 ⟨rfl, hb1⟩; have HO := (by first | (with_reducible exact B.ExO.call HO hb1) | (with_reducible exact B.ExO.callN HO hb1) | (with_reducible exact B.ExO.callD HO hb1) : B.ExO (w.heap.size + 2) w W (w.heap.size + 2) 2 w1))) | (go_at_call 99; first | ((with_reducible refine (complexes_field_mul.calls a0 t145 a2_0 t146 _ A39.out).mono ?_); rintro e w1 ⟨rfl, hb1⟩; have HO := (by first | (with_reducible exact B.ExO.call HO hb1) | (with_reducible exact B.ExO.callN HO hb1) | (with_reducible exact B.ExO.callD HO hb1) : B.ExO (w.heap.size + 2) w W (w.heap.size + 2) 2 w1)) | ((with_reducible refine (complexes_field_mul.calls a0 a1_0 t145 t148 _ A41.out).mono ?_); rintro e w1 ⟨rfl, hb1⟩; have HO := (by first | (with_reducible exact B.ExO.call HO hb1) | (with_reducible exact B.ExO.callN HO hb1) | (with_reducible exact B.ExO.callD HO hb1) : B.ExO (w.heap.size + 2) w W (w.heap.size + 2) 2 w1)) | ((with_reducible refine (complexes_field_mul.calls a0 a1_1 t145 t151 _ A44.out).mono ?_); rintro e w1 ⟨rfl, hb1⟩; have HO := (by first | (with_reducible exact B.ExO.call HO hb1) | (with_reducible exact B.ExO.callN HO hb1) | (with_reducible exact B.ExO.callD HO hb1) : B.ExO (w.heap.size + 2) w W (w.heap.size + 2) 2 w1))) | (go_at_call 97; first | ((with_reducible refine (complexes_field_add.calls a0 a2_1 t146 t147 _ A40.out).mono ?_); rintro e w1 ⟨rfl, hb1⟩; have HO := (by first | (with_reducible exact B.ExO.call HO hb1) | (with_reducible exact B.ExO.callN HO hb1) | (with_reducible exact B.ExO.callD HO hb1) : B.ExO (w.heap.size + 2) w W (w.heap.size + 2) 2 w1)) | ((with_reducible refine (complexes_field_add.calls a0 t148 a1_1 t149 _ A42.out).mono ?_); rintro e w1 ⟨rfl, hb1⟩; have HO := (by first | (with_reducible exact B.ExO.call HO hb1) | (with_reducible exact B.ExO.callN HO hb1) | (with_reducible exact B.ExO.callD HO hb1) : B.ExO (w.heap.size + 2) w W (w.heap.size + 2) 2 w1))) | (go_at_call 98; ((with_reducible refine (complexes_field_sub.calls a0 t151 a1_0 t152 _ A45.out).mono ?_); rintro e w1 ⟨rfl, hb1⟩; have HO := (by first | (with_reducible exact B.ExO.call HO hb1) | (with_reducible exact B.ExO.callN HO hb1) | (with_reducible exact B.ExO.callD HO hb1) : B.ExO (w.heap.size + 2) w W (w.heap.size + 2) 2 w1))))
  have h := B.ExO.put (B.ExO.put HO 0 (.int .u64 t150)) 1 (.int .u64 t153)
  obtain ⟨e0, e1⟩ := B.Own.read2 (n := 0) h.2
  exact bodyPost_ret (v := .agg #[.int .u64 t150, .int .u64 t153]) (by simp [results, Tryz.results56, go_sem, e0, e1]) rfl ⟨rfl, h.end⟩
def complexes_field_one.f (a0 : Int) : Option (Int) := (reals_FromInteger.f a0 1).bind fun bt154 => (some bt154.1)
set_option maxHeartbeats 8000000 in
set_option maxRecDepth 100000 in
theorem complexes_field_one.calls (a0 : Int) (r : Int) (w : World) (h : complexes_field_one.f a0 = some r) :
  Calls Tryz.prog 111 #[.int .i64 a0] w fun e w' => e = .returned (.int .u64 r) ∧ Below w.heap.size w w' := by
 have HB := Aside0.mk (Below.refl w.heap.size w)
 have H : ((reals_FromInteger.f a0 1).bind fun bt154 => (some bt154.1)) = some r := h
 clear h
 replace H := Option.bind_eq_some_iff.mp H
 obtain ⟨⟨t154, t155⟩, A2, H⟩ := H
 try dsimp only at H
 replace A2 := Aside0.mk A2
 obtain rfl := Option.some.inj H
 go_enter Tryz.func111, Tryz.ntmps111
 go_wp2_with (first | ((with_reducible refine gate_callee (f := 93) rfl ?_); refine gL 7 Tryz.func93 #[.int .i64 a0, .int .i64 1] ?_; (with_reducible refine (reals_FromInteger.calls a0 1 t154 t155 _ A2.out).mono ?_); rintro e w3 ⟨rfl, hb⟩; refine ⟨_, rfl, ?_⟩; replace HB := bls HB hb; clear hb))
 go_ret
 exact ⟨by first | rfl | (simp [errW_none, errW_some] <;> rfl) | (simp [*, errW_none, errW_some] <;> rfl), (blt HB).out⟩
def complexes_field_kind.f (a0 : Int) (a1 : Int) : Option (Int) := (reals_PartsOf.f a0 a1).bind fun bt156 => (some bt156.1)
set_option maxHeartbeats 8000000 in
set_option maxRecDepth 100000 in
theorem complexes_field_kind.calls (a0 : Int) (a1 : Int) (r : Int) (w : World) (h : complexes_field_kind.f a0 a1 = some r) :
  Calls Tryz.prog 119 #[.int .i64 a0, .int .u64 a1] w fun e w' => e = .returned (.int .i64 r) ∧ Below w.heap.size w w' := by
 have hu41 := Tryz.underlying41
 have HB := Aside0.mk (Below.refl w.heap.size w)
 have H : ((reals_PartsOf.f a0 a1).bind fun bt156 => (some bt156.1)) = some r := h
 clear h
 replace H := Option.bind_eq_some_iff.mp H
 obtain ⟨⟨t156, t157, t158, t159, t160⟩, A3, H⟩ := H
 try dsimp only at H
 replace A3 := Aside0.mk A3
 obtain rfl := Option.some.inj H
 go_enter Tryz.func119, Tryz.ntmps119
 go_wp2_with (first | ((with_reducible refine gate_callee (f := 138) rfl ?_); refine gL 10 Tryz.func138 #[.int .i64 a0, .int .u64 a1] ?_; (with_reducible refine (reals_PartsOf.calls a0 a1 t156 t157 t158 t159 t160 _ A3.out).mono ?_); rintro e w4 ⟨rfl, hb⟩; refine ⟨_, rfl, ?_⟩; replace HB := bls HB hb; clear hb) | ((with_reducible refine gate_dst (N := 5) rfl ?_); refine bxe 5 (cs := #[.int .i64 0, .bool false, .int .i64 0, .int .i64 0]) (t := 41) ?_; intro gb161 hg w5 hbox hb; have BK161 := Aside0.mk hbox; have GW161 := bsz HB hg; have GE161 := bsz HB hg; replace HB := bls HB hb; clear hb hbox hg; have hcz6_0 : w5.cell? ⟨gb161, 0, none⟩ = some (.int .i64 0) := (blk_cell BK161.out 0).trans rfl; have hcz6_1 : w5.cell? ⟨gb161, 1, none⟩ = some (.bool false) := (blk_cell BK161.out 1).trans rfl; have hcz6_2 : w5.cell? ⟨gb161, 2, none⟩ = some (.int .i64 0) := (blk_cell BK161.out 2).trans rfl; have hcz6_3 : w5.cell? ⟨gb161, 3, none⟩ = some (.int .i64 0) := (blk_cell BK161.out 3).trans rfl; have hfz6_0 := blk_frozen BK161.out 0; have hfz6_1 := blk_frozen BK161.out 1; have hfz6_2 := blk_frozen BK161.out 2; have hfz6_3 := blk_frozen BK161.out 3))
 go_ret
 exact ⟨by first | rfl | (simp [errW_none, errW_some] <;> rfl) | (simp [*, errW_none, errW_some] <;> rfl), (blt HB).out⟩
def complexes_field_root.f (a0 : Int) (a1 : Int) : Option (Int) := (reals_SqrtOf.f a0 a1).bind fun bt162 => (some bt162.1)
set_option maxHeartbeats 8000000 in
set_option maxRecDepth 100000 in
theorem complexes_field_root.calls (a0 : Int) (a1 : Int) (r : Int) (w : World) (h : complexes_field_root.f a0 a1 = some r) :
  Calls Tryz.prog 121 #[.int .i64 a0, .int .u64 a1] w fun e w' => e = .returned (.int .u64 r) ∧ Below w.heap.size w w' := by
 have HB := Aside0.mk (Below.refl w.heap.size w)
 have H : ((reals_SqrtOf.f a0 a1).bind fun bt162 => (some bt162.1)) = some r := h
 clear h
 replace H := Option.bind_eq_some_iff.mp H
 obtain ⟨⟨t162, t163⟩, A3, H⟩ := H
 try dsimp only at H
 replace A3 := Aside0.mk A3
 obtain rfl := Option.some.inj H
 go_enter Tryz.func121, Tryz.ntmps121
 go_wp2_with (first | ((with_reducible refine gate_callee (f := 140) rfl ?_); refine gL 10 Tryz.func140 #[.int .i64 a0, .int .u64 a1] ?_; (with_reducible refine (reals_SqrtOf.calls a0 a1 t162 t163 _ A3.out).mono ?_); rintro e w4 ⟨rfl, hb⟩; refine ⟨_, rfl, ?_⟩; replace HB := bls HB hb; clear hb))
 go_ret
 exact ⟨by first | rfl | (simp [errW_none, errW_some] <;> rfl) | (simp [*, errW_none, errW_some] <;> rfl), (blt HB).out⟩
end Go.Proofs.YtmoimcblmmcffaaGreat.PPC

namespace Go.Proofs.YtmoimcblmmcffaaGreat.PPC
open Go.RowKit Go.Proofs.YtmoimcblmmcffaaGreatW.PrintWords Go.Proofs.YtmoimcblmmcffaaGreatW.PrintLast Go.Proofs.YtmoimcblmmcffaaGreatW.PrintMore Go.Proofs.YtmoimcblmmcffaaGreatW.PrintZ
attribute [local go_sem] max2_int min2_int max_two min_two max_three min_three max_four min_four   -- for this text's walks alone
set_option linter.unusedVariables false
set_option linter.unusedSimpArgs false


mutual
def complexes_field_distance.j0 : Nat → Int → Int → Int → Bool → Option (Int)
 | 0, _, _, _, _ => none
 | k + 1, x0, x5, x6, x7 => (complexes_field_operation.f x0 6 x5 x6).bind fun t169 => ((complexes_field_operation.f x0 5 x5 x6).bind fun t170 => (if x7 = true then (complexes_field_distance.j1 k x0 x5 x6 t169 t170 x7) else ((complexes_field_kind.f x0 t169).bind fun t171 => (if t171 = 0 then ((complexes_field_kind.f x0 x5).bind fun t172 => ((complexes_field_kind.f x0 x6).bind fun t173 => (complexes_field_distance.j1 k x0 x5 x6 t169 t170 (t172 == t173)))) else (complexes_field_distance.j1 k x0 x5 x6 t169 t170 false)))))
def complexes_field_distance.j1 : Nat → Int → Int → Int → Int → Int → Bool → Option (Int)
 | 0, _, _, _, _, _, _ => none
 | k + 1, x0, x5, x6, x8, x9, x37 => if x37 = true then (some x8) else ((complexes_field_kind.f x0 x5).bind fun t174 => (if t174 = 3 then (some x5) else ((complexes_field_kind.f x0 x6).bind fun t175 => (if t175 = 3 then (some x6) else ((complexes_field_div.f x0 x9 x8).bind fun t176 => ((complexes_field_one.f x0).bind fun t177 => ((complexes_field_mul.f x0 t176 t176).bind fun t178 => ((complexes_field_add.f x0 t177 t178).bind fun t179 => ((complexes_field_root.f x0 t179).bind fun t180 => ((complexes_field_mul.f x0 x8 t180).bind fun t181 => (some t181)))))))))))
end
def complexes_field_distance.f (k : Nat) (a0 : Int) (a1_0 : Int) (a1_1 : Int) : Option (Int) := (complexes_field_size.f a0 a1_0).bind fun t165 => ((complexes_field_size.f a0 a1_1).bind fun t166 => ((complexes_field_kind.f a0 t165).bind fun t167 => (if t167 = 2 then (complexes_field_distance.j0 k a0 t165 t166 true) else ((complexes_field_kind.f a0 t166).bind fun t168 => (complexes_field_distance.j0 k a0 t165 t166 (t168 == 2))))))
def complexes_field_distance.T1 : Bool × List (List Nat × List Nat) := (true, [([], []), ([], []), ([1], [1]), ([0, 2], [0, 2]), ([], []), ([], []), ([5], [5]), ([4, 6, 3], [4, 6]), ([3, 7, 0, 1, 2, 3], [3]), ([7, 8, 0, 1, 2, 3, 4, 5, 6, 7, 8], [7])])
def complexes_field_distance.B1 : List Nat := [0, 0, 2, 7, 0, 0, 32, 127, 255, 511]
theorem complexes_field_distance.tab1 : rtab .any (opsOf Tryz.f79 1) = complexes_field_distance.T1 := by kernel_rfl
theorem complexes_field_distance.bits1 : waitsOk complexes_field_distance.T1.2 complexes_field_distance.B1 = true := by kernel_rfl
set_option maxHeartbeats 8000000 in
set_option maxRecDepth 100000 in
theorem complexes_field_distance.calls (k : Nat) (a0 : Int) (a1_0 : Int) (a1_1 : Int) (r : Int) (w : World) (h : complexes_field_distance.f k a0 a1_0 a1_1 = some r) :
  Calls Tryz.prog 79 #[.int .i64 a0, .agg #[.int .u64 a1_0, .int .u64 a1_1]] w fun e w' => e = .returned (.int .u64 r) ∧ Below w.heap.size w w' := by
 have hu74 := Tryz.underlying74
 have HB := Aside0.mk (Below.refl w.heap.size w)
 have H : ((complexes_field_size.f a0 a1_0).bind fun t165 => ((complexes_field_size.f a0 a1_1).bind fun t166 => ((complexes_field_kind.f a0 t165).bind fun t167 => (if t167 = 2 then (complexes_field_distance.j0 k a0 t165 t166 true) else ((complexes_field_kind.f a0 t166).bind fun t168 => (complexes_field_distance.j0 k a0 t165 t166 (t168 == 2))))))) = some r := h
 clear h
 replace H := Option.bind_eq_some_iff.mp H
 obtain ⟨t165, A3, H⟩ := H
 try dsimp only at H
 replace A3 := Aside0.mk A3
 replace H := Option.bind_eq_some_iff.mp H
 obtain ⟨t166, A4, H⟩ := H
 try dsimp only at H
 replace A4 := Aside0.mk A4
 have HC5 := Aside0.mk H
 clear H
 go_enter Tryz.func79, Tryz.ntmps79
 try go_wp2_with (first | ((with_reducible refine gate_dst (N := 3) rfl ?_); refine bxe 3 (cs := #[.int .u64 a1_0, .int .u64 a1_1]) (t := 74) ?_; intro gb164 hg w6 hbox hb; have BK164 := Aside0.mk hbox; have GW164 := bsz HB hg; have GE164 := bsz HB hg; replace HB := bls HB hb; clear hb hbox hg))
 replace BK164 := Aside0.mk (blk_drew BK164.out)
 replace HB := Aside0.mk (below_drew1 HB.out)
 refine start_ (n := 10) (S := fun w' => w'.cell? ⟨gb164, 0, none⟩ = some (.int .u64 a1_0) ∧ w'.cell? ⟨gb164, 1, none⟩ = some (.int .u64 a1_1)) (ds := []) #[false, false, false, false, false, false, false, false, false, false] (by kernel_rfl) rfl rfl ⟨(blk_cell BK164.out 0).trans rfl, (blk_cell BK164.out 1).trans rfl⟩ (fun hHeld => ?_); refine with_tabW complexes_field_distance.tab1 complexes_field_distance.bits1 (fun HT_ HW_ => ?_)
 generalize w6.drew = w7 at BK164 HB hHeld ⊢
 refine pu 0 11 HT_ ?_
 refine pu 1 12 HT_ ?_
 refine pu 4 15 HT_ ?_
 refine pu 5 16 HT_ ?_
 refine tk 2 13 HT_ HW_ hHeld ?_
 refine tk 6 17 HT_ HW_ hHeld ?_
 refine one_ (i := 3) (N := some 14) #[true, true, true, true, true, true, true, false, false, false] rfl rfl (one_of HT_.out (by kernel_rfl)) (by decide) (fun K hK => ?_)
 refine goes_ Tryz.func100 (by kernel_rfl) rfl #[.int .i64 a0, .int .u64 a1_0] (by rfl) rfl rfl (by (try simp only [List.map_toArray, List.map_cons, List.map_nil]); first | done | rfl | (simp only [List.length_drop, List.length_take]; rfl)) ?_
 with_reducible refine (complexes_field_size.calls a0 a1_0 t165 _ A3.out).mono ?_
 rintro e w8 ⟨rfl, hb⟩
 refine ⟨_, rfl, ?_⟩
 replace BK164 := bkb BK164 hb
 replace HB := bls HB hb
 (try clear hb)
 (try clear hb2)
 (try clear hk)
 (try clear hi)
 refine hK.out _ _ ⟨(blk_cell BK164.out 0).trans rfl, (blk_cell BK164.out 1).trans rfl⟩ (fun hHeld => ?_)
 clear hK K
 refine norm_ (a' := ?_) ?_ ?_
 rotate_left
 ·show Act.put _ (some 14) _ = _
  simp only [Act.put, List.setIfInBounds_toArray, List.set_cons_zero, List.set_cons_succ, i64_w, i32_w]
  rfl
 refine one_ (i := 7) (N := some 18) #[true, true, true, true, true, true, true, true, false, false] rfl rfl (one_of HT_.out (by kernel_rfl)) (by decide) (fun K hK => ?_)
 refine goes_ Tryz.func100 (by kernel_rfl) rfl #[.int .i64 a0, .int .u64 a1_1] (by rfl) rfl rfl (by (try simp only [List.map_toArray, List.map_cons, List.map_nil]); first | done | rfl | (simp only [List.length_drop, List.length_take]; rfl)) ?_
 with_reducible refine (complexes_field_size.calls a0 a1_1 t166 _ A4.out).mono ?_
 rintro e w9 ⟨rfl, hb⟩
 refine ⟨_, rfl, ?_⟩
 replace BK164 := bkb BK164 hb
 replace HB := bls HB hb
 (try clear hb)
 (try clear hb2)
 (try clear hk)
 (try clear hi)
 refine hK.out _ _ ⟨(blk_cell BK164.out 0).trans rfl, (blk_cell BK164.out 1).trans rfl⟩ (fun hHeld => ?_)
 clear hK K
 refine norm_ (a' := ?_) ?_ ?_
 rotate_left
 ·show Act.put _ (some 18) _ = _
  simp only [Act.put, List.setIfInBounds_toArray, List.set_cons_zero, List.set_cons_succ, i64_w, i32_w]
  rfl
 refine pu 8 5 HT_ ?_
 refine pu 9 6 HT_ ?_
 refine done_ (done_of HT_.out (by kernel_rfl)) ?_
 go_upto_region 2 with (fail)
 go_cut [7] (fun v7 wc => ∃ (kq : Nat) (x7_4 : Bool), v7 = .bool x7_4 ∧ Aside0 (complexes_field_distance.j0 kq a0 t165 t166 x7_4 = some r) ∧ Aside0 (kq ≤ k) ∧ Aside0 (wc.heap[gb164]? = some (.cells #[.int .u64 a1_0, .int .u64 a1_1] 74 (0, 0))) ∧ Aside0 (Below w.heap.size w wc))
 case first =>
  have H := HC5.out
  clear HC5
  replace H := Option.bind_eq_some_iff.mp H
  obtain ⟨t167, A10, H⟩ := H
  try dsimp only at H
  replace A10 := Aside0.mk A10
  by_cases c11 : t167 = 2
  ·rw [if_pos c11] at H
   have c11b0 : (t167 == 2) = true := beq_iff_eq.mpr c11
   have c11b1 : (t167 != 2) = false := bne_eq_false_iff_eq.mpr c11
   clear c11
   (first | rw [c11b0] | (simp only [i64_w, i32_w]; rw [c11b0]) | skip)
   have H' := Aside0.mk H
   clear H
   go_wp2_with (first | ((with_reducible refine gate_callee (f := 119) rfl ?_); refine gL 21 Tryz.func119 #[.int .i64 a0, .int .u64 t165] ?_; (with_reducible refine (complexes_field_kind.calls a0 t165 t167 _ A10.out).mono ?_); rintro e w12 ⟨rfl, hb⟩; refine ⟨_, rfl, ?_⟩; replace BK164 := bkb BK164 hb; replace HB := bls HB hb; clear hb))
   go_meet
   case rel => exact ⟨_, (true), (by first | rfl | (simp; done) | (simp [*]; done)), H', ⟨by first | omega | exact Nat.le_refl _⟩, bks BK164, blt HB⟩
  ·rw [if_neg c11] at H
   have c11b0 : (t167 == 2) = false := beq_eq_false_iff_ne.mpr c11
   have c11b1 : (t167 != 2) = true := bne_iff_ne.mpr c11
   (first | rw [c11b0] | (simp only [i64_w, i32_w]; rw [c11b0]) | skip)
   replace H := Option.bind_eq_some_iff.mp H
   obtain ⟨t168, A13, H⟩ := H
   try dsimp only at H
   replace A13 := Aside0.mk A13
   have H' := Aside0.mk H
   clear H
   go_wp2_with (first | ((with_reducible refine gate_callee (f := 119) rfl ?_); refine gL 21 Tryz.func119 #[.int .i64 a0, .int .u64 t165] ?_; (with_reducible refine (complexes_field_kind.calls a0 t165 t167 _ A10.out).mono ?_); rintro e w14 ⟨rfl, hb⟩; refine ⟨_, rfl, ?_⟩; replace BK164 := bkb BK164 hb; replace HB := bls HB hb; clear hb) | (go_at_call 119; (with_reducible refine (complexes_field_kind.calls a0 t166 t168 _ A13.out).mono ?_); rintro e w15 ⟨rfl, hb⟩; replace BK164 := bkb BK164 hb; replace HB := bls HB hb; clear hb))
   go_meet
   case rel => exact ⟨_, ((t168 == 2)), (by first | rfl | (simp; done) | (simp [*]; done)), H', ⟨by first | omega | exact Nat.le_refl _⟩, bks BK164, blt HB⟩
 case rest =>
  clear HC5
  try clear c1
  try clear p2
  try clear c7
  try clear c10
  try clear c11
  try clear c11b0
  try clear c11b1
  obtain ⟨kq, x7_4, rfl, HA, HJ4, BK164, HB⟩ := hcut
  cases kq with
  | zero => exact absurd HA.out (by simp [complexes_field_distance.j0])
  | succ kj4 =>
   have H := HA.out
   clear HA
   simp only [complexes_field_distance.j0] at H
   replace H := Option.bind_eq_some_iff.mp H
   obtain ⟨t169, A16, H⟩ := H
   try dsimp only at H
   replace A16 := Aside0.mk A16
   replace H := Option.bind_eq_some_iff.mp H
   obtain ⟨t170, A17, H⟩ := H
   try dsimp only at H
   replace A17 := Aside0.mk A17
   have HC18 := Aside0.mk H
   clear H
   go_upto_if 37 with (first | ((with_reducible refine gate_callee (f := 120) rfl ?_); refine gL 32 Tryz.func120 #[.int .i64 a0, .int .i64 6, .int .u64 t165, .int .u64 t166] ?_; (with_reducible refine (complexes_field_operation.calls a0 6 t165 t166 t169 _ A16.out).mono ?_); rintro e w19 ⟨rfl, hb⟩; refine ⟨_, rfl, ?_⟩; replace BK164 := bkb BK164 hb; replace HB := bls HB hb; clear hb) | ((with_reducible refine gate_callee (f := 120) rfl ?_); refine gL 36 Tryz.func120 #[.int .i64 a0, .int .i64 5, .int .u64 t165, .int .u64 t166] ?_; (with_reducible refine (complexes_field_operation.calls a0 5 t165 t166 t170 _ A17.out).mono ?_); rintro e w20 ⟨rfl, hb⟩; refine ⟨_, rfl, ?_⟩; replace BK164 := bkb BK164 hb; replace HB := bls HB hb; clear hb))
   (try simp only [Act.put, List.setIfInBounds_toArray, List.set_cons_zero, List.set_cons_succ])
   go_cut [37] (fun v37 wc => ∃ (kq : Nat) (x37_17 : Bool), v37 = .bool x37_17 ∧ Aside0 (complexes_field_distance.j1 kq a0 t165 t166 t169 t170 x37_17 = some r) ∧ Aside0 (kq ≤ kj4) ∧ Aside0 (wc.heap[gb164]? = some (.cells #[.int .u64 a1_0, .int .u64 a1_1] 74 (0, 0))) ∧ Aside0 (Below w.heap.size w wc))
   case first =>
    have H := HC18.out
    clear HC18
    by_cases c21 : x7_4 = true
    ·subst c21
     have H1 : (complexes_field_distance.j1 kj4 a0 t165 t166 t169 t170 true) = some r := by rw [if_pos rfl] at H; exact H
     clear H
     have H := H1
     clear H1
     have H' := Aside0.mk H
     clear H
     go_wp2
     go_meet
     case rel => exact ⟨_, (true), (by first | rfl | (simp; done) | (simp [*]; done)), H', ⟨by have := HJ4.out; first | omega | exact Nat.le_refl _⟩, bks BK164, blt HB⟩
    ·replace c21 := Bool.eq_false_iff.mpr c21
     subst c21
     have H1 : ((complexes_field_kind.f a0 t169).bind fun t171 => (if t171 = 0 then ((complexes_field_kind.f a0 t165).bind fun t172 => ((complexes_field_kind.f a0 t166).bind fun t173 => (complexes_field_distance.j1 kj4 a0 t165 t166 t169 t170 (t172 == t173)))) else (complexes_field_distance.j1 kj4 a0 t165 t166 t169 t170 false))) = some r := by rw [if_neg (show ¬ (false = true) by decide)] at H; exact H
     clear H
     have H := H1
     clear H1
     replace H := Option.bind_eq_some_iff.mp H
     obtain ⟨t171, A22, H⟩ := H
     try dsimp only at H
     replace A22 := Aside0.mk A22
     by_cases c23 : t171 = 0
     ·rw [if_pos c23] at H
      have c23b0 : (t171 == 0) = true := beq_iff_eq.mpr c23
      have c23b1 : (t171 != 0) = false := bne_eq_false_iff_eq.mpr c23
      clear c23
      (first | rw [c23b0] | (simp only [i64_w, i32_w]; rw [c23b0]) | skip)
      replace H := Option.bind_eq_some_iff.mp H
      obtain ⟨t172, A24, H⟩ := H
      try dsimp only at H
      replace A24 := Aside0.mk A24
      replace H := Option.bind_eq_some_iff.mp H
      obtain ⟨t173, A25, H⟩ := H
      try dsimp only at H
      replace A25 := Aside0.mk A25
      have H' := Aside0.mk H
      clear H
      go_wp2_with (first | ((with_reducible refine gate_callee (f := 119) rfl ?_); refine gL 41 Tryz.func119 #[.int .i64 a0, .int .u64 t169] ?_; (with_reducible refine (complexes_field_kind.calls a0 t169 t171 _ A22.out).mono ?_); rintro e w26 ⟨rfl, hb⟩; refine ⟨_, rfl, ?_⟩; replace BK164 := bkb BK164 hb; replace HB := bls HB hb; clear hb) | (go_at_call 119; (with_reducible refine (complexes_field_kind.calls a0 t165 t172 _ A24.out).mono ?_); rintro e w27 ⟨rfl, hb⟩; replace BK164 := bkb BK164 hb; replace HB := bls HB hb; clear hb) | (go_at_call 119; (with_reducible refine (complexes_field_kind.calls a0 t166 t173 _ A25.out).mono ?_); rintro e w28 ⟨rfl, hb⟩; replace BK164 := bkb BK164 hb; replace HB := bls HB hb; clear hb))
      go_meet
      case rel => exact ⟨_, ((t172 == t173)), (by first | rfl | (simp; done) | (simp [*]; done)), H', ⟨by have := HJ4.out; first | omega | exact Nat.le_refl _⟩, bks BK164, blt HB⟩
     ·rw [if_neg c23] at H
      have c23b0 : (t171 == 0) = false := beq_eq_false_iff_ne.mpr c23
      have c23b1 : (t171 != 0) = true := bne_iff_ne.mpr c23
      (first | rw [c23b0] | (simp only [i64_w, i32_w]; rw [c23b0]) | skip)
      have H' := Aside0.mk H
      clear H
      go_wp2_with (first | ((with_reducible refine gate_callee (f := 119) rfl ?_); refine gL 41 Tryz.func119 #[.int .i64 a0, .int .u64 t169] ?_; (with_reducible refine (complexes_field_kind.calls a0 t169 t171 _ A22.out).mono ?_); rintro e w29 ⟨rfl, hb⟩; refine ⟨_, rfl, ?_⟩; replace BK164 := bkb BK164 hb; replace HB := bls HB hb; clear hb))
      go_meet
      case rel => exact ⟨_, (false), (by first | rfl | (simp; done) | (simp [*]; done)), H', ⟨by have := HJ4.out; first | omega | exact Nat.le_refl _⟩, bks BK164, blt HB⟩
   case rest =>
    clear HC18
    try clear c1
    try clear c2
    try clear p2
    try clear c7
    try clear c10
    try clear c11
    try clear c11b0
    try clear c11b1
    try clear c12
    try clear c21
    try clear c23
    try clear c23b0
    try clear c23b1
    try clear p2
    obtain ⟨kq, x37_17, rfl, HA, HJ17, BK164, HB⟩ := hcut
    cases kq with
    | zero => exact absurd HA.out (by simp [complexes_field_distance.j1])
    | succ kj17 =>
     have H := HA.out
     clear HA
     simp only [complexes_field_distance.j1] at H
     by_cases c30 : x37_17 = true
     ·subst c30
      have H1 : (some t169) = some r := by rw [if_pos rfl] at H; exact H
      clear H
      have H := H1
      clear H1
      obtain rfl := Option.some.inj H
      go_wp2
      go_ret
      exact ⟨by first | rfl | (simp [errW_none, errW_some] <;> rfl) | (simp [*, errW_none, errW_some] <;> rfl), (blt HB).out⟩
     ·replace c30 := Bool.eq_false_iff.mpr c30
      subst c30
      have H1 : ((complexes_field_kind.f a0 t165).bind fun t174 => (if t174 = 3 then (some t165) else ((complexes_field_kind.f a0 t166).bind fun t175 => (if t175 = 3 then (some t166) else ((complexes_field_div.f a0 t170 t169).bind fun t176 => ((complexes_field_one.f a0).bind fun t177 => ((complexes_field_mul.f a0 t176 t176).bind fun t178 => ((complexes_field_add.f a0 t177 t178).bind fun t179 => ((complexes_field_root.f a0 t179).bind fun t180 => ((complexes_field_mul.f a0 t169 t180).bind fun t181 => (some t181))))))))))) = some r := by rw [if_neg (show ¬ (false = true) by decide)] at H; exact H
      clear H
      have H := H1
      clear H1
      replace H := Option.bind_eq_some_iff.mp H
      obtain ⟨t174, A31, H⟩ := H
      try dsimp only at H
      replace A31 := Aside0.mk A31
      by_cases c32 : t174 = 3
      ·rw [if_pos c32] at H
       have c32b0 : (t174 == 3) = true := beq_iff_eq.mpr c32
       have c32b1 : (t174 != 3) = false := bne_eq_false_iff_eq.mpr c32
       clear c32
       obtain rfl := Option.some.inj H
       go_wp2_with (first | ((with_reducible refine gate_callee (f := 119) rfl ?_); refine gL 56 Tryz.func119 #[.int .i64 a0, .int .u64 t165] ?_; (with_reducible refine (complexes_field_kind.calls a0 t165 t174 _ A31.out).mono ?_); rintro e w33 ⟨rfl, hb⟩; refine ⟨_, rfl, ?_⟩; replace BK164 := bkb BK164 hb; replace HB := bls HB hb; clear hb))
       go_ret
       exact ⟨by first | rfl | (simp [errW_none, errW_some] <;> rfl) | (simp [*, errW_none, errW_some] <;> rfl), (blt HB).out⟩
      ·rw [if_neg c32] at H
       have c32b0 : (t174 == 3) = false := beq_eq_false_iff_ne.mpr c32
       have c32b1 : (t174 != 3) = true := bne_iff_ne.mpr c32
       replace H := Option.bind_eq_some_iff.mp H
       obtain ⟨t175, A34, H⟩ := H
       try dsimp only at H
       replace A34 := Aside0.mk A34
       by_cases c35 : t175 = 3
       ·rw [if_pos c35] at H
        have c35b0 : (t175 == 3) = true := beq_iff_eq.mpr c35
        have c35b1 : (t175 != 3) = false := bne_eq_false_iff_eq.mpr c35
        clear c35
        obtain rfl := Option.some.inj H
        go_wp2_with (first | ((with_reducible refine gate_callee (f := 119) rfl ?_); refine gL 56 Tryz.func119 #[.int .i64 a0, .int .u64 t165] ?_; (with_reducible refine (complexes_field_kind.calls a0 t165 t174 _ A31.out).mono ?_); rintro e w36 ⟨rfl, hb⟩; refine ⟨_, rfl, ?_⟩; replace BK164 := bkb BK164 hb; replace HB := bls HB hb; clear hb) | ((with_reducible refine gate_callee (f := 119) rfl ?_); refine gL 62 Tryz.func119 #[.int .i64 a0, .int .u64 t166] ?_; (with_reducible refine (complexes_field_kind.calls a0 t166 t175 _ A34.out).mono ?_); rintro e w37 ⟨rfl, hb⟩; refine ⟨_, rfl, ?_⟩; replace BK164 := bkb BK164 hb; replace HB := bls HB hb; clear hb))
        go_ret
        exact ⟨by first | rfl | (simp [errW_none, errW_some] <;> rfl) | (simp [*, errW_none, errW_some] <;> rfl), (blt HB).out⟩
       ·rw [if_neg c35] at H
        have c35b0 : (t175 == 3) = false := beq_eq_false_iff_ne.mpr c35
        have c35b1 : (t175 != 3) = true := bne_iff_ne.mpr c35
        replace H := Option.bind_eq_some_iff.mp H
        obtain ⟨t176, A38, H⟩ := H
        try dsimp only at H
        replace A38 := Aside0.mk A38
        replace H := Option.bind_eq_some_iff.mp H
        obtain ⟨t177, A39, H⟩ := H
        try dsimp only at H
        replace A39 := Aside0.mk A39
        replace H := Option.bind_eq_some_iff.mp H
        obtain ⟨t178, A40, H⟩ := H
        try dsimp only at H
        replace A40 := Aside0.mk A40
        replace H := Option.bind_eq_some_iff.mp H
        obtain ⟨t179, A41, H⟩ := H
        try dsimp only at H
        replace A41 := Aside0.mk A41
        replace H := Option.bind_eq_some_iff.mp H
        obtain ⟨t180, A42, H⟩ := H
        try dsimp only at H
        replace A42 := Aside0.mk A42
        replace H := Option.bind_eq_some_iff.mp H
        obtain ⟨t181, A43, H⟩ := H
        try dsimp only at H
        replace A43 := Aside0.mk A43
        obtain rfl := Option.some.inj H
        go_wp2_with (first | ((with_reducible refine gate_callee (f := 119) rfl ?_); refine gL 56 Tryz.func119 #[.int .i64 a0, .int .u64 t165] ?_; (with_reducible refine (complexes_field_kind.calls a0 t165 t174 _ A31.out).mono ?_); rintro e w44 ⟨rfl, hb⟩; refine ⟨_, rfl, ?_⟩; replace BK164 := bkb BK164 hb; replace HB := bls HB hb; clear hb) | ((with_reducible refine gate_callee (f := 119) rfl ?_); refine gL 62 Tryz.func119 #[.int .i64 a0, .int .u64 t166] ?_; (with_reducible refine (complexes_field_kind.calls a0 t166 t175 _ A34.out).mono ?_); rintro e w45 ⟨rfl, hb⟩; refine ⟨_, rfl, ?_⟩; replace BK164 := bkb BK164 hb; replace HB := bls HB hb; clear hb) | ((with_reducible refine gate_callee (f := 101) rfl ?_); refine gL 68 Tryz.func101 #[.int .i64 a0, .int .u64 t170, .int .u64 t169] ?_; (with_reducible refine (complexes_field_div.calls a0 t170 t169 t176 _ A38.out).mono ?_); rintro e w46 ⟨rfl, hb⟩; refine ⟨_, rfl, ?_⟩; replace BK164 := bkb BK164 hb; replace HB := bls HB hb; clear hb) | ((with_reducible refine gate_callee (f := 111) rfl ?_); refine gL 74 Tryz.func111 #[.int .i64 a0] ?_; (with_reducible refine (complexes_field_one.calls a0 t177 _ A39.out).mono ?_); rintro e w47 ⟨rfl, hb⟩; refine ⟨_, rfl, ?_⟩; replace BK164 := bkb BK164 hb; replace HB := bls HB hb; clear hb) | ((with_reducible refine gate_callee (f := 99) rfl ?_); refine gL 78 Tryz.func99 #[.int .i64 a0, .int .u64 t176, .int .u64 t176] ?_; (with_reducible refine (complexes_field_mul.calls a0 t176 t176 t178 _ A40.out).mono ?_); rintro e w48 ⟨rfl, hb⟩; refine ⟨_, rfl, ?_⟩; replace BK164 := bkb BK164 hb; replace HB := bls HB hb; clear hb) | ((with_reducible refine gate_callee (f := 97) rfl ?_); refine gL 79 Tryz.func97 #[.int .i64 a0, .int .u64 t177, .int .u64 t178] ?_; (with_reducible refine (complexes_field_add.calls a0 t177 t178 t179 _ A41.out).mono ?_); rintro e w49 ⟨rfl, hb⟩; refine ⟨_, rfl, ?_⟩; replace BK164 := bkb BK164 hb; replace HB := bls HB hb; clear hb) | ((with_reducible refine gate_callee (f := 121) rfl ?_); refine gL 80 Tryz.func121 #[.int .i64 a0, .int .u64 t179] ?_; (with_reducible refine (complexes_field_root.calls a0 t179 t180 _ A42.out).mono ?_); rintro e w50 ⟨rfl, hb⟩; refine ⟨_, rfl, ?_⟩; replace BK164 := bkb BK164 hb; replace HB := bls HB hb; clear hb) | ((with_reducible refine gate_callee (f := 99) rfl ?_); refine gL 81 Tryz.func99 #[.int .i64 a0, .int .u64 t169, .int .u64 t180] ?_; (with_reducible refine (complexes_field_mul.calls a0 t169 t180 t181 _ A43.out).mono ?_); rintro e w51 ⟨rfl, hb⟩; refine ⟨_, rfl, ?_⟩; replace BK164 := bkb BK164 hb; replace HB := bls HB hb; clear hb))
        go_ret
        exact ⟨by first | rfl | (simp [errW_none, errW_some] <;> rfl) | (simp [*, errW_none, errW_some] <;> rfl), (blt HB).out⟩
def complexes_field_half.f (a0 : Int) : Option (Int) := (complexes_field_one.f a0).bind fun t182 => ((reals_ScaledBy.f a0 t182 (-1)).bind fun bt183 => (some bt183.1))
set_option maxHeartbeats 8000000 in
set_option maxRecDepth 100000 in
theorem complexes_field_half.calls (a0 : Int) (r : Int) (w : World) (h : complexes_field_half.f a0 = some r) :
  Calls Tryz.prog 123 #[.int .i64 a0] w fun e w' => e = .returned (.int .u64 r) ∧ Below w.heap.size w w' := by
 have HB := Aside0.mk (Below.refl w.heap.size w)
 have H : ((complexes_field_one.f a0).bind fun t182 => ((reals_ScaledBy.f a0 t182 (-1)).bind fun bt183 => (some bt183.1))) = some r := h
 clear h
 replace H := Option.bind_eq_some_iff.mp H
 obtain ⟨t182, A2, H⟩ := H
 try dsimp only at H
 replace A2 := Aside0.mk A2
 replace H := Option.bind_eq_some_iff.mp H
 obtain ⟨⟨t183, t184⟩, A3, H⟩ := H
 try dsimp only at H
 replace A3 := Aside0.mk A3
 obtain rfl := Option.some.inj H
 go_enter Tryz.func123, Tryz.ntmps123
 go_wp2_with (first | ((with_reducible refine gate_callee (f := 111) rfl ?_); refine gL 8 Tryz.func111 #[.int .i64 a0] ?_; (with_reducible refine (complexes_field_one.calls a0 t182 _ A2.out).mono ?_); rintro e w4 ⟨rfl, hb⟩; refine ⟨_, rfl, ?_⟩; replace HB := bls HB hb; clear hb) | ((with_reducible refine gate_callee (f := 145) rfl ?_); refine gL 9 Tryz.func145 #[.int .i64 a0, .int .u64 t182, .int .i64 (-1)] ?_; (with_reducible refine (reals_ScaledBy.calls a0 t182 (-1) t183 t184 _ A3.out).mono ?_); rintro e w5 ⟨rfl, hb⟩; refine ⟨_, rfl, ?_⟩; replace HB := bls HB hb; clear hb))
 go_ret
 exact ⟨by first | rfl | (simp [errW_none, errW_some] <;> rfl) | (simp [*, errW_none, errW_some] <;> rfl), (blt HB).out⟩
end Go.Proofs.YtmoimcblmmcffaaGreat.PPC
