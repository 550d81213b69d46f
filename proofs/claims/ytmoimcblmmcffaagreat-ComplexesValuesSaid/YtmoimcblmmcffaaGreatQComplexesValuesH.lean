/- Contracts and plain laws that the law ComplexesValues leans on (texts joined by program; what it does not come to is left out). -/
import Derived.Test.YtmoimcblmmcffaaGreatQComplexesValuesA
import Derived.Test.YtmoimcblmmcffaaGreatQComplexesValuesF
import Derived.Test.YtmoimcblmmcffaaGreatQComplexesValuesG

namespace Go.Proofs.YtmoimcblmmcffaaGreat.PPC
open Go.RowKit Go.Proofs.YtmoimcblmmcffaaGreatW.PrintWords Go.Proofs.YtmoimcblmmcffaaGreatW.PrintLast Go.Proofs.YtmoimcblmmcffaaGreatW.PrintMore Go.Proofs.YtmoimcblmmcffaaGreatW.PrintZ
attribute [local go_sem] max2_int min2_int max_two min_two max_three min_three max_four min_four   -- for this text's walks alone
set_option linter.unusedVariables false
set_option linter.unusedSimpArgs false
def fd_negated.f (a0 : Int) (a1 : Int) : Option (Int) := (rl_Negated.f a0 a1).bind fun bt204 => (some bt204.1)
set_option maxHeartbeats 8000000 in
set_option maxRecDepth 100000 in
theorem fd_negated.calls (a0 : Int) (a1 : Int) (r : Int) (w : World) (h : fd_negated.f a0 a1 = some r) :
  Calls Tryz.prog 81 #[.int .i64 a0, .int .u64 a1] w fun e w' => e = .returned (.int .u64 r) ∧ Below w.heap.size w w' := by
 have HB := Aside0.mk (Below.refl w.heap.size w)
 have H : ((rl_Negated.f a0 a1).bind fun bt204 => (some bt204.1)) = some r := h
 clear h
 replace H := Option.bind_eq_some_iff.mp H
 obtain ⟨⟨t204, t205⟩, A3, H⟩ := H
 try dsimp only at H
 replace A3 := Aside0.mk A3
 obtain rfl := Option.some.inj H
 go_enter Tryz.func81, Tryz.ntmps81
 go_wp2_with (first | ((with_reducible refine gate_callee (f := 122) rfl ?_); refine gL 10 Tryz.func122 #[.int .i64 a0, .int .u64 a1] ?_; (with_reducible refine (rl_Negated.calls a0 a1 t204 t205 _ A3.out).mono ?_); rintro e w4 ⟨rfl, hb⟩; refine ⟨_, rfl, ?_⟩; replace HB := bls HB hb; clear hb))
 go_ret
 exact ⟨by first | rfl | (simp [errW_none, errW_some] <;> rfl) | (simp [*, errW_none, errW_some] <;> rfl), (blt HB).out⟩
def fd_conjugate.f (a0 : Int) (a1_0 : Int) (a1_1 : Int) : Option (Int × Int) := (fd_negated.f a0 a1_1).bind fun t208 => (some (a1_0, t208))
def fd_conjugate.T1 : Bool × List (List Nat × List Nat) := (true, [([], []), ([0], [0]), ([], []), ([], []), ([3], [3]), ([2, 4], [2, 4]), ([1, 5], [1, 5]), ([6, 5, 0, 1, 2, 3, 4, 5, 6], [6])])
def fd_conjugate.B1 : List Nat := [0, 1, 0, 0, 8, 28, 63, 127]
theorem fd_conjugate.tab1 : rtab .any (opsOf Tryz.f78 1) = fd_conjugate.T1 := by kernel_rfl
theorem fd_conjugate.bits1 : waitsOk fd_conjugate.T1.2 fd_conjugate.B1 = true := by kernel_rfl
set_option maxHeartbeats 8000000 in
set_option maxRecDepth 100000 in
theorem fd_conjugate.calls (a0 : Int) (a1_0 : Int) (a1_1 : Int) (r1 : Int) (r2 : Int) (w : World) (h : fd_conjugate.f a0 a1_0 a1_1 = some (r1, r2)) :
  Calls Tryz.prog 78 #[.int .i64 a0, .agg #[.int .u64 a1_0, .int .u64 a1_1]] w fun e w' => e = .returned (.agg #[.int .u64 r1, .int .u64 r2]) ∧ Below w.heap.size w w' := by
 have hu74 := Tryz.underlying74
 have HB := Aside0.mk (Below.refl w.heap.size w)
 have H : ((fd_negated.f a0 a1_1).bind fun t208 => (some (a1_0, t208))) = some (r1, r2) := h
 clear h
 replace H := Option.bind_eq_some_iff.mp H
 obtain ⟨t208, A3, H⟩ := H
 try dsimp only at H
 replace A3 := Aside0.mk A3
 simp only [Option.some.injEq, Prod.mk.injEq] at H
 obtain ⟨rfl, rfl⟩ := H
 go_enter Tryz.func78, Tryz.ntmps78
 try go_wp2_with (first | ((with_reducible refine gate_dst (N := 3) rfl ?_); refine bxe 3 (cs := #[.int .u64 a1_0, .int .u64 a1_1]) (t := 74) ?_; intro gb206 hg w4 hbox hb; have BK206 := Aside0.mk hbox; have GW206 := bsz HB hg; have GE206 := bsz HB hg; replace HB := bls HB hb; clear hb hbox hg) | ((with_reducible refine gate_dst (N := 4) rfl ?_); refine bxe 4 (cs := #[.int .u64 0, .int .u64 0]) (t := 74) ?_; intro gb207 hg w5 hbox hb; have BK207 := Aside0.mk hbox; have GW207 := bsz HB hg; have GE207 := bsz HB hg; have NB206_207 := bnl BK206 hg; have NB207_206 := bng BK206 hg; replace BK206 := bkb BK206 hb; replace HB := bls HB hb; clear hb hbox hg))
 replace BK206 := Aside0.mk (blk_drew BK206.out)
 replace BK207 := Aside0.mk (blk_drew BK207.out)
 replace HB := Aside0.mk (below_drew1 HB.out)
 refine start_ (n := 8) (S := fun w' => w'.cell? ⟨gb206, 0, none⟩ = some (.int .u64 a1_0) ∧ w'.cell? ⟨gb206, 1, none⟩ = some (.int .u64 a1_1)) (ds := []) #[false, false, false, false, false, false, false, false] (by kernel_rfl) rfl rfl ⟨(blk_cell BK206.out 0).trans rfl, (blk_cell BK206.out 1).trans rfl⟩ (fun hHeld => ?_); refine with_tabW fd_conjugate.tab1 fd_conjugate.bits1 (fun HT_ HW_ => ?_)
 generalize w5.drew = w6 at BK206 BK207 HB hHeld ⊢
 refine pu 0 5 HT_ ?_
 refine pu 2 7 HT_ ?_
 refine pu 3 8 HT_ ?_
 refine tk 1 6 HT_ HW_ hHeld ?_
 refine tk 4 9 HT_ HW_ hHeld ?_
 refine one_ (i := 5) (N := some 10) #[true, true, true, true, true, true, false, false] rfl rfl (one_of HT_.out (by kernel_rfl)) (by decide) (fun K hK => ?_)
 refine goes_ Tryz.func81 (by kernel_rfl) rfl #[.int .i64 a0, .int .u64 a1_1] (by rfl) rfl rfl (by (try simp only [List.map_toArray, List.map_cons, List.map_nil]); first | done | rfl | (simp only [List.length_drop, List.length_take]; rfl)) ?_
 with_reducible refine (fd_negated.calls a0 a1_1 t208 _ A3.out).mono ?_
 rintro e w7 ⟨rfl, hb⟩
 refine ⟨_, rfl, ?_⟩
 replace BK206 := bkb BK206 hb
 replace BK207 := bkb BK207 hb
 replace HB := bls HB hb
 (try clear hb)
 (try clear hb2)
 (try clear hk)
 (try clear hi)
 refine hK.out _ _ ⟨(blk_cell BK206.out 0).trans rfl, (blk_cell BK206.out 1).trans rfl⟩ (fun hHeld => ?_)
 clear hK K
 refine norm_ (a' := ?_) ?_ ?_
 rotate_left
 ·show Act.put _ (some 10) _ = _
  simp only [Act.put, List.setIfInBounds_toArray, List.set_cons_zero, List.set_cons_succ, i64_w, i32_w]
  rfl
 refine pu 6 11 HT_ ?_
 refine one_ (i := 7) (N := none) #[true, true, true, true, true, true, true, true] rfl rfl (one_of HT_.out (by kernel_rfl)) (by decide) (fun K hK => ?_)
 have hs8 : w7.cell? ⟨gb207, 0, none⟩ = some (.int .u64 0) := (blk_cell BK207.out 0).trans rfl
 have hfs8 := blk_frozen BK207.out 0
 have hns8_0 := NB206_207.out
 have hms8_0 := NB207_206.out
 have hs9 : w7.cell? ⟨gb207, 1, none⟩ = some (.int .u64 0) := (blk_cell BK207.out 1).trans rfl
 have hfs9 := blk_frozen BK207.out 1
 have hns9_0 := NB206_207.out
 have hms9_0 := NB207_206.out
 refine skip_ (w1 := ?_) (by rfl) rfl ?_ ?_
 rotate_left
 ·go_simp
  rfl
 refine hK.out _ _ ⟨((cell_far (p := ⟨gb207, _, none⟩) NB206_207.out _).trans (((cell_far (p := ⟨gb207, _, none⟩) NB206_207.out _).trans (hHeld.1)))), ((cell_far (p := ⟨gb207, _, none⟩) NB206_207.out _).trans (((cell_far (p := ⟨gb207, _, none⟩) NB206_207.out _).trans (hHeld.2))))⟩ (fun hHeld => ?_)
 clear hK K
 refine done_ (done_of HT_.out (by kernel_rfl)) ?_
 try go_wp2
 refine bodyPost_ret (results_cell_row rfl _ _ gb207 74 #[.int .u64 a1_0, .int .u64 t208] (0, 0) _ rfl (by (with_reducible repeat (first | refine blk_drewN ?_ _ | refine blk_drew ?_ | refine blk_alloc ?_ _)); refine blk_put (cs := #[.int .u64 a1_0, .int .u64 0]) ?_ 1 _ rfl; (with_reducible repeat (first | refine blk_drewN ?_ _ | refine blk_drew ?_ | refine blk_alloc ?_ _)); refine blk_put (cs := #[.int .u64 0, .int .u64 0]) ?_ 0 _ rfl; (with_reducible repeat (first | refine blk_drewN ?_ _ | refine blk_drew ?_ | refine blk_alloc ?_ _)); exact BK207.out) Tryz.underlying74 rfl (by kernel_rfl)) rfl ?_
 exact ⟨by first | rfl | (simp [errW_none, errW_some] <;> rfl) | (simp [*, errW_none, errW_some] <;> rfl), (blt HB).out⟩
def fd_value.f (a0 : Int) (a1_0 : Int) (a1_1 : Int) : Option (Int × Int × Int × ByteArray) := if a0 = 2 then (some (4, a1_0, a1_1, (⟨#[]⟩ : ByteArray))) else (some (3, a1_0, a1_1, (⟨#[]⟩ : ByteArray)))
set_option maxHeartbeats 8000000 in
set_option maxRecDepth 100000 in
theorem fd_value.calls (a0 : Int) (a1_0 : Int) (a1_1 : Int) (r1 : Int) (r2 : Int) (r3 : Int) (r4 : ByteArray) (w : World) (h : fd_value.f a0 a1_0 a1_1 = some (r1, r2, r3, r4)) :
  Calls Tryz.prog 57 #[.int .i64 a0, .agg #[.int .u64 a1_0, .int .u64 a1_1]] w fun e w' => e = .returned (.agg #[.int .i64 r1, .int .u64 r2, .int .u64 r3, .string r4]) ∧ Below w.heap.size w w' := by
 have hu74 := Tryz.underlying74
 have hu24 := Tryz.underlying24
 have HB := Aside0.mk (Below.refl w.heap.size w)
 have H : (if a0 = 2 then (some (4, a1_0, a1_1, (⟨#[]⟩ : ByteArray))) else (some (3, a1_0, a1_1, (⟨#[]⟩ : ByteArray)))) = some (r1, r2, r3, r4) := h
 clear h
 by_cases c3 : a0 = 2
 ·rw [if_pos c3] at H
  have c3b0 : (a0 == 2) = true := beq_iff_eq.mpr c3
  have c3b1 : (a0 != 2) = false := bne_eq_false_iff_eq.mpr c3
  clear c3
  simp only [Option.some.injEq, Prod.mk.injEq] at H
  obtain ⟨rfl, rfl, rfl, rfl⟩ := H
  go_enter Tryz.func57, Tryz.ntmps57
  go_wp2_with (first | ((with_reducible refine gate_dst (N := 3) rfl ?_); refine bxe 3 (cs := #[.int .u64 a1_0, .int .u64 a1_1]) (t := 74) ?_; intro gb209 hg w4 hbox hb; have BK209 := Aside0.mk hbox; have GW209 := bsz HB hg; have GE209 := bsz HB hg; replace HB := bls HB hb; clear hb hbox hg) | ((with_reducible refine gate_dst (N := 4) rfl ?_); refine bxe 4 (cs := #[.int .i64 0, .int .u64 0, .int .u64 0, .string (⟨#[]⟩ : ByteArray)]) (t := 24) ?_; intro gb210 hg w5 hbox hb; have BK210 := Aside0.mk hbox; have GW210 := bsz HB hg; have GE210 := bsz HB hg; have NB209_210 := bnl BK209 hg; have NB210_209 := bng BK209 hg; replace BK209 := bkb BK209 hb; replace HB := bls HB hb; clear hb hbox hg; have hnb6 := NB209_210.out; have hnc6 := NB210_209.out; obtain ⟨hcz7_0, hcz7_1, hfz7_0, hfz7_1⟩ := cf2 BK209; have hcz8_0 : w5.cell? ⟨gb210, 0, none⟩ = some (.int .i64 0) := (blk_cell BK210.out 0).trans rfl; have hcz8_1 : w5.cell? ⟨gb210, 1, none⟩ = some (.int .u64 0) := (blk_cell BK210.out 1).trans rfl; have hcz8_2 : w5.cell? ⟨gb210, 2, none⟩ = some (.int .u64 0) := (blk_cell BK210.out 2).trans rfl; have hcz8_3 : w5.cell? ⟨gb210, 3, none⟩ = some (.string (⟨#[]⟩ : ByteArray)) := (blk_cell BK210.out 3).trans rfl; have hfz8_0 := blk_frozen BK210.out 0; have hfz8_1 := blk_frozen BK210.out 1; have hfz8_2 := blk_frozen BK210.out 2; have hfz8_3 := blk_frozen BK210.out 3))
  refine bodyPost_ret (results_cell_row rfl _ _ gb210 24 #[.int .i64 4, .int .u64 a1_0, .int .u64 a1_1, .string (⟨#[]⟩ : ByteArray)] (0, 0) _ rfl (by (with_reducible repeat (first | refine blk_drewN ?_ _ | refine blk_drew ?_ | refine blk_alloc ?_ _)); refine blk_put (cs := #[.int .i64 4, .int .u64 a1_0, .int .u64 a1_1, .string (⟨#[]⟩ : ByteArray)]) ?_ 3 _ rfl; (with_reducible repeat (first | refine blk_drewN ?_ _ | refine blk_drew ?_ | refine blk_alloc ?_ _)); refine blk_put (cs := #[.int .i64 4, .int .u64 a1_0, .int .u64 0, .string (⟨#[]⟩ : ByteArray)]) ?_ 2 _ rfl; (with_reducible repeat (first | refine blk_drewN ?_ _ | refine blk_drew ?_ | refine blk_alloc ?_ _)); refine blk_put (cs := #[.int .i64 4, .int .u64 0, .int .u64 0, .string (⟨#[]⟩ : ByteArray)]) ?_ 1 _ rfl; (with_reducible repeat (first | refine blk_drewN ?_ _ | refine blk_drew ?_ | refine blk_alloc ?_ _)); refine blk_put (cs := #[.int .i64 0, .int .u64 0, .int .u64 0, .string (⟨#[]⟩ : ByteArray)]) ?_ 0 _ rfl; (with_reducible repeat (first | refine blk_drewN ?_ _ | refine blk_drew ?_ | refine blk_alloc ?_ _)); exact BK210.out) Tryz.underlying24 rfl (by kernel_rfl)) rfl ?_
  exact ⟨by first | rfl | (simp [errW_none, errW_some] <;> rfl) | (simp [*, errW_none, errW_some] <;> rfl), (blt HB).out⟩
 ·rw [if_neg c3] at H
  have c3b0 : (a0 == 2) = false := beq_eq_false_iff_ne.mpr c3
  have c3b1 : (a0 != 2) = true := bne_iff_ne.mpr c3
  simp only [Option.some.injEq, Prod.mk.injEq] at H
  obtain ⟨rfl, rfl, rfl, rfl⟩ := H
  go_enter Tryz.func57, Tryz.ntmps57
  go_wp2_with (first | ((with_reducible refine gate_dst (N := 3) rfl ?_); refine bxe 3 (cs := #[.int .u64 a1_0, .int .u64 a1_1]) (t := 74) ?_; intro gb209 hg w9 hbox hb; have BK209 := Aside0.mk hbox; have GW209 := bsz HB hg; have GE209 := bsz HB hg; replace HB := bls HB hb; clear hb hbox hg) | ((with_reducible refine gate_dst (N := 4) rfl ?_); refine bxe 4 (cs := #[.int .i64 0, .int .u64 0, .int .u64 0, .string (⟨#[]⟩ : ByteArray)]) (t := 24) ?_; intro gb210 hg w10 hbox hb; have BK210 := Aside0.mk hbox; have GW210 := bsz HB hg; have GE210 := bsz HB hg; have NB209_210 := bnl BK209 hg; have NB210_209 := bng BK209 hg; replace BK209 := bkb BK209 hb; replace HB := bls HB hb; clear hb hbox hg; have hnb11 := NB209_210.out; have hnc11 := NB210_209.out; obtain ⟨hcz12_0, hcz12_1, hfz12_0, hfz12_1⟩ := cf2 BK209; have hcz13_0 : w10.cell? ⟨gb210, 0, none⟩ = some (.int .i64 0) := (blk_cell BK210.out 0).trans rfl; have hcz13_1 : w10.cell? ⟨gb210, 1, none⟩ = some (.int .u64 0) := (blk_cell BK210.out 1).trans rfl; have hcz13_2 : w10.cell? ⟨gb210, 2, none⟩ = some (.int .u64 0) := (blk_cell BK210.out 2).trans rfl; have hcz13_3 : w10.cell? ⟨gb210, 3, none⟩ = some (.string (⟨#[]⟩ : ByteArray)) := (blk_cell BK210.out 3).trans rfl; have hfz13_0 := blk_frozen BK210.out 0; have hfz13_1 := blk_frozen BK210.out 1; have hfz13_2 := blk_frozen BK210.out 2; have hfz13_3 := blk_frozen BK210.out 3))
  refine bodyPost_ret (results_cell_row rfl _ _ gb210 24 #[.int .i64 3, .int .u64 a1_0, .int .u64 a1_1, .string (⟨#[]⟩ : ByteArray)] (0, 0) _ rfl (by (with_reducible repeat (first | refine blk_drewN ?_ _ | refine blk_drew ?_ | refine blk_alloc ?_ _)); refine blk_put (cs := #[.int .i64 3, .int .u64 a1_0, .int .u64 a1_1, .string (⟨#[]⟩ : ByteArray)]) ?_ 3 _ rfl; (with_reducible repeat (first | refine blk_drewN ?_ _ | refine blk_drew ?_ | refine blk_alloc ?_ _)); refine blk_put (cs := #[.int .i64 3, .int .u64 a1_0, .int .u64 0, .string (⟨#[]⟩ : ByteArray)]) ?_ 2 _ rfl; (with_reducible repeat (first | refine blk_drewN ?_ _ | refine blk_drew ?_ | refine blk_alloc ?_ _)); refine blk_put (cs := #[.int .i64 3, .int .u64 0, .int .u64 0, .string (⟨#[]⟩ : ByteArray)]) ?_ 1 _ rfl; (with_reducible repeat (first | refine blk_drewN ?_ _ | refine blk_drew ?_ | refine blk_alloc ?_ _)); refine blk_put (cs := #[.int .i64 0, .int .u64 0, .int .u64 0, .string (⟨#[]⟩ : ByteArray)]) ?_ 0 _ rfl; (with_reducible repeat (first | refine blk_drewN ?_ _ | refine blk_drew ?_ | refine blk_alloc ?_ _)); exact BK210.out) Tryz.underlying24 rfl (by kernel_rfl)) rfl ?_
  exact ⟨by first | rfl | (simp [errW_none, errW_some] <;> rfl) | (simp [*, errW_none, errW_some] <;> rfl), (blt HB).out⟩
def fd_power.l0 : Nat → Int → Int → Int → Int → Int → Int → Int → Int → Int → Int → Option (Int × Int)
 | 0, _, _, _, _, _, _, _, _, _, _ => none
 | k + 1, x0, x2, x9, x10, x212000, x212001, x215000, x215001, x216000, x216001 => if x10 = 0 then (if x2 < 0 then ((fd_over.f x0 x215000 x215001 x216000 x216001).bind fun bt216 => (some (bt216.1, bt216.2))) else (some (x216000, x216001))) else (if x10 > x9 then (fd_power.l0 k x0 x2 x9 (x10 / 2) x212000 x212001 x215000 x215001 x216000 x216001) else ((fd_times.f x0 x216000 x216001 x216000 x216001).bind fun bt218 => (if (Go.bits .and .u64 x9 x10) = 0 then (fd_power.l0 k x0 x2 x9 (x10 / 2) x212000 x212001 x215000 x215001 bt218.1 bt218.2) else ((fd_times.f x0 bt218.1 bt218.2 x212000 x212001).bind fun bt220 => (fd_power.l0 k x0 x2 x9 (x10 / 2) x212000 x212001 x215000 x215001 bt220.1 bt220.2)))))
def fd_power.f (k : Nat) (a0 : Int) (a1_0 : Int) (a1_1 : Int) (a2 : Int) : Option (Int × Int) := (fd_one.f a0).bind fun t213 => (fd_power.l0 k a0 a2 (IntKind.u64.wrap (mx a2 (wrap64 (-a2)))) 2147483648 a1_0 a1_1 t213 0 t213 0)
set_option maxHeartbeats 8000000 in
set_option maxRecDepth 100000 in
theorem fd_power.calls (k : Nat) (a0 : Int) (a1_0 : Int) (a1_1 : Int) (a2 : Int) (r1 : Int) (r2 : Int) (w : World) (h : fd_power.f k a0 a1_0 a1_1 a2 = some (r1, r2)) :
  Calls Tryz.prog 73 #[.int .i64 a0, .agg #[.int .u64 a1_0, .int .u64 a1_1], .int .i64 a2] w fun e w' => e = .returned (.agg #[.int .u64 r1, .int .u64 r2]) ∧ Below w.heap.size w w' := by
 have hu74 := Tryz.underlying74
 have HB := Aside0.mk (Below.refl w.heap.size w)
 have H : ((fd_one.f a0).bind fun t213 => (fd_power.l0 k a0 a2 (IntKind.u64.wrap (mx a2 (wrap64 (-a2)))) 2147483648 a1_0 a1_1 t213 0 t213 0)) = some (r1, r2) := h
 clear h
 replace H := Option.bind_eq_some_iff.mp H
 obtain ⟨t213, A4, H⟩ := H
 try dsimp only at H
 replace A4 := Aside0.mk A4
 obtain ⟨ji5, hji5⟩ : ∃ j_ : Int, (mx a2 (wrap64 (-a2))) = j_ := ⟨_, rfl⟩
 replace H : (fd_power.l0 k a0 a2 (IntKind.u64.wrap (ji5)) 2147483648 a1_0 a1_1 t213 0 t213 0) = some (r1, r2) := by first | (rw [hji5] at H; exact H) | (simp only [hji5] at H ⊢; exact H)
 (try rw [hji5] at A4)
 have hji5_ : (if a2 < (wrap64 (-a2)) then (wrap64 (-a2)) else a2) = ji5 := hji5
 have H' := Aside0.mk H
 clear H
 go_enter Tryz.func73, Tryz.ntmps73
 go_wp2_with (first | ((with_reducible refine gate_dst (N := 4) rfl ?_); refine bxe 4 (cs := #[.int .u64 a1_0, .int .u64 a1_1]) (t := 74) ?_; intro gb211 hg w6 hbox hb; have BK211 := Aside0.mk hbox; have GW211 := bsz HB hg; have GE211 := bsz HB hg; replace HB := bls HB hb; clear hb hbox hg) | ((with_reducible refine gate_dst (N := 6) rfl ?_); refine bxe 6 (cs := #[.int .u64 0, .int .u64 0]) (t := 74) ?_; intro gb212 hg w7 hbox hb; have BK212 := Aside0.mk hbox; have GW212 := bsz HB hg; have GE212 := bsz HB hg; have NB211_212 := bnl BK211 hg; have NB212_211 := bng BK211 hg; replace BK211 := bkb BK211 hb; replace HB := bls HB hb; clear hb hbox hg) | ((with_reducible refine gate_callee (f := 111) rfl ?_); refine gL 12 Tryz.func111 #[.int .i64 a0] ?_; (with_reducible refine (fd_one.calls a0 t213 _ A4.out).mono ?_); rintro e w8 ⟨rfl, hb⟩; refine ⟨_, rfl, ?_⟩; replace BK211 := bkb BK211 hb; replace BK212 := bkb BK212 hb; replace HB := bls HB hb; clear hb) | ((with_reducible refine gate_dst (N := 7) rfl ?_); refine bxe 7 (cs := #[.int .u64 0, .int .u64 0]) (t := 74) ?_; intro gb214 hg w9 hbox hb; have BK214 := Aside0.mk hbox; have GW214 := bsz HB hg; have GE214 := bsz HB hg; have NB211_214 := bnl BK211 hg; have NB214_211 := bng BK211 hg; have NB212_214 := bnl BK212 hg; have NB214_212 := bng BK212 hg; replace BK211 := bkb BK211 hb; replace BK212 := bkb BK212 hb; replace HB := bls HB hb; clear hb hbox hg; have hnb10 := NB214_211.out; have hnc10 := NB211_214.out; have hnb11 := NB214_212.out; have hnc11 := NB212_214.out; have hcz12_0 : w9.cell? ⟨gb214, 0, none⟩ = some (.int .u64 0) := (blk_cell BK214.out 0).trans rfl; have hcz12_1 : w9.cell? ⟨gb214, 1, none⟩ = some (.int .u64 0) := (blk_cell BK214.out 1).trans rfl; have hfz12_0 := blk_frozen BK214.out 0; have hfz12_1 := blk_frozen BK214.out 1) | ((with_reducible refine gate_dst (N := 8) rfl ?_); refine bxe 8 (cs := #[.int .u64 0, .int .u64 0]) (t := 74) ?_; intro gb215 hg w13 hbox hb; have BK215 := Aside0.mk hbox; have GW215 := bsz HB hg; have GE215 := bsz HB hg; have NB211_215 := Aside0.mk ((by rw [hg]; exact Nat.ne_of_lt (blk_lt (g := gb211) (o := .cells #[.int .u64 a1_0, .int .u64 a1_1] 74 (0, 0)) (bkf BK211).out) : gb211 ≠ gb215)); have NB215_211 := Aside0.mk ((by rw [hg]; exact Nat.ne_of_gt (blk_lt (g := gb211) (o := .cells #[.int .u64 a1_0, .int .u64 a1_1] 74 (0, 0)) (bkf BK211).out) : gb215 ≠ gb211)); have NB212_215 := Aside0.mk ((by rw [hg]; exact Nat.ne_of_lt (blk_lt (g := gb212) (o := .cells #[.int .u64 0, .int .u64 0] 74 (0, 0)) (bkf BK212).out) : gb212 ≠ gb215)); have NB215_212 := Aside0.mk ((by rw [hg]; exact Nat.ne_of_gt (blk_lt (g := gb212) (o := .cells #[.int .u64 0, .int .u64 0] 74 (0, 0)) (bkf BK212).out) : gb215 ≠ gb212)); have NB214_215 := Aside0.mk ((by rw [hg]; exact Nat.ne_of_lt (blk_lt (g := gb214) (o := .cells #[.int .u64 t213, .int .u64 0] 74 (0, 0)) (by (with_reducible repeat (first | refine blk_drewN ?_ _ | refine blk_drew ?_ | refine blk_alloc ?_ _)); refine blk_put (cs := #[.int .u64 t213, .int .u64 0]) ?_ 1 _ rfl; (with_reducible repeat (first | refine blk_drewN ?_ _ | refine blk_drew ?_ | refine blk_alloc ?_ _)); refine blk_put (cs := #[.int .u64 0, .int .u64 0]) ?_ 0 _ rfl; (with_reducible repeat (first | refine blk_drewN ?_ _ | refine blk_drew ?_ | refine blk_alloc ?_ _)); exact BK214.out)) : gb214 ≠ gb215)); have NB215_214 := Aside0.mk ((by rw [hg]; exact Nat.ne_of_gt (blk_lt (g := gb214) (o := .cells #[.int .u64 t213, .int .u64 0] 74 (0, 0)) (by (with_reducible repeat (first | refine blk_drewN ?_ _ | refine blk_drew ?_ | refine blk_alloc ?_ _)); refine blk_put (cs := #[.int .u64 t213, .int .u64 0]) ?_ 1 _ rfl; (with_reducible repeat (first | refine blk_drewN ?_ _ | refine blk_drew ?_ | refine blk_alloc ?_ _)); refine blk_put (cs := #[.int .u64 0, .int .u64 0]) ?_ 0 _ rfl; (with_reducible repeat (first | refine blk_drewN ?_ _ | refine blk_drew ?_ | refine blk_alloc ?_ _)); exact BK214.out)) : gb215 ≠ gb214)); replace BK211 := Aside0.mk (blk_below (g := gb211) (o := .cells #[.int .u64 a1_0, .int .u64 a1_1] 74 (0, 0)) (bkf BK211).out hb); replace BK212 := Aside0.mk (blk_below (g := gb212) (o := .cells #[.int .u64 0, .int .u64 0] 74 (0, 0)) (bkf BK212).out hb); replace BK214 := Aside0.mk (blk_below (g := gb214) (o := .cells #[.int .u64 t213, .int .u64 0] 74 (0, 0)) (by (with_reducible repeat (first | refine blk_drewN ?_ _ | refine blk_drew ?_ | refine blk_alloc ?_ _)); refine blk_put (cs := #[.int .u64 t213, .int .u64 0]) ?_ 1 _ rfl; (with_reducible repeat (first | refine blk_drewN ?_ _ | refine blk_drew ?_ | refine blk_alloc ?_ _)); refine blk_put (cs := #[.int .u64 0, .int .u64 0]) ?_ 0 _ rfl; (with_reducible repeat (first | refine blk_drewN ?_ _ | refine blk_drew ?_ | refine blk_alloc ?_ _)); exact BK214.out) hb); replace HB := bls HB hb; clear hb hbox hg; have hnb14 := NB215_211.out; have hnc14 := NB211_215.out; have hnb15 := NB215_212.out; have hnc15 := NB212_215.out; have hnb16 := NB215_214.out; have hnc16 := NB214_215.out; have hcz17_0 : w13.cell? ⟨gb215, 0, none⟩ = some (.int .u64 0) := (blk_cell BK215.out 0).trans rfl; have hcz17_1 : w13.cell? ⟨gb215, 1, none⟩ = some (.int .u64 0) := (blk_cell BK215.out 1).trans rfl; have hfz17_0 := blk_frozen BK215.out 0; have hfz17_1 := blk_frozen BK215.out 1))
 go_loopg [10] k (fun kq v10 w' => ∃ (x10_1 : Int) (x216000_1 : Int) (x216001_1 : Int), v10 = .int .u64 x10_1 ∧ Aside0 (fd_power.l0 kq a0 a2 (IntKind.u64.wrap (ji5)) x10_1 a1_0 a1_1 t213 0 x216000_1 x216001_1 = some (r1, r2)) ∧ Aside0 (kq ≤ k) ∧ Aside0 (w'.heap[gb211]? = some (.cells #[.int .u64 a1_0, .int .u64 a1_1] 74 (0, 0))) ∧ Aside0 (w'.heap[gb212]? = some (.cells #[.int .u64 0, .int .u64 0] 74 (0, 0))) ∧ Aside0 (w'.heap[gb214]? = some (.cells #[.int .u64 t213, .int .u64 0] 74 (0, 0))) ∧ Aside0 (w'.heap[gb215]? = some (.cells #[.int .u64 x216000_1, .int .u64 x216001_1] 74 (0, 0))) ∧ Aside0 (Below w.heap.size w w'))
 case atStart => exact ⟨(2147483648), (t213), (0), (by first | rfl | (simp; done) | (simp [*]; done)), H', ⟨Nat.le_refl _⟩, bkf BK211, bkf BK212, bkf BK214, ⟨by (with_reducible repeat (first | refine blk_drewN ?_ _ | refine blk_drew ?_ | refine blk_alloc ?_ _)); refine blk_put (cs := #[.int .u64 t213, .int .u64 0]) ?_ 1 _ rfl; (with_reducible repeat (first | refine blk_drewN ?_ _ | refine blk_drew ?_ | refine blk_alloc ?_ _)); refine blk_put (cs := #[.int .u64 0, .int .u64 0]) ?_ 0 _ rfl; (with_reducible repeat (first | refine blk_drewN ?_ _ | refine blk_drew ?_ | refine blk_alloc ?_ _)); exact BK215.out⟩, blt HB⟩
 case round =>
  clear H'
  try clear c1
  try clear p2
  try clear p6
  try clear c7
  try clear c10
  try clear c11
  try clear c14
  try clear c15
  try clear c16
  try clear hcz12_0
  try clear hcz12_1
  try clear hcz17_0
  try clear hcz17_1
  try clear hfz12_0
  try clear hfz12_1
  try clear hfz17_0
  try clear hfz17_1
  obtain ⟨x10_1, x216000_1, x216001_1, rfl, HA, HK1, BK211, BK212, BK214, BK215, HB⟩ := hrel
  cases gk with
  | zero => exact absurd HA.out (by simp [fd_power.l0])
  | succ k1 =>
   have H := HA.out
   clear HA
   simp only [fd_power.l0] at H
   by_cases c18 : x10_1 = 0
   ·rw [if_pos c18] at H
    have c18b0 : (x10_1 == 0) = true := beq_iff_eq.mpr c18
    have c18b1 : (x10_1 != 0) = false := bne_eq_false_iff_eq.mpr c18
    clear c18
    by_cases c19 : a2 < 0
    ·rw [if_pos c19] at H
     have c19b0 : decide (a2 < 0) = true := decide_eq_true c19
     clear c19
     replace H := Option.bind_eq_some_iff.mp H
     obtain ⟨⟨t216, t217⟩, A20, H⟩ := H
     try dsimp only at H
     replace A20 := Aside0.mk A20
     simp only [Option.some.injEq, Prod.mk.injEq] at H
     obtain ⟨rfl, rfl⟩ := H
     have hnb21 := NB214_211.out
     have hnc21 := NB211_214.out
     have hnb22 := NB214_212.out
     have hnc22 := NB212_214.out
     have hnb23 := NB214_215.out
     have hnc23 := NB215_214.out
     obtain ⟨hcz24_0, hcz24_1, hfz24_0, hfz24_1⟩ := cf2 BK214
     have hnb25 := NB215_211.out
     have hnc25 := NB211_215.out
     have hnb26 := NB215_212.out
     have hnc26 := NB212_215.out
     obtain ⟨hcz27_0, hcz27_1, hfz27_0, hfz27_1⟩ := cf2 BK215
     go_wp2_with (first | ((with_reducible refine gate_callee (f := 56) rfl ?_); refine gL 44 Tryz.func56 #[.int .i64 a0, .agg #[.int .u64 t213, .int .u64 0], .agg #[.int .u64 x216000_1, .int .u64 x216001_1]] ?_; (with_reducible refine (fd_over.calls a0 t213 0 x216000_1 x216001_1 t216 t217 _ A20.out).mono ?_); rintro e w28 ⟨rfl, hb⟩; refine ⟨_, rfl, ?_⟩; replace BK211 := bkb BK211 hb; replace BK212 := bkb BK212 hb; replace BK214 := bkb BK214 hb; replace BK215 := bkb BK215 hb; replace HB := bls HB hb; clear hb; obtain ⟨hcz29_0, hcz29_1, hfz29_0, hfz29_1⟩ := cf2 BK215; have hnb30 := NB212_211.out; have hnc30 := NB211_212.out; have hcz31_0 : w28.cell? ⟨gb212, 0, none⟩ = some (.int .u64 0) := (blk_cell BK212.out 0).trans rfl; have hcz31_1 : w28.cell? ⟨gb212, 1, none⟩ = some (.int .u64 0) := (blk_cell BK212.out 1).trans rfl; have hfz31_0 := blk_frozen BK212.out 0; have hfz31_1 := blk_frozen BK212.out 1))
     refine bodyPost_ret (results_cell_row rfl _ _ gb212 74 #[.int .u64 t216, .int .u64 t217] (0, 0) _ rfl (by (with_reducible repeat (first | refine blk_drewN ?_ _ | refine blk_drew ?_ | refine blk_alloc ?_ _)); refine blk_put (cs := #[.int .u64 t216, .int .u64 0]) ?_ 1 _ rfl; (with_reducible repeat (first | refine blk_drewN ?_ _ | refine blk_drew ?_ | refine blk_alloc ?_ _)); refine blk_put (cs := #[.int .u64 0, .int .u64 0]) ?_ 0 _ rfl; (with_reducible repeat (first | refine blk_drewN ?_ _ | refine blk_drew ?_ | refine blk_alloc ?_ _)); refine blk_far ?_ NB212_215.out _; (with_reducible repeat (first | refine blk_drewN ?_ _ | refine blk_drew ?_ | refine blk_alloc ?_ _)); refine blk_far ?_ NB212_215.out _; (with_reducible repeat (first | refine blk_drewN ?_ _ | refine blk_drew ?_ | refine blk_alloc ?_ _)); exact BK212.out) Tryz.underlying74 rfl (by kernel_rfl)) rfl ?_
     exact ⟨by first | rfl | (simp [errW_none, errW_some] <;> rfl) | (simp only [← hji5]; first | rfl | (simp [errW_none, errW_some] <;> rfl)) | (simp [*, errW_none, errW_some] <;> rfl), (blt HB).out⟩
    ·rw [if_neg c19] at H
     have c19b0 : decide (a2 < 0) = false := decide_eq_false c19
     clear c19
     simp only [Option.some.injEq, Prod.mk.injEq] at H
     obtain ⟨rfl, rfl⟩ := H
     have hnb32 := NB215_211.out
     have hnc32 := NB211_215.out
     have hnb33 := NB215_212.out
     have hnc33 := NB212_215.out
     have hnb34 := NB215_214.out
     have hnc34 := NB214_215.out
     obtain ⟨hcz35_0, hcz35_1, hfz35_0, hfz35_1⟩ := cf2 BK215
     have hnb36 := NB212_211.out
     have hnc36 := NB211_212.out
     have hnb37 := NB212_214.out
     have hnc37 := NB214_212.out
     obtain ⟨hcz38_0, hcz38_1, hfz38_0, hfz38_1⟩ := cf2 BK212
     go_wp2
     refine bodyPost_ret (results_cell_row rfl _ _ gb212 74 #[.int .u64 x216000_1, .int .u64 x216001_1] (0, 0) _ rfl (by (with_reducible repeat (first | refine blk_drewN ?_ _ | refine blk_drew ?_ | refine blk_alloc ?_ _)); refine blk_put (cs := #[.int .u64 x216000_1, .int .u64 0]) ?_ 1 _ rfl; (with_reducible repeat (first | refine blk_drewN ?_ _ | refine blk_drew ?_ | refine blk_alloc ?_ _)); refine blk_put (cs := #[.int .u64 0, .int .u64 0]) ?_ 0 _ rfl; (with_reducible repeat (first | refine blk_drewN ?_ _ | refine blk_drew ?_ | refine blk_alloc ?_ _)); exact BK212.out) Tryz.underlying74 rfl (by kernel_rfl)) rfl ?_
     exact ⟨by first | rfl | (simp [errW_none, errW_some] <;> rfl) | (simp only [← hji5]; first | rfl | (simp [errW_none, errW_some] <;> rfl)) | (simp [*, errW_none, errW_some] <;> rfl), (blt HB).out⟩
   ·rw [if_neg c18] at H
    have c18b0 : (x10_1 == 0) = false := beq_eq_false_iff_ne.mpr c18
    have c18b1 : (x10_1 != 0) = true := bne_iff_ne.mpr c18
    by_cases c39 : x10_1 > (IntKind.u64.wrap (ji5))
    ·rw [if_pos c39] at H
     have c39b0 : decide ((IntKind.u64.wrap (ji5)) < x10_1) = true := decide_eq_true c39
     clear c39
     have H' := Aside0.mk H
     clear H
     go_wp2
     go_roundg k1
     case measure => have := HK1.out; omega
     case rel => exact ⟨(x10_1 / 2), (x216000_1), (x216001_1), (by first | rfl | (simp; done) | (simp [*]; done)), H', ⟨by have := HK1.out; omega⟩, bks BK211, bks BK212, bks BK214, bks BK215, blt HB⟩
    ·rw [if_neg c39] at H
     have c39b0 : decide ((IntKind.u64.wrap (ji5)) < x10_1) = false := decide_eq_false c39
     clear c39
     replace H := Option.bind_eq_some_iff.mp H
     obtain ⟨⟨t218, t219⟩, A40, H⟩ := H
     try dsimp only at H
     replace A40 := Aside0.mk A40
     by_cases c41 : (Go.bits .and .u64 (IntKind.u64.wrap (ji5)) x10_1) = 0
     ·rw [if_pos c41] at H
      have c41b0 : ((Go.bits .and .u64 (IntKind.u64.wrap (ji5)) x10_1) == 0) = true := beq_iff_eq.mpr c41
      have c41b1 : ((Go.bits .and .u64 (IntKind.u64.wrap (ji5)) x10_1) != 0) = false := bne_eq_false_iff_eq.mpr c41
      clear c41
      have H' := Aside0.mk H
      clear H
      have hnb42 := NB215_211.out
      have hnc42 := NB211_215.out
      have hnb43 := NB215_212.out
      have hnc43 := NB212_215.out
      have hnb44 := NB215_214.out
      have hnc44 := NB214_215.out
      obtain ⟨hcz45_0, hcz45_1, hfz45_0, hfz45_1⟩ := cf2 BK215
      go_wp2_with (first | ((with_reducible refine gate_callee (f := 55) rfl ?_); refine gL 30 Tryz.func55 #[.int .i64 a0, .agg #[.int .u64 x216000_1, .int .u64 x216001_1], .agg #[.int .u64 x216000_1, .int .u64 x216001_1]] ?_; (with_reducible refine (fd_times.calls a0 x216000_1 x216001_1 x216000_1 x216001_1 t218 t219 _ A40.out).mono ?_); rintro e w46 ⟨rfl, hb⟩; refine ⟨_, rfl, ?_⟩; replace BK211 := bkb BK211 hb; replace BK212 := bkb BK212 hb; replace BK214 := bkb BK214 hb; replace BK215 := bkb BK215 hb; replace HB := bls HB hb; clear hb; have hcz47_0 : w46.cell? ⟨gb215, 0, none⟩ = some (.int .u64 x216000_1) := (blk_cell BK215.out 0).trans rfl; have hcz47_1 : w46.cell? ⟨gb215, 1, none⟩ = some (.int .u64 x216001_1) := (blk_cell BK215.out 1).trans rfl; have hfz47_0 := blk_frozen BK215.out 0; have hfz47_1 := blk_frozen BK215.out 1))
      go_roundg k1
      case measure => have := HK1.out; omega
      case rel => exact ⟨(x10_1 / 2), (t218), (t219), (by first | rfl | (simp; done) | (simp [*]; done)), H', ⟨by have := HK1.out; omega⟩, bkf BK211, bkf BK212, bkf BK214, ⟨by (with_reducible repeat (first | refine blk_drewN ?_ _ | refine blk_drew ?_ | refine blk_alloc ?_ _)); refine blk_put (cs := #[.int .u64 t218, .int .u64 x216001_1]) ?_ 1 _ rfl; (with_reducible repeat (first | refine blk_drewN ?_ _ | refine blk_drew ?_ | refine blk_alloc ?_ _)); refine blk_put (cs := #[.int .u64 x216000_1, .int .u64 x216001_1]) ?_ 0 _ rfl; (with_reducible repeat (first | refine blk_drewN ?_ _ | refine blk_drew ?_ | refine blk_alloc ?_ _)); exact BK215.out⟩, blt HB⟩
     ·rw [if_neg c41] at H
      have c41b0 : ((Go.bits .and .u64 (IntKind.u64.wrap (ji5)) x10_1) == 0) = false := beq_eq_false_iff_ne.mpr c41
      have c41b1 : ((Go.bits .and .u64 (IntKind.u64.wrap (ji5)) x10_1) != 0) = true := bne_iff_ne.mpr c41
      replace H := Option.bind_eq_some_iff.mp H
      obtain ⟨⟨t220, t221⟩, A48, H⟩ := H
      try dsimp only at H
      replace A48 := Aside0.mk A48
      have H' := Aside0.mk H
      clear H
      have hnb49 := NB215_211.out
      have hnc49 := NB211_215.out
      have hnb50 := NB215_212.out
      have hnc50 := NB212_215.out
      have hnb51 := NB215_214.out
      have hnc51 := NB214_215.out
      obtain ⟨hcz52_0, hcz52_1, hfz52_0, hfz52_1⟩ := cf2 BK215
      go_wp2_with (first | ((with_reducible refine gate_callee (f := 55) rfl ?_); refine gL 30 Tryz.func55 #[.int .i64 a0, .agg #[.int .u64 x216000_1, .int .u64 x216001_1], .agg #[.int .u64 x216000_1, .int .u64 x216001_1]] ?_; (with_reducible refine (fd_times.calls a0 x216000_1 x216001_1 x216000_1 x216001_1 t218 t219 _ A40.out).mono ?_); rintro e w53 ⟨rfl, hb⟩; refine ⟨_, rfl, ?_⟩; replace BK211 := bkb BK211 hb; replace BK212 := bkb BK212 hb; replace BK214 := bkb BK214 hb; replace BK215 := bkb BK215 hb; replace HB := bls HB hb; clear hb; obtain ⟨hcz54_0, hcz54_1, hfz54_0, hfz54_1⟩ := cf2 BK215; have hnb55 := NB211_212.out; have hnc55 := NB212_211.out; have hnb56 := NB211_214.out; have hnc56 := NB214_211.out; have hcz57_0 : w53.cell? ⟨gb211, 0, none⟩ = some (.int .u64 a1_0) := (blk_cell BK211.out 0).trans rfl; have hcz57_1 : w53.cell? ⟨gb211, 1, none⟩ = some (.int .u64 a1_1) := (blk_cell BK211.out 1).trans rfl; have hfz57_0 := blk_frozen BK211.out 0; have hfz57_1 := blk_frozen BK211.out 1) | ((with_reducible refine gate_callee (f := 55) rfl ?_); refine gL 38 Tryz.func55 #[.int .i64 a0, .agg #[.int .u64 t218, .int .u64 t219], .agg #[.int .u64 a1_0, .int .u64 a1_1]] ?_; (with_reducible refine (fd_times.calls a0 t218 t219 a1_0 a1_1 t220 t221 _ A48.out).mono ?_); rintro e w58 ⟨rfl, hb⟩; refine ⟨_, rfl, ?_⟩; replace BK211 := Aside0.mk (blk_below (g := gb211) (o := .cells #[.int .u64 a1_0, .int .u64 a1_1] 74 (0, 0)) (bkf BK211).out hb); replace BK212 := Aside0.mk (blk_below (g := gb212) (o := .cells #[.int .u64 0, .int .u64 0] 74 (0, 0)) (bkf BK212).out hb); replace BK214 := Aside0.mk (blk_below (g := gb214) (o := .cells #[.int .u64 t213, .int .u64 0] 74 (0, 0)) (bkf BK214).out hb); replace BK215 := Aside0.mk (blk_below (g := gb215) (o := .cells #[.int .u64 t218, .int .u64 t219] 74 (0, 0)) (by (with_reducible repeat (first | refine blk_drewN ?_ _ | refine blk_drew ?_ | refine blk_alloc ?_ _)); refine blk_put (cs := #[.int .u64 t218, .int .u64 x216001_1]) ?_ 1 _ rfl; (with_reducible repeat (first | refine blk_drewN ?_ _ | refine blk_drew ?_ | refine blk_alloc ?_ _)); refine blk_put (cs := #[.int .u64 x216000_1, .int .u64 x216001_1]) ?_ 0 _ rfl; (with_reducible repeat (first | refine blk_drewN ?_ _ | refine blk_drew ?_ | refine blk_alloc ?_ _)); exact BK215.out) hb); replace HB := bls HB hb; clear hb; have hcz59_0 : w58.cell? ⟨gb215, 0, none⟩ = some (.int .u64 t218) := (blk_cell BK215.out 0).trans rfl; have hcz59_1 : w58.cell? ⟨gb215, 1, none⟩ = some (.int .u64 t219) := (blk_cell BK215.out 1).trans rfl; have hfz59_0 := blk_frozen BK215.out 0; have hfz59_1 := blk_frozen BK215.out 1))
      go_roundg k1
      case measure => have := HK1.out; omega
      case rel => exact ⟨(x10_1 / 2), (t220), (t221), (by first | rfl | (simp; done) | (simp [*]; done)), H', ⟨by have := HK1.out; omega⟩, bkf BK211, bkf BK212, bkf BK214, ⟨by (with_reducible repeat (first | refine blk_drewN ?_ _ | refine blk_drew ?_ | refine blk_alloc ?_ _)); refine blk_put (cs := #[.int .u64 t220, .int .u64 t219]) ?_ 1 _ rfl; (with_reducible repeat (first | refine blk_drewN ?_ _ | refine blk_drew ?_ | refine blk_alloc ?_ _)); refine blk_put (cs := #[.int .u64 t218, .int .u64 t219]) ?_ 0 _ rfl; (with_reducible repeat (first | refine blk_drewN ?_ _ | refine blk_drew ?_ | refine blk_alloc ?_ _)); exact BK215.out⟩, blt HB⟩


mutual
def cx_PowerOf.j0 : Nat → Int → Int → Int → Bool → Int → Int → Option (Int × Int × Int × ByteArray × Int)
 | 0, _, _, _, _, _, _ => none
 | k + 1, x1, x6, x8, x24, x229000, x229001 => if x24 = true then (cx_PowerOf.j1 k x1 x6 2 x229000 x229001) else (cx_PowerOf.j1 k x1 x6 x8 x229000 x229001)
def cx_PowerOf.j1 : Nat → Int → Int → Int → Int → Int → Option (Int × Int × Int × ByteArray × Int)
 | 0, _, _, _, _, _ => none
 | k + 1, x1, x6, x8, x229000, x229001 => if x8 = 0 then ((fd_power.f k x6 x229000 x229001 x1).bind fun bt229 => ((fd_value.f x6 bt229.1 bt229.2).bind fun bt231 => (some (bt231.1, bt231.2.1, bt231.2.2.1, bt231.2.2.2, 0)))) else (some (0, 0, 0, (⟨#[]⟩ : ByteArray), x8))
end
def cx_PowerOf.f (k : Nat) (a0_0 : Int) (a0_1 : Int) (a0_2 : Int) (a0_3 : ByteArray) (a1 : Int) : Option (Int × Int × Int × ByteArray × Int) := (cx_open.f a0_0 a0_1 a0_2 a0_3).bind fun bt224 => (if bt224.2.2.2 = 0 then (if a1 < (-2147483648) then (cx_PowerOf.j0 k a1 bt224.1 bt224.2.2.2 true bt224.2.1 bt224.2.2.1) else (cx_PowerOf.j0 k a1 bt224.1 bt224.2.2.2 (decide (a1 > 2147483647)) bt224.2.1 bt224.2.2.1)) else (cx_PowerOf.j0 k a1 bt224.1 bt224.2.2.2 false bt224.2.1 bt224.2.2.1))
set_option maxHeartbeats 8000000 in
set_option maxRecDepth 100000 in
theorem cx_PowerOf.calls (k : Nat) (a0_0 : Int) (a0_1 : Int) (a0_2 : Int) (a0_3 : ByteArray) (a1 : Int) (r1 : Int) (r2 : Int) (r3 : Int) (r4 : ByteArray) (r5 : Int) (w : World) (h : cx_PowerOf.f k a0_0 a0_1 a0_2 a0_3 a1 = some (r1, r2, r3, r4, r5)) :
  Calls Tryz.prog 22 #[.agg #[.int .i64 a0_0, .int .u64 a0_1, .int .u64 a0_2, .string a0_3], .int .i64 a1] w fun e w' => e = .returned (.tuple #[.agg #[.int .i64 r1, .int .u64 r2, .int .u64 r3, .string r4], .int .i64 r5]) ∧ Below w.heap.size w w' := by
 have hu24 := Tryz.underlying24
 have hu74 := Tryz.underlying74
 have HB := Aside0.mk (Below.refl w.heap.size w)
 have H : ((cx_open.f a0_0 a0_1 a0_2 a0_3).bind fun bt224 => (if bt224.2.2.2 = 0 then (if a1 < (-2147483648) then (cx_PowerOf.j0 k a1 bt224.1 bt224.2.2.2 true bt224.2.1 bt224.2.2.1) else (cx_PowerOf.j0 k a1 bt224.1 bt224.2.2.2 (decide (a1 > 2147483647)) bt224.2.1 bt224.2.2.1)) else (cx_PowerOf.j0 k a1 bt224.1 bt224.2.2.2 false bt224.2.1 bt224.2.2.1))) = some (r1, r2, r3, r4, r5) := h
 clear h
 replace H := Option.bind_eq_some_iff.mp H
 obtain ⟨⟨t224, t225, t226, t227⟩, A3, H⟩ := H
 try dsimp only at H
 replace A3 := Aside0.mk A3
 have HC4 := Aside0.mk H
 clear H
 go_enter Tryz.func22, Tryz.ntmps22
 go_upto_region 2 with (first | ((with_reducible refine gate_dst (N := 2) rfl ?_); refine bxe 2 (cs := #[.int .i64 a0_0, .int .u64 a0_1, .int .u64 a0_2, .string a0_3]) (t := 24) ?_; intro gb222 hg w5 hbox hb; have BK222 := Aside0.mk hbox; have GW222 := bsz HB hg; have GE222 := bsz HB hg; replace HB := bls HB hb; clear hb hbox hg) | ((with_reducible refine gate_dst (N := 4) rfl ?_); refine bxe 4 (cs := #[.int .i64 0, .int .u64 0, .int .u64 0, .string (⟨#[]⟩ : ByteArray)]) (t := 24) ?_; intro gb223 hg w6 hbox hb; have BK223 := Aside0.mk hbox; have GW223 := bsz HB hg; have GE223 := bsz HB hg; have NB222_223 := bnl BK222 hg; have NB223_222 := bng BK222 hg; replace BK222 := bkb BK222 hb; replace HB := bls HB hb; clear hb hbox hg; have hnb7 := NB222_223.out; have hnc7 := NB223_222.out; have hcz8_0 : w6.cell? ⟨gb222, 0, none⟩ = some (.int .i64 a0_0) := (blk_cell BK222.out 0).trans rfl; have hcz8_1 : w6.cell? ⟨gb222, 1, none⟩ = some (.int .u64 a0_1) := (blk_cell BK222.out 1).trans rfl; have hcz8_2 : w6.cell? ⟨gb222, 2, none⟩ = some (.int .u64 a0_2) := (blk_cell BK222.out 2).trans rfl; have hcz8_3 : w6.cell? ⟨gb222, 3, none⟩ = some (.string a0_3) := (blk_cell BK222.out 3).trans rfl; have hfz8_0 := blk_frozen BK222.out 0; have hfz8_1 := blk_frozen BK222.out 1; have hfz8_2 := blk_frozen BK222.out 2; have hfz8_3 := blk_frozen BK222.out 3) | ((with_reducible refine gate_callee (f := 72) rfl ?_); refine gL 11 Tryz.func72 #[.agg #[.int .i64 a0_0, .int .u64 a0_1, .int .u64 a0_2, .string a0_3]] ?_; (with_reducible refine (cx_open.calls a0_0 a0_1 a0_2 a0_3 t224 t225 t226 t227 _ A3.out).mono ?_); rintro e w9 ⟨rfl, hb⟩; refine ⟨_, rfl, ?_⟩; replace BK222 := bkb BK222 hb; replace BK223 := bkb BK223 hb; replace HB := bls HB hb; clear hb) | ((with_reducible refine gate_dst (N := 7) rfl ?_); refine bxe 7 (cs := #[.int .u64 0, .int .u64 0]) (t := 74) ?_; intro gb228 hg w10 hbox hb; have BK228 := Aside0.mk hbox; have GW228 := bsz HB hg; have GE228 := bsz HB hg; have NB222_228 := bnl BK222 hg; have NB228_222 := bng BK222 hg; have NB223_228 := bnl BK223 hg; have NB228_223 := bng BK223 hg; replace BK222 := bkb BK222 hb; replace BK223 := bkb BK223 hb; replace HB := bls HB hb; clear hb hbox hg; have hnb11 := NB228_222.out; have hnc11 := NB222_228.out; have hnb12 := NB228_223.out; have hnc12 := NB223_228.out; have hcz13_0 : w10.cell? ⟨gb228, 0, none⟩ = some (.int .u64 0) := (blk_cell BK228.out 0).trans rfl; have hcz13_1 : w10.cell? ⟨gb228, 1, none⟩ = some (.int .u64 0) := (blk_cell BK228.out 1).trans rfl; have hfz13_0 := blk_frozen BK228.out 0; have hfz13_1 := blk_frozen BK228.out 1))
 (try simp only [Act.put, List.setIfInBounds_toArray, List.set_cons_zero, List.set_cons_succ])
 go_cut [24] (fun v24 wc => ∃ (kq : Nat) (x24_3 : Bool), v24 = .bool x24_3 ∧ Aside0 (cx_PowerOf.j0 kq a1 t224 t227 x24_3 t225 t226 = some (r1, r2, r3, r4, r5)) ∧ Aside0 (kq ≤ k) ∧ Aside0 (wc.heap[gb222]? = some (.cells #[.int .i64 a0_0, .int .u64 a0_1, .int .u64 a0_2, .string a0_3] 24 (0, 0))) ∧ Aside0 (wc.heap[gb223]? = some (.cells #[.int .i64 0, .int .u64 0, .int .u64 0, .string (⟨#[]⟩ : ByteArray)] 24 (0, 0))) ∧ Aside0 (wc.heap[gb228]? = some (.cells #[.int .u64 t225, .int .u64 t226] 74 (0, 0))) ∧ Aside0 (Below w.heap.size w wc))
 case first =>
  have H := HC4.out
  clear HC4
  by_cases c14 : t227 = 0
  ·rw [if_pos c14] at H
   have c14b0 : (t227 == 0) = true := beq_iff_eq.mpr c14
   have c14b1 : (t227 != 0) = false := bne_eq_false_iff_eq.mpr c14
   clear c14
   (first | rw [c14b0] | (simp only [i64_w, i32_w]; rw [c14b0]) | skip)
   by_cases c15 : a1 < (-2147483648)
   ·rw [if_pos c15] at H
    have c15b0 : decide (a1 < (-2147483648)) = true := decide_eq_true c15
    clear c15
    have H' := Aside0.mk H
    clear H
    go_wp2
    go_meet
    case rel => exact ⟨_, (true), (by first | rfl | (simp; done) | (simp [*]; done)), H', ⟨by first | omega | exact Nat.le_refl _⟩, bkf BK222, bkf BK223, ⟨by (with_reducible repeat (first | refine blk_drewN ?_ _ | refine blk_drew ?_ | refine blk_alloc ?_ _)); refine blk_put (cs := #[.int .u64 t225, .int .u64 0]) ?_ 1 _ rfl; (with_reducible repeat (first | refine blk_drewN ?_ _ | refine blk_drew ?_ | refine blk_alloc ?_ _)); refine blk_put (cs := #[.int .u64 0, .int .u64 0]) ?_ 0 _ rfl; (with_reducible repeat (first | refine blk_drewN ?_ _ | refine blk_drew ?_ | refine blk_alloc ?_ _)); exact BK228.out⟩, blt HB⟩
   ·rw [if_neg c15] at H
    have c15b0 : decide (a1 < (-2147483648)) = false := decide_eq_false c15
    clear c15
    have H' := Aside0.mk H
    clear H
    go_wp2
    go_meet
    case rel => exact ⟨_, (decide (a1 > 2147483647)), (by first | rfl | (simp; done) | (simp [*]; done)), H', ⟨by first | omega | exact Nat.le_refl _⟩, bkf BK222, bkf BK223, ⟨by (with_reducible repeat (first | refine blk_drewN ?_ _ | refine blk_drew ?_ | refine blk_alloc ?_ _)); refine blk_put (cs := #[.int .u64 t225, .int .u64 0]) ?_ 1 _ rfl; (with_reducible repeat (first | refine blk_drewN ?_ _ | refine blk_drew ?_ | refine blk_alloc ?_ _)); refine blk_put (cs := #[.int .u64 0, .int .u64 0]) ?_ 0 _ rfl; (with_reducible repeat (first | refine blk_drewN ?_ _ | refine blk_drew ?_ | refine blk_alloc ?_ _)); exact BK228.out⟩, blt HB⟩
  ·rw [if_neg c14] at H
   have c14b0 : (t227 == 0) = false := beq_eq_false_iff_ne.mpr c14
   have c14b1 : (t227 != 0) = true := bne_iff_ne.mpr c14
   (first | rw [c14b0] | (simp only [i64_w, i32_w]; rw [c14b0]) | skip)
   have H' := Aside0.mk H
   clear H
   go_wp2
   go_meet
   case rel => exact ⟨_, (false), (by first | rfl | (simp; done) | (simp [*]; done)), H', ⟨by first | omega | exact Nat.le_refl _⟩, bkf BK222, bkf BK223, ⟨by (with_reducible repeat (first | refine blk_drewN ?_ _ | refine blk_drew ?_ | refine blk_alloc ?_ _)); refine blk_put (cs := #[.int .u64 t225, .int .u64 0]) ?_ 1 _ rfl; (with_reducible repeat (first | refine blk_drewN ?_ _ | refine blk_drew ?_ | refine blk_alloc ?_ _)); refine blk_put (cs := #[.int .u64 0, .int .u64 0]) ?_ 0 _ rfl; (with_reducible repeat (first | refine blk_drewN ?_ _ | refine blk_drew ?_ | refine blk_alloc ?_ _)); exact BK228.out⟩, blt HB⟩
 case rest =>
  clear HC4
  try clear c1
  try clear c2
  try clear p2
  try clear c7
  try clear c11
  try clear c12
  try clear c14
  try clear c14b0
  try clear c14b1
  try clear c15
  try clear c15b0
  try clear hcz13_0
  try clear hcz13_1
  try clear hcz8_0
  try clear hcz8_1
  try clear hcz8_2
  try clear hcz8_3
  try clear hfz13_0
  try clear hfz13_1
  try clear hfz8_0
  try clear hfz8_1
  try clear hfz8_2
  try clear hfz8_3
  obtain ⟨kq, x24_3, rfl, HA, HJ3, BK222, BK223, BK228, HB⟩ := hcut
  cases kq with
  | zero => exact absurd HA.out (by simp [cx_PowerOf.j0])
  | succ kj3 =>
   have H := HA.out
   clear HA
   simp only [cx_PowerOf.j0] at H
   have HC16 := Aside0.mk H
   clear H
   go_upto_if 24 with (fail)
   go_cut [8] (fun v8 wc => ∃ (kq : Nat) (x8_15 : Int), v8 = .int .i64 x8_15 ∧ Aside0 (cx_PowerOf.j1 kq a1 t224 x8_15 t225 t226 = some (r1, r2, r3, r4, r5)) ∧ Aside0 (kq ≤ kj3) ∧ Aside0 (wc.heap[gb222]? = some (.cells #[.int .i64 a0_0, .int .u64 a0_1, .int .u64 a0_2, .string a0_3] 24 (0, 0))) ∧ Aside0 (wc.heap[gb223]? = some (.cells #[.int .i64 0, .int .u64 0, .int .u64 0, .string (⟨#[]⟩ : ByteArray)] 24 (0, 0))) ∧ Aside0 (wc.heap[gb228]? = some (.cells #[.int .u64 t225, .int .u64 t226] 74 (0, 0))) ∧ Aside0 (Below w.heap.size w wc))
   case first =>
    have H := HC16.out
    clear HC16
    by_cases c17 : x24_3 = true
    ·subst c17
     have H1 : (cx_PowerOf.j1 kj3 a1 t224 2 t225 t226) = some (r1, r2, r3, r4, r5) := by rw [if_pos rfl] at H; exact H
     clear H
     have H := H1
     clear H1
     have H' := Aside0.mk H
     clear H
     go_wp2
     go_meet
     case rel => exact ⟨_, (2), (by first | rfl | (simp; done) | (simp [*]; done)), H', ⟨by have := HJ3.out; first | omega | exact Nat.le_refl _⟩, bks BK222, bks BK223, bks BK228, blt HB⟩
    ·replace c17 := Bool.eq_false_iff.mpr c17
     subst c17
     have H1 : (cx_PowerOf.j1 kj3 a1 t224 t227 t225 t226) = some (r1, r2, r3, r4, r5) := by rw [if_neg (show ¬ (false = true) by decide)] at H; exact H
     clear H
     have H := H1
     clear H1
     have H' := Aside0.mk H
     clear H
     go_wp2
     go_meet
     case rel => exact ⟨_, (t227), (by first | rfl | (simp; done) | (simp [*]; done)), H', ⟨by have := HJ3.out; first | omega | exact Nat.le_refl _⟩, bks BK222, bks BK223, bks BK228, blt HB⟩
   case rest =>
    clear HC16
    try clear c1
    try clear c2
    try clear p2
    try clear c7
    try clear c11
    try clear c12
    try clear c14
    try clear c14b0
    try clear c14b1
    try clear c15
    try clear c15b0
    try clear c17
    try clear hcz13_0
    try clear hcz13_1
    try clear hcz8_0
    try clear hcz8_1
    try clear hcz8_2
    try clear hcz8_3
    try clear hfz13_0
    try clear hfz13_1
    try clear hfz8_0
    try clear hfz8_1
    try clear hfz8_2
    try clear hfz8_3
    try clear p2
    obtain ⟨kq, x8_15, rfl, HA, HJ15, BK222, BK223, BK228, HB⟩ := hcut
    cases kq with
    | zero => exact absurd HA.out (by simp [cx_PowerOf.j1])
    | succ kj15 =>
     have H := HA.out
     clear HA
     simp only [cx_PowerOf.j1] at H
     by_cases c18 : x8_15 = 0
     ·rw [if_pos c18] at H
      have c18b0 : (x8_15 == 0) = true := beq_iff_eq.mpr c18
      have c18b1 : (x8_15 != 0) = false := bne_eq_false_iff_eq.mpr c18
      clear c18
      replace H := Option.bind_eq_some_iff.mp H
      obtain ⟨⟨t229, t230⟩, A19, H⟩ := H
      try dsimp only at H
      replace A19 := Aside0.mk A19
      replace H := Option.bind_eq_some_iff.mp H
      obtain ⟨⟨t231, t232, t233, t234⟩, A20, H⟩ := H
      try dsimp only at H
      replace A20 := Aside0.mk A20
      simp only [Option.some.injEq, Prod.mk.injEq] at H
      obtain ⟨rfl, rfl, rfl, rfl, rfl⟩ := H
      have hnb21 := NB228_222.out
      have hnc21 := NB222_228.out
      have hnb22 := NB228_223.out
      have hnc22 := NB223_228.out
      obtain ⟨hcz23_0, hcz23_1, hfz23_0, hfz23_1⟩ := cf2 BK228
      go_wp2_with (first | ((with_reducible refine gate_callee (f := 73) rfl ?_); refine gL 33 Tryz.func73 #[.int .i64 t224, .agg #[.int .u64 t225, .int .u64 t226], .int .i64 a1] ?_; (with_reducible refine (fd_power.calls kj15 t224 t225 t226 a1 t229 t230 _ A19.out).mono ?_); rintro e w24 ⟨rfl, hb⟩; refine ⟨_, rfl, ?_⟩; replace BK222 := bkb BK222 hb; replace BK223 := bkb BK223 hb; replace BK228 := bkb BK228 hb; replace HB := bls HB hb; clear hb) | ((with_reducible refine gate_callee (f := 57) rfl ?_); refine gL 34 Tryz.func57 #[.int .i64 t224, .agg #[.int .u64 t229, .int .u64 t230]] ?_; (with_reducible refine (fd_value.calls t224 t229 t230 t231 t232 t233 t234 _ A20.out).mono ?_); rintro e w25 ⟨rfl, hb⟩; refine ⟨_, rfl, ?_⟩; replace BK222 := bkb BK222 hb; replace BK223 := bkb BK223 hb; replace BK228 := bkb BK228 hb; replace HB := bls HB hb; clear hb; have hnb26 := NB223_222.out; have hnc26 := NB222_223.out; have hcz27_0 : w25.cell? ⟨gb223, 0, none⟩ = some (.int .i64 0) := (blk_cell BK223.out 0).trans rfl; have hcz27_1 : w25.cell? ⟨gb223, 1, none⟩ = some (.int .u64 0) := (blk_cell BK223.out 1).trans rfl; have hcz27_2 : w25.cell? ⟨gb223, 2, none⟩ = some (.int .u64 0) := (blk_cell BK223.out 2).trans rfl; have hcz27_3 : w25.cell? ⟨gb223, 3, none⟩ = some (.string (⟨#[]⟩ : ByteArray)) := (blk_cell BK223.out 3).trans rfl; have hfz27_0 := blk_frozen BK223.out 0; have hfz27_1 := blk_frozen BK223.out 1; have hfz27_2 := blk_frozen BK223.out 2; have hfz27_3 := blk_frozen BK223.out 3))
      refine bodyPost_ret (results_ct rfl _ _ gb223 24 #[.int .i64 t231, .int .u64 t232, .int .u64 t233, .string t234] (0, 0) _ rfl (by (with_reducible repeat (first | refine blk_drewN ?_ _ | refine blk_drew ?_ | refine blk_alloc ?_ _)); refine blk_put (cs := #[.int .i64 t231, .int .u64 t232, .int .u64 t233, .string (⟨#[]⟩ : ByteArray)]) ?_ 3 _ rfl; (with_reducible repeat (first | refine blk_drewN ?_ _ | refine blk_drew ?_ | refine blk_alloc ?_ _)); refine blk_put (cs := #[.int .i64 t231, .int .u64 t232, .int .u64 0, .string (⟨#[]⟩ : ByteArray)]) ?_ 2 _ rfl; (with_reducible repeat (first | refine blk_drewN ?_ _ | refine blk_drew ?_ | refine blk_alloc ?_ _)); refine blk_put (cs := #[.int .i64 t231, .int .u64 0, .int .u64 0, .string (⟨#[]⟩ : ByteArray)]) ?_ 1 _ rfl; (with_reducible repeat (first | refine blk_drewN ?_ _ | refine blk_drew ?_ | refine blk_alloc ?_ _)); refine blk_put (cs := #[.int .i64 0, .int .u64 0, .int .u64 0, .string (⟨#[]⟩ : ByteArray)]) ?_ 0 _ rfl; (with_reducible repeat (first | refine blk_drewN ?_ _ | refine blk_drew ?_ | refine blk_alloc ?_ _)); exact BK223.out) Tryz.underlying24 rfl (by kernel_rfl)) rfl ?_
      exact ⟨by first | rfl | (simp [errW_none, errW_some] <;> rfl) | (simp [*, errW_none, errW_some] <;> rfl), (blt HB).out⟩
     ·rw [if_neg c18] at H
      have c18b0 : (x8_15 == 0) = false := beq_eq_false_iff_ne.mpr c18
      have c18b1 : (x8_15 != 0) = true := bne_iff_ne.mpr c18
      simp only [Option.some.injEq, Prod.mk.injEq] at H
      obtain ⟨rfl, rfl, rfl, rfl, rfl⟩ := H
      have hnb28 := NB223_222.out
      have hnc28 := NB222_223.out
      have hnb29 := NB223_228.out
      have hnc29 := NB228_223.out
      obtain ⟨hcz30_0, hcz30_1, hcz30_2, hcz30_3, hfz30_0, hfz30_1, hfz30_2, hfz30_3⟩ := cf4 BK223
      go_wp2
      refine bodyPost_ret (results_ct rfl _ _ gb223 24 #[.int .i64 0, .int .u64 0, .int .u64 0, .string (⟨#[]⟩ : ByteArray)] (0, 0) _ rfl (by (with_reducible repeat (first | refine blk_drewN ?_ _ | refine blk_drew ?_ | refine blk_alloc ?_ _)); refine blk_put (cs := #[.int .i64 0, .int .u64 0, .int .u64 0, .string (⟨#[]⟩ : ByteArray)]) ?_ 3 _ rfl; (with_reducible repeat (first | refine blk_drewN ?_ _ | refine blk_drew ?_ | refine blk_alloc ?_ _)); refine blk_put (cs := #[.int .i64 0, .int .u64 0, .int .u64 0, .string (⟨#[]⟩ : ByteArray)]) ?_ 2 _ rfl; (with_reducible repeat (first | refine blk_drewN ?_ _ | refine blk_drew ?_ | refine blk_alloc ?_ _)); refine blk_put (cs := #[.int .i64 0, .int .u64 0, .int .u64 0, .string (⟨#[]⟩ : ByteArray)]) ?_ 1 _ rfl; (with_reducible repeat (first | refine blk_drewN ?_ _ | refine blk_drew ?_ | refine blk_alloc ?_ _)); refine blk_put (cs := #[.int .i64 0, .int .u64 0, .int .u64 0, .string (⟨#[]⟩ : ByteArray)]) ?_ 0 _ rfl; (with_reducible repeat (first | refine blk_drewN ?_ _ | refine blk_drew ?_ | refine blk_alloc ?_ _)); exact BK223.out) Tryz.underlying24 rfl (by kernel_rfl)) rfl ?_
      exact ⟨by first | rfl | (simp [errW_none, errW_some] <;> rfl) | (simp [*, errW_none, errW_some] <;> rfl), (blt HB).out⟩
def cx_SizeOf.f (k : Nat) (a0_0 : Int) (a0_1 : Int) (a0_2 : Int) (a0_3 : ByteArray) : Option (Int × Int × Int × ByteArray × Int) := (cx_open.f a0_0 a0_1 a0_2 a0_3).bind fun bt237 => (if bt237.2.2.2 = 0 then ((fd_distance.f k bt237.1 bt237.2.1 bt237.2.2.1).bind fun t242 => (some (bt237.1, t242, 0, (⟨#[]⟩ : ByteArray), 0))) else (some (0, 0, 0, (⟨#[]⟩ : ByteArray), bt237.2.2.2)))
set_option maxHeartbeats 8000000 in
set_option maxRecDepth 100000 in
theorem cx_SizeOf.calls (k : Nat) (a0_0 : Int) (a0_1 : Int) (a0_2 : Int) (a0_3 : ByteArray) (r1 : Int) (r2 : Int) (r3 : Int) (r4 : ByteArray) (r5 : Int) (w : World) (h : cx_SizeOf.f k a0_0 a0_1 a0_2 a0_3 = some (r1, r2, r3, r4, r5)) :
  Calls Tryz.prog 26 #[.agg #[.int .i64 a0_0, .int .u64 a0_1, .int .u64 a0_2, .string a0_3]] w fun e w' => e = .returned (.tuple #[.agg #[.int .i64 r1, .int .u64 r2, .int .u64 r3, .string r4], .int .i64 r5]) ∧ Below w.heap.size w w' := by
 have hu24 := Tryz.underlying24
 have hu74 := Tryz.underlying74
 have HB := Aside0.mk (Below.refl w.heap.size w)
 have H : ((cx_open.f a0_0 a0_1 a0_2 a0_3).bind fun bt237 => (if bt237.2.2.2 = 0 then ((fd_distance.f k bt237.1 bt237.2.1 bt237.2.2.1).bind fun t242 => (some (bt237.1, t242, 0, (⟨#[]⟩ : ByteArray), 0))) else (some (0, 0, 0, (⟨#[]⟩ : ByteArray), bt237.2.2.2)))) = some (r1, r2, r3, r4, r5) := h
 clear h
 replace H := Option.bind_eq_some_iff.mp H
 obtain ⟨⟨t237, t238, t239, t240⟩, A2, H⟩ := H
 try dsimp only at H
 replace A2 := Aside0.mk A2
 by_cases c3 : t240 = 0
 ·rw [if_pos c3] at H
  have c3b0 : (t240 == 0) = true := beq_iff_eq.mpr c3
  have c3b1 : (t240 != 0) = false := bne_eq_false_iff_eq.mpr c3
  clear c3
  replace H := Option.bind_eq_some_iff.mp H
  obtain ⟨t242, A4, H⟩ := H
  try dsimp only at H
  replace A4 := Aside0.mk A4
  simp only [Option.some.injEq, Prod.mk.injEq] at H
  obtain ⟨rfl, rfl, rfl, rfl, rfl⟩ := H
  go_enter Tryz.func26, Tryz.ntmps26
  go_wp2_with (first | ((with_reducible refine gate_dst (N := 1) rfl ?_); refine bxe 1 (cs := #[.int .i64 a0_0, .int .u64 a0_1, .int .u64 a0_2, .string a0_3]) (t := 24) ?_; intro gb235 hg w5 hbox hb; have BK235 := Aside0.mk hbox; have GW235 := bsz HB hg; have GE235 := bsz HB hg; replace HB := bls HB hb; clear hb hbox hg) | ((with_reducible refine gate_dst (N := 2) rfl ?_); refine bxe 2 (cs := #[.int .i64 0, .int .u64 0, .int .u64 0, .string (⟨#[]⟩ : ByteArray)]) (t := 24) ?_; intro gb236 hg w6 hbox hb; have BK236 := Aside0.mk hbox; have GW236 := bsz HB hg; have GE236 := bsz HB hg; have NB235_236 := bnl BK235 hg; have NB236_235 := bng BK235 hg; replace BK235 := bkb BK235 hb; replace HB := bls HB hb; clear hb hbox hg; have hnb7 := NB235_236.out; have hnc7 := NB236_235.out; have hcz8_0 : w6.cell? ⟨gb235, 0, none⟩ = some (.int .i64 a0_0) := (blk_cell BK235.out 0).trans rfl; have hcz8_1 : w6.cell? ⟨gb235, 1, none⟩ = some (.int .u64 a0_1) := (blk_cell BK235.out 1).trans rfl; have hcz8_2 : w6.cell? ⟨gb235, 2, none⟩ = some (.int .u64 a0_2) := (blk_cell BK235.out 2).trans rfl; have hcz8_3 : w6.cell? ⟨gb235, 3, none⟩ = some (.string a0_3) := (blk_cell BK235.out 3).trans rfl; have hfz8_0 := blk_frozen BK235.out 0; have hfz8_1 := blk_frozen BK235.out 1; have hfz8_2 := blk_frozen BK235.out 2; have hfz8_3 := blk_frozen BK235.out 3) | ((with_reducible refine gate_callee (f := 72) rfl ?_); refine gL 9 Tryz.func72 #[.agg #[.int .i64 a0_0, .int .u64 a0_1, .int .u64 a0_2, .string a0_3]] ?_; (with_reducible refine (cx_open.calls a0_0 a0_1 a0_2 a0_3 t237 t238 t239 t240 _ A2.out).mono ?_); rintro e w9 ⟨rfl, hb⟩; refine ⟨_, rfl, ?_⟩; replace BK235 := bkb BK235 hb; replace BK236 := bkb BK236 hb; replace HB := bls HB hb; clear hb) | ((with_reducible refine gate_dst (N := 5) rfl ?_); refine bxe 5 (cs := #[.int .u64 0, .int .u64 0]) (t := 74) ?_; intro gb241 hg w10 hbox hb; have BK241 := Aside0.mk hbox; have GW241 := bsz HB hg; have GE241 := bsz HB hg; have NB235_241 := bnl BK235 hg; have NB241_235 := bng BK235 hg; have NB236_241 := bnl BK236 hg; have NB241_236 := bng BK236 hg; replace BK235 := bkb BK235 hb; replace BK236 := bkb BK236 hb; replace HB := bls HB hb; clear hb hbox hg; have hnb11 := NB241_235.out; have hnc11 := NB235_241.out; have hnb12 := NB241_236.out; have hnc12 := NB236_241.out; have hcz13_0 : w10.cell? ⟨gb241, 0, none⟩ = some (.int .u64 0) := (blk_cell BK241.out 0).trans rfl; have hcz13_1 : w10.cell? ⟨gb241, 1, none⟩ = some (.int .u64 0) := (blk_cell BK241.out 1).trans rfl; have hfz13_0 := blk_frozen BK241.out 0; have hfz13_1 := blk_frozen BK241.out 1) | ((with_reducible refine gate_callee (f := 79) rfl ?_); refine gL 20 Tryz.func79 #[.int .i64 t237, .agg #[.int .u64 t238, .int .u64 t239]] ?_; (with_reducible refine (fd_distance.calls k t237 t238 t239 t242 _ A4.out).mono ?_); rintro e w14 ⟨rfl, hb⟩; refine ⟨_, rfl, ?_⟩; replace BK235 := Aside0.mk (blk_below (g := gb235) (o := .cells #[.int .i64 a0_0, .int .u64 a0_1, .int .u64 a0_2, .string a0_3] 24 (0, 0)) (bkf BK235).out hb); replace BK236 := Aside0.mk (blk_below (g := gb236) (o := .cells #[.int .i64 0, .int .u64 0, .int .u64 0, .string (⟨#[]⟩ : ByteArray)] 24 (0, 0)) (bkf BK236).out hb); replace BK241 := Aside0.mk (blk_below (g := gb241) (o := .cells #[.int .u64 t238, .int .u64 t239] 74 (0, 0)) (by (with_reducible repeat (first | refine blk_drewN ?_ _ | refine blk_drew ?_ | refine blk_alloc ?_ _)); refine blk_put (cs := #[.int .u64 t238, .int .u64 0]) ?_ 1 _ rfl; (with_reducible repeat (first | refine blk_drewN ?_ _ | refine blk_drew ?_ | refine blk_alloc ?_ _)); refine blk_put (cs := #[.int .u64 0, .int .u64 0]) ?_ 0 _ rfl; (with_reducible repeat (first | refine blk_drewN ?_ _ | refine blk_drew ?_ | refine blk_alloc ?_ _)); exact BK241.out) hb); replace HB := bls HB hb; clear hb; have hcz15_0 : w14.cell? ⟨gb236, 0, none⟩ = some (.int .i64 0) := (blk_cell BK236.out 0).trans rfl; have hcz15_1 : w14.cell? ⟨gb236, 1, none⟩ = some (.int .u64 0) := (blk_cell BK236.out 1).trans rfl; have hcz15_2 : w14.cell? ⟨gb236, 2, none⟩ = some (.int .u64 0) := (blk_cell BK236.out 2).trans rfl; have hcz15_3 : w14.cell? ⟨gb236, 3, none⟩ = some (.string (⟨#[]⟩ : ByteArray)) := (blk_cell BK236.out 3).trans rfl; have hfz15_0 := blk_frozen BK236.out 0; have hfz15_1 := blk_frozen BK236.out 1; have hfz15_2 := blk_frozen BK236.out 2; have hfz15_3 := blk_frozen BK236.out 3))
  refine bodyPost_ret (results_ct rfl _ _ gb236 24 #[.int .i64 t237, .int .u64 t242, .int .u64 0, .string (⟨#[]⟩ : ByteArray)] (0, 0) _ rfl (by (with_reducible repeat (first | refine blk_drewN ?_ _ | refine blk_drew ?_ | refine blk_alloc ?_ _)); refine blk_put (cs := #[.int .i64 t237, .int .u64 t242, .int .u64 0, .string (⟨#[]⟩ : ByteArray)]) ?_ 3 _ rfl; (with_reducible repeat (first | refine blk_drewN ?_ _ | refine blk_drew ?_ | refine blk_alloc ?_ _)); refine blk_put (cs := #[.int .i64 t237, .int .u64 t242, .int .u64 0, .string (⟨#[]⟩ : ByteArray)]) ?_ 2 _ rfl; (with_reducible repeat (first | refine blk_drewN ?_ _ | refine blk_drew ?_ | refine blk_alloc ?_ _)); refine blk_put (cs := #[.int .i64 t237, .int .u64 0, .int .u64 0, .string (⟨#[]⟩ : ByteArray)]) ?_ 1 _ rfl; (with_reducible repeat (first | refine blk_drewN ?_ _ | refine blk_drew ?_ | refine blk_alloc ?_ _)); refine blk_put (cs := #[.int .i64 0, .int .u64 0, .int .u64 0, .string (⟨#[]⟩ : ByteArray)]) ?_ 0 _ rfl; (with_reducible repeat (first | refine blk_drewN ?_ _ | refine blk_drew ?_ | refine blk_alloc ?_ _)); exact BK236.out) Tryz.underlying24 rfl (by kernel_rfl)) rfl ?_
  exact ⟨by first | rfl | (simp [errW_none, errW_some] <;> rfl) | (simp [*, errW_none, errW_some] <;> rfl), (blt HB).out⟩
 ·rw [if_neg c3] at H
  have c3b0 : (t240 == 0) = false := beq_eq_false_iff_ne.mpr c3
  have c3b1 : (t240 != 0) = true := bne_iff_ne.mpr c3
  simp only [Option.some.injEq, Prod.mk.injEq] at H
  obtain ⟨rfl, rfl, rfl, rfl, rfl⟩ := H
  go_enter Tryz.func26, Tryz.ntmps26
  go_wp2_with (first | ((with_reducible refine gate_dst (N := 1) rfl ?_); refine bxe 1 (cs := #[.int .i64 a0_0, .int .u64 a0_1, .int .u64 a0_2, .string a0_3]) (t := 24) ?_; intro gb235 hg w16 hbox hb; have BK235 := Aside0.mk hbox; have GW235 := bsz HB hg; have GE235 := bsz HB hg; replace HB := bls HB hb; clear hb hbox hg) | ((with_reducible refine gate_dst (N := 2) rfl ?_); refine bxe 2 (cs := #[.int .i64 0, .int .u64 0, .int .u64 0, .string (⟨#[]⟩ : ByteArray)]) (t := 24) ?_; intro gb236 hg w17 hbox hb; have BK236 := Aside0.mk hbox; have GW236 := bsz HB hg; have GE236 := bsz HB hg; have NB235_236 := bnl BK235 hg; have NB236_235 := bng BK235 hg; replace BK235 := bkb BK235 hb; replace HB := bls HB hb; clear hb hbox hg; have hnb18 := NB235_236.out; have hnc18 := NB236_235.out; have hcz19_0 : w17.cell? ⟨gb235, 0, none⟩ = some (.int .i64 a0_0) := (blk_cell BK235.out 0).trans rfl; have hcz19_1 : w17.cell? ⟨gb235, 1, none⟩ = some (.int .u64 a0_1) := (blk_cell BK235.out 1).trans rfl; have hcz19_2 : w17.cell? ⟨gb235, 2, none⟩ = some (.int .u64 a0_2) := (blk_cell BK235.out 2).trans rfl; have hcz19_3 : w17.cell? ⟨gb235, 3, none⟩ = some (.string a0_3) := (blk_cell BK235.out 3).trans rfl; have hfz19_0 := blk_frozen BK235.out 0; have hfz19_1 := blk_frozen BK235.out 1; have hfz19_2 := blk_frozen BK235.out 2; have hfz19_3 := blk_frozen BK235.out 3) | ((with_reducible refine gate_callee (f := 72) rfl ?_); refine gL 9 Tryz.func72 #[.agg #[.int .i64 a0_0, .int .u64 a0_1, .int .u64 a0_2, .string a0_3]] ?_; (with_reducible refine (cx_open.calls a0_0 a0_1 a0_2 a0_3 t237 t238 t239 t240 _ A2.out).mono ?_); rintro e w20 ⟨rfl, hb⟩; refine ⟨_, rfl, ?_⟩; replace BK235 := bkb BK235 hb; replace BK236 := bkb BK236 hb; replace HB := bls HB hb; clear hb) | ((with_reducible refine gate_dst (N := 5) rfl ?_); refine bxe 5 (cs := #[.int .u64 0, .int .u64 0]) (t := 74) ?_; intro gb241 hg w21 hbox hb; have BK241 := Aside0.mk hbox; have GW241 := bsz HB hg; have GE241 := bsz HB hg; have NB235_241 := bnl BK235 hg; have NB241_235 := bng BK235 hg; have NB236_241 := bnl BK236 hg; have NB241_236 := bng BK236 hg; replace BK235 := bkb BK235 hb; replace BK236 := bkb BK236 hb; replace HB := bls HB hb; clear hb hbox hg; have hnb22 := NB241_235.out; have hnc22 := NB235_241.out; have hnb23 := NB241_236.out; have hnc23 := NB236_241.out; obtain ⟨hcz24_0, hcz24_1, hfz24_0, hfz24_1⟩ := cf2 BK241; have hcz25_0 : w21.cell? ⟨gb236, 0, none⟩ = some (.int .i64 0) := (blk_cell BK236.out 0).trans rfl; have hcz25_1 : w21.cell? ⟨gb236, 1, none⟩ = some (.int .u64 0) := (blk_cell BK236.out 1).trans rfl; have hcz25_2 : w21.cell? ⟨gb236, 2, none⟩ = some (.int .u64 0) := (blk_cell BK236.out 2).trans rfl; have hcz25_3 : w21.cell? ⟨gb236, 3, none⟩ = some (.string (⟨#[]⟩ : ByteArray)) := (blk_cell BK236.out 3).trans rfl; have hfz25_0 := blk_frozen BK236.out 0; have hfz25_1 := blk_frozen BK236.out 1; have hfz25_2 := blk_frozen BK236.out 2; have hfz25_3 := blk_frozen BK236.out 3))
  refine bodyPost_ret (results_ct rfl _ _ gb236 24 #[.int .i64 0, .int .u64 0, .int .u64 0, .string (⟨#[]⟩ : ByteArray)] (0, 0) _ rfl (by (with_reducible repeat (first | refine blk_drewN ?_ _ | refine blk_drew ?_ | refine blk_alloc ?_ _)); refine blk_put (cs := #[.int .i64 0, .int .u64 0, .int .u64 0, .string (⟨#[]⟩ : ByteArray)]) ?_ 3 _ rfl; (with_reducible repeat (first | refine blk_drewN ?_ _ | refine blk_drew ?_ | refine blk_alloc ?_ _)); refine blk_put (cs := #[.int .i64 0, .int .u64 0, .int .u64 0, .string (⟨#[]⟩ : ByteArray)]) ?_ 2 _ rfl; (with_reducible repeat (first | refine blk_drewN ?_ _ | refine blk_drew ?_ | refine blk_alloc ?_ _)); refine blk_put (cs := #[.int .i64 0, .int .u64 0, .int .u64 0, .string (⟨#[]⟩ : ByteArray)]) ?_ 1 _ rfl; (with_reducible repeat (first | refine blk_drewN ?_ _ | refine blk_drew ?_ | refine blk_alloc ?_ _)); refine blk_put (cs := #[.int .i64 0, .int .u64 0, .int .u64 0, .string (⟨#[]⟩ : ByteArray)]) ?_ 0 _ rfl; (with_reducible repeat (first | refine blk_drewN ?_ _ | refine blk_drew ?_ | refine blk_alloc ?_ _)); refine blk_far ?_ NB236_241.out _; (with_reducible repeat (first | refine blk_drewN ?_ _ | refine blk_drew ?_ | refine blk_alloc ?_ _)); refine blk_far ?_ NB236_241.out _; (with_reducible repeat (first | refine blk_drewN ?_ _ | refine blk_drew ?_ | refine blk_alloc ?_ _)); exact BK236.out) Tryz.underlying24 rfl (by kernel_rfl)) rfl ?_
  exact ⟨by first | rfl | (simp [errW_none, errW_some] <;> rfl) | (simp [*, errW_none, errW_some] <;> rfl), (blt HB).out⟩
end Go.Proofs.YtmoimcblmmcffaaGreat.PPC

namespace Go.Proofs.YtmoimcblmmcffaaGreat.PPC
open Go.RowKit Go.Proofs.YtmoimcblmmcffaaGreatW.PrintWords Go.Proofs.YtmoimcblmmcffaaGreatW.PrintLast Go.Proofs.YtmoimcblmmcffaaGreatW.PrintMore Go.Proofs.YtmoimcblmmcffaaGreatW.PrintZ
attribute [local go_sem] max2_int min2_int max_two min_two max_three min_three max_four min_four   -- for this text's walks alone
set_option linter.unusedVariables false
set_option linter.unusedSimpArgs false


mutual
def cx_list.l0 : Nat → Int → List (S74) → List (S24) → Int → Int → Option ((List (S74)) × Int)
 | 0, _, _, _, _, _ => none
 | k + 1, x0, x6, x12, x13, x14 => if x14 < x13 then (if 0 ≤ x14 then (if x14 < (x12.length : Int) then ((cx_open.f ((rd_T24 x12 x14).f0) ((rd_T24 x12 x14).f1) ((rd_T24 x12 x14).f2) ((rd_T24 x12 x14).f3)).bind fun bt245 => (if bt245.2.2.2 = 0 then (cx_list.j1 k x0 x6 bt245.2.2.2 x12 x13 x14 (((rd_T24 x12 x14).f0) != x0) bt245.2.1 bt245.2.2.1) else (cx_list.j1 k x0 x6 bt245.2.2.2 x12 x13 x14 false bt245.2.1 bt245.2.2.1))) else (none)) else (none)) else (some (x6, 0))
def cx_list.j1 : Nat → Int → List (S74) → Int → List (S24) → Int → Int → Bool → Int → Int → Option ((List (S74)) × Int)
 | 0, _, _, _, _, _, _, _, _, _ => none
 | k + 1, x0, x6, x11, x12, x13, x14, x31, x250000, x250001 => if x31 = true then (if 27 = 0 then (if x6.length < 8796093022208 then (cx_list.l0 k x0 (x6 ++ [(⟨x250000, x250001⟩ : S74)]) x12 x13 (wrap64 (x14 + 1))) else (none)) else (some (([] : List (S74)), 27))) else (if x11 = 0 then (if x6.length < 8796093022208 then (cx_list.l0 k x0 (x6 ++ [(⟨x250000, x250001⟩ : S74)]) x12 x13 (wrap64 (x14 + 1))) else (none)) else (some (([] : List (S74)), x11)))
end
def cx_list.f (k : Nat) (a0 : Int) (l1 : List (S24)) : Option ((List (S74)) × Int) := cx_list.l0 k a0 ([] : List (S74)) l1 (l1.length : Int) 0
set_option maxHeartbeats 8000000 in
set_option maxRecDepth 100000 in
theorem cx_list.calls (k : Nat) (a0 : Int) (A1 : Option Addr) (c1 : Nat) (l1 : List (S24)) (r1 : List (S74)) (r2 : Int) (w : World) (hr1 : Kd.C k24 w A1 l1.length l1) (hc1 : l1.length ≤ c1) (h : cx_list.f k a0 l1 = some (r1, r2)) :
  Calls Tryz.prog 89 #[.int .i64 a0, .slice A1 l1.length c1] w fun e w' => ∃ v0_ : Value, e = .returned (.tuple #[v0_, .int .i64 r2]) ∧ Kd.R k74 74 w' w.heap.size (fun _ => True) v0_ r1 ∧ Below w.heap.size w w' := by
 have hu24 := Tryz.underlying24
 have hu74 := Tryz.underlying74
 have HR1 := Aside0.mk hr1
 have HC1 := Aside0.mk hc1
 clear hr1 hc1
 have HB := Aside0.mk (Below.refl w.heap.size w)
 have H : (cx_list.l0 k a0 ([] : List (S74)) l1 (l1.length : Int) 0) = some (r1, r2) := h
 clear h
 have H' := Aside0.mk H
 clear H
 go_enter Tryz.func89, Tryz.ntmps89
 go_wp2
 go_loopg [6, 14] k (fun kq v6 v14 w' => ∃ (x6_1 : List (S74)) (x14_1 : Int), v14 = .int .i64 x14_1 ∧ Aside0 (cx_list.l0 kq a0 x6_1 l1 (l1.length : Int) x14_1 = some (r1, r2)) ∧ Aside0 (kq ≤ k) ∧ Aside0 (Kd.R k74 74 w' w.heap.size (fun _ => True) v6 x6_1) ∧ Aside0 (Below w.heap.size w w'))
 case atStart => exact ⟨(([] : List (S74))), (0), (by first | rfl | (simp; done) | (simp [*]; done)), H', ⟨Nat.le_refl _⟩, ⟨by first | exact Kd.R_nil _ _ _ _ _ | exact Kd.N_nil _ _ _ _ _ | exact Kd.V_nil _ _ _ _ _ | exact Kd.Q_nil _ _ _ _ _ | exact Kd.S_nil _ _ _ _ _⟩, blt HB⟩
 case round =>
  clear H'
  try clear c1
  try clear p2
  obtain ⟨x6_1, x14_1, rfl, HA, HK1, HO_6, HB⟩ := hrel
  cases gk with
  | zero => exact absurd HA.out (by simp [cx_list.l0])
  | succ k1 =>
   have H := HA.out
   clear HA
   simp only [cx_list.l0] at H
   by_cases c3 : x14_1 < (l1.length : Int)
   ·rw [if_pos c3] at H
    have c3b0 : decide (x14_1 < (l1.length : Int)) = true := decide_eq_true c3
    clear c3
    by_cases c4 : 0 ≤ x14_1
    ·rw [if_pos c4] at H
     have c4b0 : decide (0 ≤ x14_1) = true := decide_eq_true c4
     clear c4
     by_cases c5 : x14_1 < (l1.length : Int)
     ·rw [if_pos c5] at H
      have c5b0 : decide (x14_1 < (l1.length : Int)) = true := decide_eq_true c5
      clear c5
      replace H := Option.bind_eq_some_iff.mp H
      obtain ⟨⟨t245, t246, t247, t248⟩, A6, H⟩ := H
      try dsimp only at H
      replace A6 := Aside0.mk A6
      have HC7 := Aside0.mk H
      clear H
      have p243 : 0 ≤ (x14_1 : Int) := of_decide_eq_true (by first | (with_reducible assumption) | assumption)
      have q243 : x14_1 < (l1.length : Int) := of_decide_eq_true (by first | (with_reducible assumption) | assumption)
      obtain ⟨ad243, e243, hx243_0, hx243_1, hx243_2, hx243_3⟩ := at_T24 HR1.out x14_1 p243 q243
      cases e243
      replace hx243_0 := (HB.out.cell (World.block_lt_of_cell? w _ hx243_0)).trans hx243_0
      replace hx243_1 := (HB.out.cell (World.block_lt_of_cell? w _ hx243_1)).trans hx243_1
      replace hx243_2 := (HB.out.cell (World.block_lt_of_cell? w _ hx243_2)).trans hx243_2
      replace hx243_3 := (HB.out.cell (World.block_lt_of_cell? w _ hx243_3)).trans hx243_3
      replace p243 := eq_true p243
      replace q243 := eq_true q243
      go_upto_region 6 with (first | ((with_reducible refine gate_dst (N := 8) rfl ?_); refine bxe 8 (cs := #[.int .i64 0, .int .u64 0, .int .u64 0, .string (⟨#[]⟩ : ByteArray)]) (t := 24) ?_; intro gb244 hg w8 hbox hb; have BK244 := Aside0.mk hbox; have GW244 := bsz HB hg; have GE244 := bsz HB hg; replace HO_6 := Aside0.mk (Kd.R_below (by (with_reducible repeat (first | apply Kd.R_alloc | apply Kd.R_drewN | apply Kd.R_drew)); exact HO_6.out) hb); replace HB := bls HB hb; clear hb hbox hg; have hcz9_0 : w8.cell? ⟨gb244, 0, none⟩ = some (.int .i64 0) := (blk_cell BK244.out 0).trans rfl; have hcz9_1 : w8.cell? ⟨gb244, 1, none⟩ = some (.int .u64 0) := (blk_cell BK244.out 1).trans rfl; have hcz9_2 : w8.cell? ⟨gb244, 2, none⟩ = some (.int .u64 0) := (blk_cell BK244.out 2).trans rfl; have hcz9_3 : w8.cell? ⟨gb244, 3, none⟩ = some (.string (⟨#[]⟩ : ByteArray)) := (blk_cell BK244.out 3).trans rfl; have hfz9_0 := blk_frozen BK244.out 0; have hfz9_1 := blk_frozen BK244.out 1; have hfz9_2 := blk_frozen BK244.out 2; have hfz9_3 := blk_frozen BK244.out 3) | ((with_reducible refine gate_callee (f := 72) rfl ?_); refine gL 20 Tryz.func72 #[.agg #[.int .i64 ((rd_T24 l1 x14_1).f0), .int .u64 ((rd_T24 l1 x14_1).f1), .int .u64 ((rd_T24 l1 x14_1).f2), .string ((rd_T24 l1 x14_1).f3)]] ?_; (with_reducible refine (cx_open.calls ((rd_T24 l1 x14_1).f0) ((rd_T24 l1 x14_1).f1) ((rd_T24 l1 x14_1).f2) ((rd_T24 l1 x14_1).f3) t245 t246 t247 t248 _ A6.out).mono ?_); rintro e w10 ⟨rfl, hb⟩; refine ⟨_, rfl, ?_⟩; replace HO_6 := Aside0.mk (Kd.R_below (by (with_reducible repeat (first | apply Kd.R_alloc | apply Kd.R_drewN | apply Kd.R_drew)); exact (Kd.R_mono (Kd.R_far (p := ⟨gb244, 3, none⟩) (Kd.R_far (p := ⟨gb244, 2, none⟩) (Kd.R_far (p := ⟨gb244, 1, none⟩) (Kd.R_far (p := ⟨gb244, 0, none⟩) (Kd.R_types HO_6.out BK244.out (by decide)) (fun _ hk => hk.2) (.int .i64 ((rd_T24 l1 x14_1).f0))) (fun _ hk => hk.2) (.int .u64 ((rd_T24 l1 x14_1).f1))) (fun _ hk => hk.2) (.int .u64 ((rd_T24 l1 x14_1).f2))) (fun _ hk => hk.2) (.string ((rd_T24 l1 x14_1).f3))) (fun _ h_ => h_.1))) hb); replace BK244 := Aside0.mk (blk_below (g := gb244) (o := .cells #[.int .i64 ((rd_T24 l1 x14_1).f0), .int .u64 ((rd_T24 l1 x14_1).f1), .int .u64 ((rd_T24 l1 x14_1).f2), .string ((rd_T24 l1 x14_1).f3)] 24 (0, 0)) (by (with_reducible repeat (first | refine blk_drewN ?_ _ | refine blk_drew ?_ | refine blk_alloc ?_ _)); refine blk_put (cs := #[.int .i64 ((rd_T24 l1 x14_1).f0), .int .u64 ((rd_T24 l1 x14_1).f1), .int .u64 ((rd_T24 l1 x14_1).f2), .string (⟨#[]⟩ : ByteArray)]) ?_ 3 _ rfl; (with_reducible repeat (first | refine blk_drewN ?_ _ | refine blk_drew ?_ | refine blk_alloc ?_ _)); refine blk_put (cs := #[.int .i64 ((rd_T24 l1 x14_1).f0), .int .u64 ((rd_T24 l1 x14_1).f1), .int .u64 0, .string (⟨#[]⟩ : ByteArray)]) ?_ 2 _ rfl; (with_reducible repeat (first | refine blk_drewN ?_ _ | refine blk_drew ?_ | refine blk_alloc ?_ _)); refine blk_put (cs := #[.int .i64 ((rd_T24 l1 x14_1).f0), .int .u64 0, .int .u64 0, .string (⟨#[]⟩ : ByteArray)]) ?_ 1 _ rfl; (with_reducible repeat (first | refine blk_drewN ?_ _ | refine blk_drew ?_ | refine blk_alloc ?_ _)); refine blk_put (cs := #[.int .i64 0, .int .u64 0, .int .u64 0, .string (⟨#[]⟩ : ByteArray)]) ?_ 0 _ rfl; (with_reducible repeat (first | refine blk_drewN ?_ _ | refine blk_drew ?_ | refine blk_alloc ?_ _)); exact BK244.out) hb); replace HB := bls HB hb; clear hb) | ((with_reducible refine gate_dst (N := 10) rfl ?_); refine bxe 10 (cs := #[.int .u64 0, .int .u64 0]) (t := 74) ?_; intro gb249 hg w11 hbox hb; have BK249 := Aside0.mk hbox; have GW249 := bsz HB hg; have GE249 := bsz HB hg; have NB244_249 := bnl BK244 hg; have NB249_244 := bng BK244 hg; replace HO_6 := Aside0.mk (Kd.R_below (Kd.R_elderB (by (with_reducible repeat (first | apply Kd.R_alloc | apply Kd.R_drewN | apply Kd.R_drew)); exact HO_6.out) gb249 (Nat.le_of_eq hg.symm)) hb); replace BK244 := bkb BK244 hb; replace HB := bls HB hb; clear hb hbox hg; have hnb12 := NB249_244.out; have hnc12 := NB244_249.out; have hcz13_0 : w11.cell? ⟨gb249, 0, none⟩ = some (.int .u64 0) := (blk_cell BK249.out 0).trans rfl; have hcz13_1 : w11.cell? ⟨gb249, 1, none⟩ = some (.int .u64 0) := (blk_cell BK249.out 1).trans rfl; have hfz13_0 := blk_frozen BK249.out 0; have hfz13_1 := blk_frozen BK249.out 1))
      (try simp only [Act.put, List.setIfInBounds_toArray, List.set_cons_zero, List.set_cons_succ])
      go_cut [31] (fun v31 wc => ∃ (kq : Nat) (x31_6 : Bool), v31 = .bool x31_6 ∧ Aside0 (cx_list.j1 kq a0 x6_1 t248 l1 (l1.length : Int) x14_1 x31_6 t246 t247 = some (r1, r2)) ∧ Aside0 (kq ≤ k1) ∧ Aside0 (Kd.R k74 74 wc w.heap.size (fun k_ => k_ ≠ gb249) u6 x6_1) ∧ Aside0 (wc.heap[gb244]? = some (.cells #[.int .i64 ((rd_T24 l1 x14_1).f0), .int .u64 ((rd_T24 l1 x14_1).f1), .int .u64 ((rd_T24 l1 x14_1).f2), .string ((rd_T24 l1 x14_1).f3)] 24 (0, 0))) ∧ Aside0 (wc.heap[gb249]? = some (.cells #[.int .u64 t246, .int .u64 t247] 74 (0, 0))) ∧ Aside0 (Below w.heap.size w wc))
      case first =>
       have H := HC7.out
       clear HC7
       by_cases c14 : t248 = 0
       ·rw [if_pos c14] at H
        have c14b0 : (t248 == 0) = true := beq_iff_eq.mpr c14
        have c14b1 : (t248 != 0) = false := bne_eq_false_iff_eq.mpr c14
        clear c14
        (first | rw [c14b0] | (simp only [i64_w, i32_w]; rw [c14b0]) | skip)
        have H' := Aside0.mk H
        clear H
        have hnb15 := NB244_249.out
        have hnc15 := NB249_244.out
        obtain ⟨hcz16_0, hcz16_1, hcz16_2, hcz16_3, hfz16_0, hfz16_1, hfz16_2, hfz16_3⟩ := cf4 BK244
        go_wp2
        go_meet
        case rel => exact ⟨_, ((((rd_T24 l1 x14_1).f0) != a0)), (by first | rfl | (simp; done) | (simp [*]; done)), H', ⟨by have := HK1.out; first | omega | exact Nat.le_refl _⟩, ⟨by (with_reducible repeat (first | apply Kd.R_alloc | apply Kd.R_drewN | apply Kd.R_drew)); exact Kd.R_mono (Kd.R_far (p := ⟨gb249, 1, none⟩) (Kd.R_far (p := ⟨gb249, 0, none⟩) (Kd.R_mono HO_6.out (fun k_ hk => (⟨hk, hk.2⟩ : _ ∧ k_ ≠ gb249))) (fun _ hk => hk.2) (.int .u64 t246)) (fun _ hk => hk.2) (.int .u64 t247)) (fun _ hk => hk.1.2)⟩, bkf BK244, ⟨by (with_reducible repeat (first | refine blk_drewN ?_ _ | refine blk_drew ?_ | refine blk_alloc ?_ _)); refine blk_put (cs := #[.int .u64 t246, .int .u64 0]) ?_ 1 _ rfl; (with_reducible repeat (first | refine blk_drewN ?_ _ | refine blk_drew ?_ | refine blk_alloc ?_ _)); refine blk_put (cs := #[.int .u64 0, .int .u64 0]) ?_ 0 _ rfl; (with_reducible repeat (first | refine blk_drewN ?_ _ | refine blk_drew ?_ | refine blk_alloc ?_ _)); exact BK249.out⟩, blt HB⟩
       ·rw [if_neg c14] at H
        have c14b0 : (t248 == 0) = false := beq_eq_false_iff_ne.mpr c14
        have c14b1 : (t248 != 0) = true := bne_iff_ne.mpr c14
        (first | rw [c14b0] | (simp only [i64_w, i32_w]; rw [c14b0]) | skip)
        have H' := Aside0.mk H
        clear H
        go_wp2
        go_meet
        case rel => exact ⟨_, (false), (by first | rfl | (simp; done) | (simp [*]; done)), H', ⟨by have := HK1.out; first | omega | exact Nat.le_refl _⟩, ⟨by (with_reducible repeat (first | apply Kd.R_alloc | apply Kd.R_drewN | apply Kd.R_drew)); exact Kd.R_mono (Kd.R_far (p := ⟨gb249, 1, none⟩) (Kd.R_far (p := ⟨gb249, 0, none⟩) (Kd.R_mono HO_6.out (fun k_ hk => (⟨hk, hk.2⟩ : _ ∧ k_ ≠ gb249))) (fun _ hk => hk.2) (.int .u64 t246)) (fun _ hk => hk.2) (.int .u64 t247)) (fun _ hk => hk.1.2)⟩, bkf BK244, ⟨by (with_reducible repeat (first | refine blk_drewN ?_ _ | refine blk_drew ?_ | refine blk_alloc ?_ _)); refine blk_put (cs := #[.int .u64 t246, .int .u64 0]) ?_ 1 _ rfl; (with_reducible repeat (first | refine blk_drewN ?_ _ | refine blk_drew ?_ | refine blk_alloc ?_ _)); refine blk_put (cs := #[.int .u64 0, .int .u64 0]) ?_ 0 _ rfl; (with_reducible repeat (first | refine blk_drewN ?_ _ | refine blk_drew ?_ | refine blk_alloc ?_ _)); exact BK249.out⟩, blt HB⟩
      case rest =>
       clear HC7
       try clear c1
       try clear p2
       try clear q2
       try clear hx2
       try clear c3
       try clear c3b0
       try clear c4
       try clear c4b0
       try clear c5
       try clear c5b0
       try clear c7
       try clear c8
       try clear c12
       try clear c14
       try clear c14b0
       try clear c14b1
       try clear c15
       try clear hcz13_0
       try clear hcz13_1
       try clear hcz16_0
       try clear hcz16_1
       try clear hcz16_2
       try clear hcz16_3
       try clear hcz9_0
       try clear hcz9_1
       try clear hcz9_2
       try clear hcz9_3
       try clear hfz13_0
       try clear hfz13_1
       try clear hfz16_0
       try clear hfz16_1
       try clear hfz16_2
       try clear hfz16_3
       try clear hfz9_0
       try clear hfz9_1
       try clear hfz9_2
       try clear hfz9_3
       try clear hx243_0
       try clear hx243_1
       try clear hx243_2
       try clear hx243_3
       try clear p2
       try clear p243
       try clear q243
       obtain ⟨kq, x31_6, rfl, HA, HJ6, HO_6, BK244, BK249, HB⟩ := hcut
       cases kq with
       | zero => exact absurd HA.out (by simp [cx_list.j1])
       | succ kj6 =>
        have H := HA.out
        clear HA
        simp only [cx_list.j1] at H
        by_cases c17 : x31_6 = true
        ·subst c17
         have H1 : (if 27 = 0 then (if x6_1.length < 8796093022208 then (cx_list.l0 kj6 a0 (x6_1 ++ [(⟨t246, t247⟩ : S74)]) l1 (l1.length : Int) (wrap64 (x14_1 + 1))) else (none)) else (some (([] : List (S74)), 27))) = some (r1, r2) := by rw [if_pos rfl] at H; exact H
         clear H
         have H := H1
         clear H1
         by_cases c18 : 27 = 0
         ·exact absurd c18 (by decide)
         ·rw [if_neg c18] at H
          have c18b0 : (27 == 0) = false := beq_eq_false_iff_ne.mpr c18
          have c18b1 : (27 != 0) = true := bne_iff_ne.mpr c18
          simp only [Option.some.injEq, Prod.mk.injEq] at H
          obtain ⟨rfl, rfl⟩ := H
          go_wp2
          go_ret2
          exact ⟨_, by first | rfl | (simp [errW_none, errW_some] <;> rfl) | (simp [*, errW_none, errW_some] <;> rfl), by first | exact Kd.R_nil _ _ _ _ _ | exact Kd.N_nil _ _ _ _ _ | exact Kd.V_nil _ _ _ _ _ | exact Kd.Q_nil _ _ _ _ _ | exact Kd.S_nil _ _ _ _ _, (blt HB).out⟩
        ·replace c17 := Bool.eq_false_iff.mpr c17
         subst c17
         have H1 : (if t248 = 0 then (if x6_1.length < 8796093022208 then (cx_list.l0 kj6 a0 (x6_1 ++ [(⟨t246, t247⟩ : S74)]) l1 (l1.length : Int) (wrap64 (x14_1 + 1))) else (none)) else (some (([] : List (S74)), t248))) = some (r1, r2) := by rw [if_neg (show ¬ (false = true) by decide)] at H; exact H
         clear H
         have H := H1
         clear H1
         by_cases c23 : t248 = 0
         ·rw [if_pos c23] at H
          have c23b0 : (t248 == 0) = true := beq_iff_eq.mpr c23
          have c23b1 : (t248 != 0) = false := bne_eq_false_iff_eq.mpr c23
          clear c23
          by_cases c24 : x6_1.length < 8796093022208
          ·rw [if_pos c24] at H
           have LMc24 := Aside0.mk c24
           clear c24
           obtain ⟨y253, hy253⟩ : ∃ y_ : List (S74), y_ = (x6_1 ++ [(⟨t246, t247⟩ : S74)]) := ⟨_, rfl⟩
           replace H : (cx_list.l0 kj6 a0 y253 l1 (l1.length : Int) (wrap64 (x14_1 + 1))) = some (r1, r2) := by first | (rw [hy253]; with_reducible exact H) | (have H2_ := (Option.bind_some _ _).symm.trans H; rw [hy253]; with_reducible exact H2_) | (have H2_ := (Option.bind_some _ _).symm.trans H; with_reducible exact H2_) | with_reducible exact H | (rw [hy253]; exact H) | exact H
           have Ny253 := Aside0.mk hy253
           clear hy253
           have H' := Aside0.mk H
           clear H
           have hnb25 := NB249_244.out
           have hnc25 := NB244_249.out
           obtain ⟨hcz26_0, hcz26_1, hfz26_0, hfz26_1⟩ := cf2 BK249
           go_wp2_with (first | ((with_reducible refine gate_builtin (b := .append) (xs := #[.tmp 35, .tmp 37]) rfl ?_); at_builtin; refine Kd.R_append k74 (w0 := w) w.heap.size rfl (.tmp 35) (.tmp 37) 103 74 (.agg #[(.int .u64 0), (.int .u64 0)]) 16 rfl Tryz.underlying103 info74 rfl (by decide) (by omega) u6 x6_1 (⟨t246, t247⟩ : S74) [.int .u64 t246, .int .u64 t247] (fun k_ => k_ ≠ gb249) (fun _ => False) rfl rfl ?aP (fun _ hk => hk.elim) ?aF ?aO ?aB ?aS ?aL ?_; (case aP => exact k74_mkM _ _ _ (⟨t246, t247⟩ : S74)); (case aB => exact (blt HB).out); (case aF => exact (fun k_ hk => Kd.freshB (g := gb249) (o := .cells #[.int .u64 t246, .int .u64 t247] 74 (0, 0)) (bks BK249).out k_ hk)); (case aO => exact (by (with_reducible repeat (first | apply Kd.R_alloc | apply Kd.R_drewN | apply Kd.R_drew)); exact HO_6.out)); (case aS => exact (below_size (blt HB).out)); (case aL => have := LMc24.out; omega); intro v254 w27 ho hb hg hat; rw [← Ny253.out] at ho; have n0_ := Aside0.mk (blk_grown (g := gb244) (o := .cells #[.int .i64 ((rd_T24 l1 x14_1).f0), .int .u64 ((rd_T24 l1 x14_1).f1), .int .u64 ((rd_T24 l1 x14_1).f2), .string ((rd_T24 l1 x14_1).f3)] 24 (0, 0)) (bks BK244).out hg (Kd.R_ne HO_6.out BK244.out (by decide))); have n1_ := Aside0.mk (blk_grown (g := gb249) (o := .cells #[.int .u64 t246, .int .u64 t247] 74 (0, 0)) (bks BK249).out hg (Kd.R_away HO_6.out (fun _ hk => hk))); have n2_ := Aside0.mk (hb); have n3_ := Aside0.mk (ho); clear BK244; clear BK249; clear HB; clear HO_6; have BK244 := n0_; have BK249 := n1_; have HB := n2_; have HO255 := n3_; clear n0_ n1_ n2_ n3_; clear ho hb hg hat))
           go_roundg kj6
           case measure => have := HK1.out; have := HJ6.out; omega
           case rel => exact ⟨(y253), (wrap64 (x14_1 + 1)), (by first | rfl | (simp; done) | (simp [*]; done)), H', ⟨by have := HK1.out; have := HJ6.out; omega⟩, ⟨by (with_reducible repeat (first | apply Kd.R_alloc | apply Kd.R_drewN | apply Kd.R_drew)); exact Kd.R_mono HO255.out (fun _ hk => trivial)⟩, blt HB⟩
          ·rw [if_neg c24] at H
           exact absurd H (by simp)
         ·rw [if_neg c23] at H
          have c23b0 : (t248 == 0) = false := beq_eq_false_iff_ne.mpr c23
          have c23b1 : (t248 != 0) = true := bne_iff_ne.mpr c23
          simp only [Option.some.injEq, Prod.mk.injEq] at H
          obtain ⟨rfl, rfl⟩ := H
          go_wp2
          go_ret2
          exact ⟨_, by first | rfl | (simp [errW_none, errW_some] <;> rfl) | (simp [*, errW_none, errW_some] <;> rfl), by first | exact Kd.R_nil _ _ _ _ _ | exact Kd.N_nil _ _ _ _ _ | exact Kd.V_nil _ _ _ _ _ | exact Kd.Q_nil _ _ _ _ _ | exact Kd.S_nil _ _ _ _ _, (blt HB).out⟩
     ·rw [if_neg c5] at H
      exact absurd H (by simp)
    ·rw [if_neg c4] at H
     exact absurd H (by simp)
   ·rw [if_neg c3] at H
    have c3b0 : decide (x14_1 < (l1.length : Int)) = false := decide_eq_false c3
    clear c3
    simp only [Option.some.injEq, Prod.mk.injEq] at H
    obtain ⟨rfl, rfl⟩ := H
    go_wp2
    go_ret2
    exact ⟨_, by first | rfl | (simp [errW_none, errW_some] <;> rfl) | (simp [*, errW_none, errW_some] <;> rfl), by (with_reducible repeat (first | apply Kd.R_alloc | apply Kd.R_drewN | apply Kd.R_drew)); exact HO_6.out, (blt HB).out⟩
def fd_sum.f (a0 : Int) (l1 : List (S74)) : Option (Int × Int) := if l1.length = 1 then some ((rd_T74 l1 0).f0, (rd_T74 l1 0).f1) else none
set_option maxHeartbeats 8000000 in
set_option maxRecDepth 100000 in
theorem fd_sum.calls (a0 : Int) (A1 : Option Addr) (c1 : Nat) (l1 : List (S74)) (r1 : Int) (r2 : Int) (w : World) (hr1 : Kd.C k74 w A1 l1.length l1) (hc1 : l1.length ≤ c1) (h : fd_sum.f a0 l1 = some (r1, r2)) :
  Calls Tryz.prog 90 #[.int .i64 a0, .slice A1 l1.length c1] w fun e w' => e = .returned (.agg #[.int .u64 r1, .int .u64 r2]) ∧ Below w.heap.size w w' := by
 by_cases hl : l1.length = 1
 ·unfold fd_sum.f at h
  rw [if_pos hl] at h
  obtain ⟨x, rfl⟩ := List.length_eq_one_iff.1 hl
  have h := Option.some.inj h
  simp only [Prod.mk.injEq] at h
  obtain ⟨rfl, rfl⟩ := h
  generalize hy0 : (rd_T74 [x] 0).f0 = y0
  generalize hy1 : (rd_T74 [x] 0).f1 = y1
  have HR := Aside0.mk hr1
  have HC := Aside0.mk hc1
  clear hr1 hc1 hl
  by_cases hcap : c1 = 1
  all_goals
   go_enter Tryz.func90, Tryz.ntmps90
   go_upto_region 1 with (fail)
   refine B.hide0own (fun W n hn ho hlt hB => ?_)
   rw [hn]
   obtain ⟨ad, e, hx0, hx1⟩ := at_T74 (Kd.C_below HR.out hB) 0 (by simp) (by simp)
   cases e
   have ea : ad.add (((0 : Int)).toNat * 2) = ad := by cases ad; rfl
   rw [ea] at hx0 hx1
   rw [hy0] at hx0
   rw [hy1] at hx1
   go_upto_region 4 with (fail)
   refine B.hideLoc ho hlt hB (fun V gx hgx k0 k1 ho2 hB2 => ?_)
   rw [hgx]
   clear hx0 hx1 ho hlt hB
   go_wp2
   go_loop [18] (fun i => i = .int .i64 0) (fun _ => 0)
   case atStart => rfl
   case round =>
    subst hrel
    go_wp2
    have hr := B.Own.read2 (n := 0) ((ho2.set ⟨n, 0, none⟩ (.int .u64 y0)).set ⟨n, 1, none⟩ (.int .u64 y1))
    exact bodyPost_ret (v := .agg #[.int .u64 y0, .int .u64 y1]) (by simp [results, Tryz.results90, go_sem, hr.1, hr.2]) rfl ⟨rfl, by have hz := B.below_two hB2 (Nat.le_of_eq hn) (.int .u64 y0) (.int .u64 y1); rw [hn] at hz; exact hz⟩
 ·unfold fd_sum.f at h
  rw [if_neg hl] at h
  cases h
end Go.Proofs.YtmoimcblmmcffaaGreat.PPC
