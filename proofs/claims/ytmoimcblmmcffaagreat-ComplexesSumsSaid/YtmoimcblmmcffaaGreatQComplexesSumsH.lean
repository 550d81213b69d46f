/- Contracts and plain laws that the law ComplexesSums leans on (texts joined by program; what it does not come to is left out). -/
import Derived.Test.YtmoimcblmmcffaaGreatQComplexesSumsA
import Derived.Test.YtmoimcblmmcffaaGreatQComplexesSumsG
import Derived.Test.YtmoimcblmmcffaaGreatProg
import Derived.Below
import Derived.Deep.Draws
import Derived.Deep.AppendLies
import Derived.Maps.AppendAt
import Derived.OwnWalk
import Derived.Laws.BytesArg
import Derived.Laws.MakeOwn
import Derived.Laws.OwnMore
import Derived.Deep.OwnRows
import Derived.Tactics
import Derived.Lib.ConvBytes
import Derived.Laws.Slices
import Derived.WalkKit
import Derived.KernelRfl
import Derived.RowKit3
import Derived.Deep.LoopGhost
import Derived.Deep.QuietTactic
import Derived.BigQuiet
import Derived.WideLaws
import Derived.Deep.DeepCutAuto
import Derived.Deep.CutBlock
import Derived.Deep.RegionHeld3
import Derived.Laws.Rows
import Derived.Lib.AppendStr
import Derived.ArgAppend
import Derived.Laws.IdiomCopy
import Derived.OrdersHeld
import Derived.Laws.BitsLemmas
import Derived.RowKit
import Derived.Test.YtmoimcblmmcffaaGreatQComplexesSumsF

namespace Go.Proofs.YtmoimcblmmcffaaGreat.PPC
open Go.RowKit Go.Proofs.YtmoimcblmmcffaaGreatW.PrintWords Go.Proofs.YtmoimcblmmcffaaGreatW.PrintLast Go.Proofs.YtmoimcblmmcffaaGreatW.PrintMore Go.Proofs.YtmoimcblmmcffaaGreatW.PrintZ
attribute [local go_sem] max2_int min2_int max_two min_two max_three min_three max_four min_four   -- for this text's walks alone
set_option linter.unusedVariables false
set_option linter.unusedSimpArgs false
def fd_negated.f (a0 : Int) (a1 : Int) : Option (Int) := (rl_Negated.f a0 a1).bind fun bt204 => (some bt204.1)
set_option maxHeartbeats 8000000 in
set_option maxRecDepth 100000 in
theorem fd_negated.calls (a0 : Int) (a1 : Int) (r : Int) (w : World) (h : fd_negated.f a0 a1 = some r) :
  Calls Tryz.prog 81 #[.int .i64 a0, .int .u64 a1] w fun e w' => e = .returned (.int .u64 r) ∧ Below w.heap.size w w' := by
 have HB := Zs.mk (Below.refl w.heap.size w)
 have H : ((rl_Negated.f a0 a1).bind fun bt204 => (some bt204.1)) = some r := h
 clear h
 replace H := Option.bind_eq_some_iff.mp H
 obtain ⟨⟨t204, t205⟩, A3, H⟩ := H
 try dsimp only at H
 replace A3 := Zs.mk A3
 obtain rfl := Option.some.inj H
 go_enter Tryz.func81, Tryz.ntmps81
 go_wp2_with (first | ((with_reducible refine gc_ (f := 122) rfl ?_); refine gLc 10 Tryz.func122 (rl_Negated.calls a0 a1 t204 t205 _ A3.out) (fun w4 hb => ?_); replace HB := bls HB hb; clear hb))
 go_ret
 exact fin_ (blt HB)
def fd_conjugate.f (a0 : Int) (a1_0 : Int) (a1_1 : Int) : Option (Int × Int) := (fd_negated.f a0 a1_1).bind fun t208 => (some (a1_0, t208))
def fd_conjugate.T1 : Bool × List (List Nat × List Nat) := (true, [([], []), ([0], [0]), ([], []), ([], []), ([3], [3]), ([2, 4], [2, 4]), ([1, 5], [1, 5]), ([6, 5, 0, 1, 2, 3, 4, 5, 6], [6])])
def fd_conjugate.B1 : List Nat := [0, 1, 0, 0, 8, 28, 63, 127]
theorem fd_conjugate.tab1 : rtab .any (opsOf Tryz.f78 1) = fd_conjugate.T1 := by kernel_rfl
theorem fd_conjugate.bits1 : waitsOk fd_conjugate.T1.2 fd_conjugate.B1 = true := by kernel_rfl
set_option maxHeartbeats 8000000 in
set_option maxRecDepth 100000 in
theorem fd_conjugate.calls (a0 : Int) (a1_0 : Int) (a1_1 : Int) (r1 : Int) (r2 : Int) (w : World) (h : fd_conjugate.f a0 a1_0 a1_1 = some (r1, r2)) :
  Calls Tryz.prog 78 #[.int .i64 a0, .agg #[.int .u64 a1_0, .int .u64 a1_1]] w fun e w' => e = .returned (.agg #[.int .u64 r1, .int .u64 r2]) ∧ Below w.heap.size w w' := by
 have hu74 := Tryz.underlying74
 have HB := Zs.mk (Below.refl w.heap.size w)
 have H : ((fd_negated.f a0 a1_1).bind fun t208 => (some (a1_0, t208))) = some (r1, r2) := h
 clear h
 replace H := Option.bind_eq_some_iff.mp H
 obtain ⟨t208, A3, H⟩ := H
 try dsimp only at H
 replace A3 := Zs.mk A3
 simp only [Option.some.injEq, Prod.mk.injEq] at H
 obtain ⟨rfl, rfl⟩ := H
 go_enter Tryz.func78, Tryz.ntmps78
 try go_wp2_with (first | ((with_reducible refine gd_ (N := 3) rfl ?_); refine bxe 3 (cs := #[.int .u64 a1_0, .int .u64 a1_1]) (t := 74) ?_; intro gb206 hg w4 hbox hb; have BK206 := Zs.mk hbox; have GW206 := bsz HB hg; have GE206 := bsz HB hg; replace HB := bls HB hb; clear hb hbox hg) | ((with_reducible refine gd_ (N := 4) rfl ?_); refine bxe 4 (cs := #[.int .u64 0, .int .u64 0]) (t := 74) ?_; intro gb207 hg w5 hbox hb; have BK207 := Zs.mk hbox; have GW207 := bsz HB hg; have GE207 := bsz HB hg; have NB206_207 := bnl BK206 hg; have NB207_206 := bng BK206 hg; replace BK206 := bkb BK206 hb; replace HB := bls HB hb; clear hb hbox hg))
 replace BK206 := Zs.mk (zd BK206.out)
 replace BK207 := Zs.mk (zd BK207.out)
 replace HB := Zs.mk (below_drew1 HB.out)
 refine start_ (n := 8) (S := fun w' => w'.cell? ⟨gb206, 0, none⟩ = some (.int .u64 a1_0) ∧ w'.cell? ⟨gb206, 1, none⟩ = some (.int .u64 a1_1)) (ds := []) #[false, false, false, false, false, false, false, false] (by kernel_rfl) rfl rfl (cf2c BK206) (fun hHeld => ?_); refine with_tabW fd_conjugate.tab1 fd_conjugate.bits1 (fun HT_ HW_ => ?_)
 generalize w5.drew = w6 at BK206 BK207 HB hHeld ⊢
 refine pu 0 5 HT_ ?_
 refine pu 2 7 HT_ ?_
 refine pu 3 8 HT_ ?_
 refine tk 1 6 HT_ HW_ hHeld ?_
 refine tk 4 9 HT_ HW_ hHeld ?_
 refine on 5 10 HT_ (fun K hK => ?_)
 refine gsc Tryz.func81 (fd_negated.calls a0 a1_1 t208 _ A3.out) (fun w7 hb => ?_)
 replace BK206 := bkb BK206 hb
 replace BK207 := bkb BK207 hb
 replace HB := bls HB hb
 (try clear hb)
 (try clear hb2)
 (try clear hk)
 (try clear hi)
 refine hK.out _ _ (cf2c BK206) (fun hHeld => ?_)
 clear hK K
 refine nm 10 ?_
 refine pu 6 11 HT_ ?_
 refine one_ (i := 7) (N := none) #[true, true, true, true, true, true, true, true] rfl rfl (one_of HT_.out (by kernel_rfl)) (by decide) (fun K hK => ?_)
 have hs8 : w7.cell? ⟨gb207, 0, none⟩ = some (.int .u64 0) := (zc BK207.out 0).trans rfl
 have hfs8 := zf BK207.out 0
 have hns8_0 := NB206_207.out
 have hms8_0 := NB207_206.out
 have hs9 : w7.cell? ⟨gb207, 1, none⟩ = some (.int .u64 0) := (zc BK207.out 1).trans rfl
 have hfs9 := zf BK207.out 1
 have hns9_0 := NB206_207.out
 have hms9_0 := NB207_206.out
 refine skip_ (w1 := ?_) (by rfl) rfl ?_ ?_
 rotate_left
 ·go_simp
  rfl
 refine hK.out _ _ ⟨((cell_far (p := ⟨gb207, _, none⟩) NB206_207.out _).trans (((cell_far (p := ⟨gb207, _, none⟩) NB206_207.out _).trans (hHeld.1)))), ((cell_far (p := ⟨gb207, _, none⟩) NB206_207.out _).trans (((cell_far (p := ⟨gb207, _, none⟩) NB206_207.out _).trans (hHeld.2))))⟩ (fun hHeld => ?_)
 clear hK K
 refine done_ (done_of HT_.out (by kernel_rfl)) ?_
 try go_wp2
 refine bodyPost_ret (results_cell_row rfl _ _ gb207 74 #[.int .u64 a1_0, .int .u64 t208] (0, 0) _ rfl (by (with_reducible repeat (first | refine zn ?_ _ | refine zd ?_ | refine za ?_ _)); apply bp2; (with_reducible repeat (first | refine zn ?_ _ | refine zd ?_ | refine za ?_ _)); exact BK207.out) Tryz.underlying74 rfl (by kernel_rfl)) rfl ?_
 exact fin_ (blt HB)
def fd_value.f (a0 : Int) (a1_0 : Int) (a1_1 : Int) : Option (Int × Int × Int × ByteArray) := if a0 = 2 then (some (4, a1_0, a1_1, (⟨#[]⟩ : ByteArray))) else (some (3, a1_0, a1_1, (⟨#[]⟩ : ByteArray)))
set_option maxHeartbeats 8000000 in
set_option maxRecDepth 100000 in
theorem fd_value.calls (a0 : Int) (a1_0 : Int) (a1_1 : Int) (r1 : Int) (r2 : Int) (r3 : Int) (r4 : ByteArray) (w : World) (h : fd_value.f a0 a1_0 a1_1 = some (r1, r2, r3, r4)) :
  Calls Tryz.prog 57 #[.int .i64 a0, .agg #[.int .u64 a1_0, .int .u64 a1_1]] w fun e w' => e = .returned (.agg #[.int .i64 r1, .int .u64 r2, .int .u64 r3, .string r4]) ∧ Below w.heap.size w w' := by
 have hu74 := Tryz.underlying74
 have hu24 := Tryz.underlying24
 have HB := Zs.mk (Below.refl w.heap.size w)
 have H : (if a0 = 2 then (some (4, a1_0, a1_1, (⟨#[]⟩ : ByteArray))) else (some (3, a1_0, a1_1, (⟨#[]⟩ : ByteArray)))) = some (r1, r2, r3, r4) := h
 clear h
 by_cases c3 : a0 = 2
 ·rw [if_pos c3] at H
  have c3b0 : (a0 == 2) = true := beq_iff_eq.mpr c3
  have c3b1 : (a0 != 2) = false := bne_eq_false_iff_eq.mpr c3
  clear c3
  simp only [Option.some.injEq, Prod.mk.injEq] at H
  obtain ⟨rfl, rfl, rfl, rfl⟩ := H
  go_enter Tryz.func57, Tryz.ntmps57
  go_wp2_with (first | ((with_reducible refine gd_ (N := 3) rfl ?_); refine bxe 3 (cs := #[.int .u64 a1_0, .int .u64 a1_1]) (t := 74) ?_; intro gb209 hg w4 hbox hb; have BK209 := Zs.mk hbox; have GW209 := bsz HB hg; have GE209 := bsz HB hg; replace HB := bls HB hb; clear hb hbox hg) | ((with_reducible refine gd_ (N := 4) rfl ?_); refine bxe 4 (cs := #[.int .i64 0, .int .u64 0, .int .u64 0, .string (⟨#[]⟩ : ByteArray)]) (t := 24) ?_; intro gb210 hg w5 hbox hb; have BK210 := Zs.mk hbox; have GW210 := bsz HB hg; have GE210 := bsz HB hg; have NB209_210 := bnl BK209 hg; have NB210_209 := bng BK209 hg; replace BK209 := bkb BK209 hb; replace HB := bls HB hb; clear hb hbox hg; have hnb6 := NB209_210.out; have hnc6 := NB210_209.out; obtain ⟨hcz7_0, hcz7_1, hfz7_0, hfz7_1⟩ := cf2 BK209; obtain ⟨hcz8_0, hcz8_1, hcz8_2, hcz8_3, hfz8_0, hfz8_1, hfz8_2, hfz8_3⟩ := cf4 BK210))
  refine bodyPost_ret (results_cell_row rfl _ _ gb210 24 #[.int .i64 4, .int .u64 a1_0, .int .u64 a1_1, .string (⟨#[]⟩ : ByteArray)] (0, 0) _ rfl (by (with_reducible repeat (first | refine zn ?_ _ | refine zd ?_ | refine za ?_ _)); apply bp4; (with_reducible repeat (first | refine zn ?_ _ | refine zd ?_ | refine za ?_ _)); exact BK210.out) Tryz.underlying24 rfl (by kernel_rfl)) rfl ?_
  exact fin_ (blt HB)
 ·rw [if_neg c3] at H
  have c3b0 : (a0 == 2) = false := beq_eq_false_iff_ne.mpr c3
  have c3b1 : (a0 != 2) = true := bne_iff_ne.mpr c3
  simp only [Option.some.injEq, Prod.mk.injEq] at H
  obtain ⟨rfl, rfl, rfl, rfl⟩ := H
  go_enter Tryz.func57, Tryz.ntmps57
  go_wp2_with (first | ((with_reducible refine gd_ (N := 3) rfl ?_); refine bxe 3 (cs := #[.int .u64 a1_0, .int .u64 a1_1]) (t := 74) ?_; intro gb209 hg w9 hbox hb; have BK209 := Zs.mk hbox; have GW209 := bsz HB hg; have GE209 := bsz HB hg; replace HB := bls HB hb; clear hb hbox hg) | ((with_reducible refine gd_ (N := 4) rfl ?_); refine bxe 4 (cs := #[.int .i64 0, .int .u64 0, .int .u64 0, .string (⟨#[]⟩ : ByteArray)]) (t := 24) ?_; intro gb210 hg w10 hbox hb; have BK210 := Zs.mk hbox; have GW210 := bsz HB hg; have GE210 := bsz HB hg; have NB209_210 := bnl BK209 hg; have NB210_209 := bng BK209 hg; replace BK209 := bkb BK209 hb; replace HB := bls HB hb; clear hb hbox hg; have hnb11 := NB209_210.out; have hnc11 := NB210_209.out; obtain ⟨hcz12_0, hcz12_1, hfz12_0, hfz12_1⟩ := cf2 BK209; obtain ⟨hcz13_0, hcz13_1, hcz13_2, hcz13_3, hfz13_0, hfz13_1, hfz13_2, hfz13_3⟩ := cf4 BK210))
  refine bodyPost_ret (results_cell_row rfl _ _ gb210 24 #[.int .i64 3, .int .u64 a1_0, .int .u64 a1_1, .string (⟨#[]⟩ : ByteArray)] (0, 0) _ rfl (by (with_reducible repeat (first | refine zn ?_ _ | refine zd ?_ | refine za ?_ _)); apply bp4; (with_reducible repeat (first | refine zn ?_ _ | refine zd ?_ | refine za ?_ _)); exact BK210.out) Tryz.underlying24 rfl (by kernel_rfl)) rfl ?_
  exact fin_ (blt HB)
def fd_power.l0 : Nat → Int → Int → Int → Int → Int → Int → Int → Int → Int → Int → Option (Int × Int)
 | 0, _, _, _, _, _, _, _, _, _, _ => none
 | k + 1, x0, x2, x9, x10, x212000, x212001, x215000, x215001, x216000, x216001 => if x10 = 0 then (if x2 < 0 then ((fd_over.f x0 x215000 x215001 x216000 x216001).bind fun bt216 => (some (bt216.1, bt216.2))) else (some (x216000, x216001))) else (if x10 > x9 then (fd_power.l0 k x0 x2 x9 (x10 / 2) x212000 x212001 x215000 x215001 x216000 x216001) else ((fd_times.f x0 x216000 x216001 x216000 x216001).bind fun bt218 => (if (Go.bits .and .u64 x9 x10) = 0 then (fd_power.l0 k x0 x2 x9 (x10 / 2) x212000 x212001 x215000 x215001 bt218.1 bt218.2) else ((fd_times.f x0 bt218.1 bt218.2 x212000 x212001).bind fun bt220 => (fd_power.l0 k x0 x2 x9 (x10 / 2) x212000 x212001 x215000 x215001 bt220.1 bt220.2)))))
def fd_power.f (k : Nat) (a0 : Int) (a1_0 : Int) (a1_1 : Int) (a2 : Int) : Option (Int × Int) := (fd_one.f a0).bind fun t213 => (fd_power.l0 k a0 a2 (IntKind.u64.wrap (mx a2 (wrap64 (-a2)))) 2147483648 a1_0 a1_1 t213 0 t213 0)
set_option maxHeartbeats 8000000 in
set_option maxRecDepth 100000 in
theorem fd_power.calls (k : Nat) (a0 : Int) (a1_0 : Int) (a1_1 : Int) (a2 : Int) (r1 : Int) (r2 : Int) (w : World) (h : fd_power.f k a0 a1_0 a1_1 a2 = some (r1, r2)) :
  Calls Tryz.prog 73 #[.int .i64 a0, .agg #[.int .u64 a1_0, .int .u64 a1_1], .int .i64 a2] w fun e w' => e = .returned (.agg #[.int .u64 r1, .int .u64 r2]) ∧ Below w.heap.size w w' := by
 have hu74 := Tryz.underlying74
 have HB := Zs.mk (Below.refl w.heap.size w)
 have H : ((fd_one.f a0).bind fun t213 => (fd_power.l0 k a0 a2 (IntKind.u64.wrap (mx a2 (wrap64 (-a2)))) 2147483648 a1_0 a1_1 t213 0 t213 0)) = some (r1, r2) := h
 clear h
 replace H := Option.bind_eq_some_iff.mp H
 obtain ⟨t213, A4, H⟩ := H
 try dsimp only at H
 replace A4 := Zs.mk A4
 obtain ⟨ji5, hji5⟩ : ∃ j_ : Int, (mx a2 (wrap64 (-a2))) = j_ := ⟨_, rfl⟩
 replace H : (fd_power.l0 k a0 a2 (IntKind.u64.wrap (ji5)) 2147483648 a1_0 a1_1 t213 0 t213 0) = some (r1, r2) := by first | (rw [hji5] at H; exact H) | (simp only [hji5] at H ⊢; exact H)
 (try rw [hji5] at A4)
 have hji5_ : (if a2 < (wrap64 (-a2)) then (wrap64 (-a2)) else a2) = ji5 := hji5
 have H' := Zs.mk H
 clear H
 go_enter Tryz.func73, Tryz.ntmps73
 go_wp2_with (first | ((with_reducible refine gd_ (N := 4) rfl ?_); refine bxe 4 (cs := #[.int .u64 a1_0, .int .u64 a1_1]) (t := 74) ?_; intro gb211 hg w6 hbox hb; have BK211 := Zs.mk hbox; have GW211 := bsz HB hg; have GE211 := bsz HB hg; replace HB := bls HB hb; clear hb hbox hg) | ((with_reducible refine gd_ (N := 6) rfl ?_); refine bxe 6 (cs := #[.int .u64 0, .int .u64 0]) (t := 74) ?_; intro gb212 hg w7 hbox hb; have BK212 := Zs.mk hbox; have GW212 := bsz HB hg; have GE212 := bsz HB hg; have NB211_212 := bnl BK211 hg; have NB212_211 := bng BK211 hg; replace BK211 := bkb BK211 hb; replace HB := bls HB hb; clear hb hbox hg) | ((with_reducible refine gc_ (f := 111) rfl ?_); refine gLc 12 Tryz.func111 (fd_one.calls a0 t213 _ A4.out) (fun w8 hb => ?_); replace BK211 := bkb BK211 hb; replace BK212 := bkb BK212 hb; replace HB := bls HB hb; clear hb) | ((with_reducible refine gd_ (N := 7) rfl ?_); refine bxe 7 (cs := #[.int .u64 0, .int .u64 0]) (t := 74) ?_; intro gb214 hg w9 hbox hb; have BK214 := Zs.mk hbox; have GW214 := bsz HB hg; have GE214 := bsz HB hg; have NB211_214 := bnl BK211 hg; have NB214_211 := bng BK211 hg; have NB212_214 := bnl BK212 hg; have NB214_212 := bng BK212 hg; replace BK211 := bkb BK211 hb; replace BK212 := bkb BK212 hb; replace HB := bls HB hb; clear hb hbox hg; have hnb10 := NB214_211.out; have hnc10 := NB211_214.out; have hnb11 := NB214_212.out; have hnc11 := NB212_214.out; obtain ⟨hcz12_0, hcz12_1, hfz12_0, hfz12_1⟩ := cf2 BK214) | ((with_reducible refine gd_ (N := 8) rfl ?_); refine bxe 8 (cs := #[.int .u64 0, .int .u64 0]) (t := 74) ?_; intro gb215 hg w13 hbox hb; have BK215 := Zs.mk hbox; have GW215 := bsz HB hg; have GE215 := bsz HB hg; have NB211_215 := Zs.mk ((by rw [hg]; exact Nat.ne_of_lt (blk_lt (g := gb211) (o := .cells #[.int .u64 a1_0, .int .u64 a1_1] 74 (0, 0)) (bkf BK211).out) : gb211 ≠ gb215)); have NB215_211 := Zs.mk ((by rw [hg]; exact Nat.ne_of_gt (blk_lt (g := gb211) (o := .cells #[.int .u64 a1_0, .int .u64 a1_1] 74 (0, 0)) (bkf BK211).out) : gb215 ≠ gb211)); have NB212_215 := Zs.mk ((by rw [hg]; exact Nat.ne_of_lt (blk_lt (g := gb212) (o := .cells #[.int .u64 0, .int .u64 0] 74 (0, 0)) (bkf BK212).out) : gb212 ≠ gb215)); have NB215_212 := Zs.mk ((by rw [hg]; exact Nat.ne_of_gt (blk_lt (g := gb212) (o := .cells #[.int .u64 0, .int .u64 0] 74 (0, 0)) (bkf BK212).out) : gb215 ≠ gb212)); have NB214_215 := Zs.mk ((by rw [hg]; exact Nat.ne_of_lt (blk_lt (g := gb214) (o := .cells #[.int .u64 t213, .int .u64 0] 74 (0, 0)) (by (with_reducible repeat (first | refine zn ?_ _ | refine zd ?_ | refine za ?_ _)); apply bp2; (with_reducible repeat (first | refine zn ?_ _ | refine zd ?_ | refine za ?_ _)); exact BK214.out)) : gb214 ≠ gb215)); have NB215_214 := Zs.mk ((by rw [hg]; exact Nat.ne_of_gt (blk_lt (g := gb214) (o := .cells #[.int .u64 t213, .int .u64 0] 74 (0, 0)) (by (with_reducible repeat (first | refine zn ?_ _ | refine zd ?_ | refine za ?_ _)); apply bp2; (with_reducible repeat (first | refine zn ?_ _ | refine zd ?_ | refine za ?_ _)); exact BK214.out)) : gb215 ≠ gb214)); replace BK211 := bkfb BK211 hb; replace BK212 := bkfb BK212 hb; replace BK214 := Zs.mk (blk_below (g := gb214) (o := .cells #[.int .u64 t213, .int .u64 0] 74 (0, 0)) (by (with_reducible repeat (first | refine zn ?_ _ | refine zd ?_ | refine za ?_ _)); apply bp2; (with_reducible repeat (first | refine zn ?_ _ | refine zd ?_ | refine za ?_ _)); exact BK214.out) hb); replace HB := bls HB hb; clear hb hbox hg; have hnb14 := NB215_211.out; have hnc14 := NB211_215.out; have hnb15 := NB215_212.out; have hnc15 := NB212_215.out; have hnb16 := NB215_214.out; have hnc16 := NB214_215.out; obtain ⟨hcz17_0, hcz17_1, hfz17_0, hfz17_1⟩ := cf2 BK215))
 go_loopg [10] k (fun kq v10 w' => ∃ (x10_1 : Int) (x216000_1 : Int) (x216001_1 : Int), v10 = .int .u64 x10_1 ∧ Zs (fd_power.l0 kq a0 a2 (IntKind.u64.wrap (ji5)) x10_1 a1_0 a1_1 t213 0 x216000_1 x216001_1 = some (r1, r2)) ∧ Zs (kq ≤ k) ∧ Zs (w'.heap[gb211]? = some (.cells #[.int .u64 a1_0, .int .u64 a1_1] 74 (0, 0))) ∧ Zs (w'.heap[gb212]? = some (.cells #[.int .u64 0, .int .u64 0] 74 (0, 0))) ∧ Zs (w'.heap[gb214]? = some (.cells #[.int .u64 t213, .int .u64 0] 74 (0, 0))) ∧ Zs (w'.heap[gb215]? = some (.cells #[.int .u64 x216000_1, .int .u64 x216001_1] 74 (0, 0))) ∧ Zs (Below w.heap.size w w'))
 case atStart => exact ⟨(2147483648), (t213), (0), (by first | rfl | (simp; done) | (simp [*]; done)), H', ⟨Nat.le_refl _⟩, bkf BK211, bkf BK212, bkf BK214, ⟨by (with_reducible repeat (first | refine zn ?_ _ | refine zd ?_ | refine za ?_ _)); apply bp2; (with_reducible repeat (first | refine zn ?_ _ | refine zd ?_ | refine za ?_ _)); exact BK215.out⟩, blt HB⟩
 case round =>
  clear H'
  try clear c1
  try clear p2
  try clear p6
  try clear c7
  try clear c10
  try clear c11
  try clear c14
  try clear c15
  try clear c16
  try clear hcz12_0
  try clear hcz12_1
  try clear hcz17_0
  try clear hcz17_1
  try clear hfz12_0
  try clear hfz12_1
  try clear hfz17_0
  try clear hfz17_1
  obtain ⟨x10_1, x216000_1, x216001_1, rfl, HA, HK1, BK211, BK212, BK214, BK215, HB⟩ := hrel
  cases gk with
  | zero => exact absurd HA.out (by simp [fd_power.l0])
  | succ k1 =>
   have H := HA.out
   clear HA
   simp only [fd_power.l0] at H
   by_cases c18 : x10_1 = 0
   ·rw [if_pos c18] at H
    have c18b0 : (x10_1 == 0) = true := beq_iff_eq.mpr c18
    have c18b1 : (x10_1 != 0) = false := bne_eq_false_iff_eq.mpr c18
    clear c18
    by_cases c19 : a2 < 0
    ·rw [if_pos c19] at H
     have c19b0 : decide (a2 < 0) = true := decide_eq_true c19
     clear c19
     replace H := Option.bind_eq_some_iff.mp H
     obtain ⟨⟨t216, t217⟩, A20, H⟩ := H
     try dsimp only at H
     replace A20 := Zs.mk A20
     simp only [Option.some.injEq, Prod.mk.injEq] at H
     obtain ⟨rfl, rfl⟩ := H
     have hnb21 := NB214_211.out
     have hnc21 := NB211_214.out
     have hnb22 := NB214_212.out
     have hnc22 := NB212_214.out
     have hnb23 := NB214_215.out
     have hnc23 := NB215_214.out
     obtain ⟨hcz24_0, hcz24_1, hfz24_0, hfz24_1⟩ := cf2 BK214
     have hnb25 := NB215_211.out
     have hnc25 := NB211_215.out
     have hnb26 := NB215_212.out
     have hnc26 := NB212_215.out
     obtain ⟨hcz27_0, hcz27_1, hfz27_0, hfz27_1⟩ := cf2 BK215
     go_wp2_with (first | ((with_reducible refine gc_ (f := 56) rfl ?_); refine gLc 44 Tryz.func56 (fd_over.calls a0 t213 0 x216000_1 x216001_1 t216 t217 _ A20.out) (fun w28 hb => ?_); replace BK211 := bkb BK211 hb; replace BK212 := bkb BK212 hb; replace BK214 := bkb BK214 hb; replace BK215 := bkb BK215 hb; replace HB := bls HB hb; clear hb; obtain ⟨hcz29_0, hcz29_1, hfz29_0, hfz29_1⟩ := cf2 BK215; have hnb30 := NB212_211.out; have hnc30 := NB211_212.out; obtain ⟨hcz31_0, hcz31_1, hfz31_0, hfz31_1⟩ := cf2 BK212))
     refine bodyPost_ret (results_cell_row rfl _ _ gb212 74 #[.int .u64 t216, .int .u64 t217] (0, 0) _ rfl (by (with_reducible repeat (first | refine zn ?_ _ | refine zd ?_ | refine za ?_ _)); apply bp2; (with_reducible repeat (first | refine zn ?_ _ | refine zd ?_ | refine za ?_ _)); refine blk_far ?_ NB212_215.out _; (with_reducible repeat (first | refine zn ?_ _ | refine zd ?_ | refine za ?_ _)); refine blk_far ?_ NB212_215.out _; (with_reducible repeat (first | refine zn ?_ _ | refine zd ?_ | refine za ?_ _)); exact BK212.out) Tryz.underlying74 rfl (by kernel_rfl)) rfl ?_
     exact ⟨by first | rfl | (simp [errW_none, errW_some] <;> rfl) | (simp only [← hji5]; first | rfl | (simp [errW_none, errW_some] <;> rfl)) | (simp [*, errW_none, errW_some] <;> rfl), (blt HB).out⟩
    ·rw [if_neg c19] at H
     have c19b0 : decide (a2 < 0) = false := decide_eq_false c19
     clear c19
     simp only [Option.some.injEq, Prod.mk.injEq] at H
     obtain ⟨rfl, rfl⟩ := H
     have hnb32 := NB215_211.out
     have hnc32 := NB211_215.out
     have hnb33 := NB215_212.out
     have hnc33 := NB212_215.out
     have hnb34 := NB215_214.out
     have hnc34 := NB214_215.out
     obtain ⟨hcz35_0, hcz35_1, hfz35_0, hfz35_1⟩ := cf2 BK215
     have hnb36 := NB212_211.out
     have hnc36 := NB211_212.out
     have hnb37 := NB212_214.out
     have hnc37 := NB214_212.out
     obtain ⟨hcz38_0, hcz38_1, hfz38_0, hfz38_1⟩ := cf2 BK212
     go_wp2
     refine bodyPost_ret (results_cell_row rfl _ _ gb212 74 #[.int .u64 x216000_1, .int .u64 x216001_1] (0, 0) _ rfl (by (with_reducible repeat (first | refine zn ?_ _ | refine zd ?_ | refine za ?_ _)); apply bp2; (with_reducible repeat (first | refine zn ?_ _ | refine zd ?_ | refine za ?_ _)); exact BK212.out) Tryz.underlying74 rfl (by kernel_rfl)) rfl ?_
     exact ⟨by first | rfl | (simp [errW_none, errW_some] <;> rfl) | (simp only [← hji5]; first | rfl | (simp [errW_none, errW_some] <;> rfl)) | (simp [*, errW_none, errW_some] <;> rfl), (blt HB).out⟩
   ·rw [if_neg c18] at H
    have c18b0 : (x10_1 == 0) = false := beq_eq_false_iff_ne.mpr c18
    have c18b1 : (x10_1 != 0) = true := bne_iff_ne.mpr c18
    by_cases c39 : x10_1 > (IntKind.u64.wrap (ji5))
    ·rw [if_pos c39] at H
     have c39b0 : decide ((IntKind.u64.wrap (ji5)) < x10_1) = true := decide_eq_true c39
     clear c39
     have H' := Zs.mk H
     clear H
     go_wp2
     go_roundg k1
     case measure => have := HK1.out; omega
     case rel => exact ⟨(x10_1 / 2), (x216000_1), (x216001_1), (by first | rfl | (simp; done) | (simp [*]; done)), H', ⟨by have := HK1.out; omega⟩, bks BK211, bks BK212, bks BK214, bks BK215, blt HB⟩
    ·rw [if_neg c39] at H
     have c39b0 : decide ((IntKind.u64.wrap (ji5)) < x10_1) = false := decide_eq_false c39
     clear c39
     replace H := Option.bind_eq_some_iff.mp H
     obtain ⟨⟨t218, t219⟩, A40, H⟩ := H
     try dsimp only at H
     replace A40 := Zs.mk A40
     by_cases c41 : (Go.bits .and .u64 (IntKind.u64.wrap (ji5)) x10_1) = 0
     ·rw [if_pos c41] at H
      have c41b0 : ((Go.bits .and .u64 (IntKind.u64.wrap (ji5)) x10_1) == 0) = true := beq_iff_eq.mpr c41
      have c41b1 : ((Go.bits .and .u64 (IntKind.u64.wrap (ji5)) x10_1) != 0) = false := bne_eq_false_iff_eq.mpr c41
      clear c41
      have H' := Zs.mk H
      clear H
      have hnb42 := NB215_211.out
      have hnc42 := NB211_215.out
      have hnb43 := NB215_212.out
      have hnc43 := NB212_215.out
      have hnb44 := NB215_214.out
      have hnc44 := NB214_215.out
      obtain ⟨hcz45_0, hcz45_1, hfz45_0, hfz45_1⟩ := cf2 BK215
      go_wp2_with (first | ((with_reducible refine gc_ (f := 55) rfl ?_); refine gLc 30 Tryz.func55 (fd_times.calls a0 x216000_1 x216001_1 x216000_1 x216001_1 t218 t219 _ A40.out) (fun w46 hb => ?_); replace BK211 := bkb BK211 hb; replace BK212 := bkb BK212 hb; replace BK214 := bkb BK214 hb; replace BK215 := bkb BK215 hb; replace HB := bls HB hb; clear hb; obtain ⟨hcz47_0, hcz47_1, hfz47_0, hfz47_1⟩ := cf2 BK215))
      go_roundg k1
      case measure => have := HK1.out; omega
      case rel => exact ⟨(x10_1 / 2), (t218), (t219), (by first | rfl | (simp; done) | (simp [*]; done)), H', ⟨by have := HK1.out; omega⟩, bkf BK211, bkf BK212, bkf BK214, ⟨by (with_reducible repeat (first | refine zn ?_ _ | refine zd ?_ | refine za ?_ _)); apply bp2; (with_reducible repeat (first | refine zn ?_ _ | refine zd ?_ | refine za ?_ _)); exact BK215.out⟩, blt HB⟩
     ·rw [if_neg c41] at H
      have c41b0 : ((Go.bits .and .u64 (IntKind.u64.wrap (ji5)) x10_1) == 0) = false := beq_eq_false_iff_ne.mpr c41
      have c41b1 : ((Go.bits .and .u64 (IntKind.u64.wrap (ji5)) x10_1) != 0) = true := bne_iff_ne.mpr c41
      replace H := Option.bind_eq_some_iff.mp H
      obtain ⟨⟨t220, t221⟩, A48, H⟩ := H
      try dsimp only at H
      replace A48 := Zs.mk A48
      have H' := Zs.mk H
      clear H
      have hnb49 := NB215_211.out
      have hnc49 := NB211_215.out
      have hnb50 := NB215_212.out
      have hnc50 := NB212_215.out
      have hnb51 := NB215_214.out
      have hnc51 := NB214_215.out
      obtain ⟨hcz52_0, hcz52_1, hfz52_0, hfz52_1⟩ := cf2 BK215
      go_wp2_with (first | ((with_reducible refine gc_ (f := 55) rfl ?_); refine gLc 30 Tryz.func55 (fd_times.calls a0 x216000_1 x216001_1 x216000_1 x216001_1 t218 t219 _ A40.out) (fun w53 hb => ?_); replace BK211 := bkb BK211 hb; replace BK212 := bkb BK212 hb; replace BK214 := bkb BK214 hb; replace BK215 := bkb BK215 hb; replace HB := bls HB hb; clear hb; obtain ⟨hcz54_0, hcz54_1, hfz54_0, hfz54_1⟩ := cf2 BK215; have hnb55 := NB211_212.out; have hnc55 := NB212_211.out; have hnb56 := NB211_214.out; have hnc56 := NB214_211.out; obtain ⟨hcz57_0, hcz57_1, hfz57_0, hfz57_1⟩ := cf2 BK211) | ((with_reducible refine gc_ (f := 55) rfl ?_); refine gLc 38 Tryz.func55 (fd_times.calls a0 t218 t219 a1_0 a1_1 t220 t221 _ A48.out) (fun w58 hb => ?_); replace BK211 := bkfb BK211 hb; replace BK212 := bkfb BK212 hb; replace BK214 := bkfb BK214 hb; replace BK215 := Zs.mk (blk_below (g := gb215) (o := .cells #[.int .u64 t218, .int .u64 t219] 74 (0, 0)) (by (with_reducible repeat (first | refine zn ?_ _ | refine zd ?_ | refine za ?_ _)); apply bp2; (with_reducible repeat (first | refine zn ?_ _ | refine zd ?_ | refine za ?_ _)); exact BK215.out) hb); replace HB := bls HB hb; clear hb; obtain ⟨hcz59_0, hcz59_1, hfz59_0, hfz59_1⟩ := cf2 BK215))
      go_roundg k1
      case measure => have := HK1.out; omega
      case rel => exact ⟨(x10_1 / 2), (t220), (t221), (by first | rfl | (simp; done) | (simp [*]; done)), H', ⟨by have := HK1.out; omega⟩, bkf BK211, bkf BK212, bkf BK214, ⟨by (with_reducible repeat (first | refine zn ?_ _ | refine zd ?_ | refine za ?_ _)); apply bp2; (with_reducible repeat (first | refine zn ?_ _ | refine zd ?_ | refine za ?_ _)); exact BK215.out⟩, blt HB⟩


mutual
def cx_PowerOf.j0 : Nat → Int → Int → Int → Bool → Int → Int → Option (Int × Int × Int × ByteArray × Int)
 | 0, _, _, _, _, _, _ => none
 | k + 1, x1, x6, x8, x24, x229000, x229001 => if x24 = true then (cx_PowerOf.j1 k x1 x6 2 x229000 x229001) else (cx_PowerOf.j1 k x1 x6 x8 x229000 x229001)
def cx_PowerOf.j1 : Nat → Int → Int → Int → Int → Int → Option (Int × Int × Int × ByteArray × Int)
 | 0, _, _, _, _, _ => none
 | k + 1, x1, x6, x8, x229000, x229001 => if x8 = 0 then ((fd_power.f k x6 x229000 x229001 x1).bind fun bt229 => ((fd_value.f x6 bt229.1 bt229.2).bind fun bt231 => (some (bt231.1, bt231.2.1, bt231.2.2.1, bt231.2.2.2, 0)))) else (some (0, 0, 0, (⟨#[]⟩ : ByteArray), x8))
end
def cx_PowerOf.f (k : Nat) (a0_0 : Int) (a0_1 : Int) (a0_2 : Int) (a0_3 : ByteArray) (a1 : Int) : Option (Int × Int × Int × ByteArray × Int) := (cx_open.f a0_0 a0_1 a0_2 a0_3).bind fun bt224 => (if bt224.2.2.2 = 0 then (if a1 < (-2147483648) then (cx_PowerOf.j0 k a1 bt224.1 bt224.2.2.2 true bt224.2.1 bt224.2.2.1) else (cx_PowerOf.j0 k a1 bt224.1 bt224.2.2.2 (decide (a1 > 2147483647)) bt224.2.1 bt224.2.2.1)) else (cx_PowerOf.j0 k a1 bt224.1 bt224.2.2.2 false bt224.2.1 bt224.2.2.1))
set_option maxHeartbeats 8000000 in
set_option maxRecDepth 100000 in
theorem cx_PowerOf.calls (k : Nat) (a0_0 : Int) (a0_1 : Int) (a0_2 : Int) (a0_3 : ByteArray) (a1 : Int) (r1 : Int) (r2 : Int) (r3 : Int) (r4 : ByteArray) (r5 : Int) (w : World) (h : cx_PowerOf.f k a0_0 a0_1 a0_2 a0_3 a1 = some (r1, r2, r3, r4, r5)) :
  Calls Tryz.prog 22 #[.agg #[.int .i64 a0_0, .int .u64 a0_1, .int .u64 a0_2, .string a0_3], .int .i64 a1] w fun e w' => e = .returned (.tuple #[.agg #[.int .i64 r1, .int .u64 r2, .int .u64 r3, .string r4], .int .i64 r5]) ∧ Below w.heap.size w w' := by
 have hu24 := Tryz.underlying24
 have hu74 := Tryz.underlying74
 have HB := Zs.mk (Below.refl w.heap.size w)
 have H : ((cx_open.f a0_0 a0_1 a0_2 a0_3).bind fun bt224 => (if bt224.2.2.2 = 0 then (if a1 < (-2147483648) then (cx_PowerOf.j0 k a1 bt224.1 bt224.2.2.2 true bt224.2.1 bt224.2.2.1) else (cx_PowerOf.j0 k a1 bt224.1 bt224.2.2.2 (decide (a1 > 2147483647)) bt224.2.1 bt224.2.2.1)) else (cx_PowerOf.j0 k a1 bt224.1 bt224.2.2.2 false bt224.2.1 bt224.2.2.1))) = some (r1, r2, r3, r4, r5) := h
 clear h
 replace H := Option.bind_eq_some_iff.mp H
 obtain ⟨⟨t224, t225, t226, t227⟩, A3, H⟩ := H
 try dsimp only at H
 replace A3 := Zs.mk A3
 have HC4 := Zs.mk H
 clear H
 go_enter Tryz.func22, Tryz.ntmps22
 go_upto_region 2 with (first | ((with_reducible refine gd_ (N := 2) rfl ?_); refine bxe 2 (cs := #[.int .i64 a0_0, .int .u64 a0_1, .int .u64 a0_2, .string a0_3]) (t := 24) ?_; intro gb222 hg w5 hbox hb; have BK222 := Zs.mk hbox; have GW222 := bsz HB hg; have GE222 := bsz HB hg; replace HB := bls HB hb; clear hb hbox hg) | ((with_reducible refine gd_ (N := 4) rfl ?_); refine bxe 4 (cs := #[.int .i64 0, .int .u64 0, .int .u64 0, .string (⟨#[]⟩ : ByteArray)]) (t := 24) ?_; intro gb223 hg w6 hbox hb; have BK223 := Zs.mk hbox; have GW223 := bsz HB hg; have GE223 := bsz HB hg; have NB222_223 := bnl BK222 hg; have NB223_222 := bng BK222 hg; replace BK222 := bkb BK222 hb; replace HB := bls HB hb; clear hb hbox hg; have hnb7 := NB222_223.out; have hnc7 := NB223_222.out; obtain ⟨hcz8_0, hcz8_1, hcz8_2, hcz8_3, hfz8_0, hfz8_1, hfz8_2, hfz8_3⟩ := cf4 BK222) | ((with_reducible refine gc_ (f := 72) rfl ?_); refine gLc 11 Tryz.func72 (cx_open.calls a0_0 a0_1 a0_2 a0_3 t224 t225 t226 t227 _ A3.out) (fun w9 hb => ?_); replace BK222 := bkb BK222 hb; replace BK223 := bkb BK223 hb; replace HB := bls HB hb; clear hb) | ((with_reducible refine gd_ (N := 7) rfl ?_); refine bxe 7 (cs := #[.int .u64 0, .int .u64 0]) (t := 74) ?_; intro gb228 hg w10 hbox hb; have BK228 := Zs.mk hbox; have GW228 := bsz HB hg; have GE228 := bsz HB hg; have NB222_228 := bnl BK222 hg; have NB228_222 := bng BK222 hg; have NB223_228 := bnl BK223 hg; have NB228_223 := bng BK223 hg; replace BK222 := bkb BK222 hb; replace BK223 := bkb BK223 hb; replace HB := bls HB hb; clear hb hbox hg; have hnb11 := NB228_222.out; have hnc11 := NB222_228.out; have hnb12 := NB228_223.out; have hnc12 := NB223_228.out; obtain ⟨hcz13_0, hcz13_1, hfz13_0, hfz13_1⟩ := cf2 BK228))
 (try simp only [Act.put, List.setIfInBounds_toArray, List.set_cons_zero, List.set_cons_succ])
 go_cut [24] (fun v24 wc => ∃ (kq : Nat) (x24_3 : Bool), v24 = .bool x24_3 ∧ Zs (cx_PowerOf.j0 kq a1 t224 t227 x24_3 t225 t226 = some (r1, r2, r3, r4, r5)) ∧ Zs (kq ≤ k) ∧ Zs (wc.heap[gb222]? = some (.cells #[.int .i64 a0_0, .int .u64 a0_1, .int .u64 a0_2, .string a0_3] 24 (0, 0))) ∧ Zs (wc.heap[gb223]? = some (.cells #[.int .i64 0, .int .u64 0, .int .u64 0, .string (⟨#[]⟩ : ByteArray)] 24 (0, 0))) ∧ Zs (wc.heap[gb228]? = some (.cells #[.int .u64 t225, .int .u64 t226] 74 (0, 0))) ∧ Zs (Below w.heap.size w wc))
 case first =>
  have H := HC4.out
  clear HC4
  by_cases c14 : t227 = 0
  ·rw [if_pos c14] at H
   have c14b0 : (t227 == 0) = true := beq_iff_eq.mpr c14
   have c14b1 : (t227 != 0) = false := bne_eq_false_iff_eq.mpr c14
   clear c14
   (first | rw [c14b0] | (simp only [i64_w, i32_w]; rw [c14b0]) | skip)
   by_cases c15 : a1 < (-2147483648)
   ·rw [if_pos c15] at H
    have c15b0 : decide (a1 < (-2147483648)) = true := decide_eq_true c15
    clear c15
    have H' := Zs.mk H
    clear H
    go_wp2
    go_meet
    case rel => exact ⟨_, (true), (by first | rfl | (simp; done) | (simp [*]; done)), H', ⟨by first | omega | exact Nat.le_refl _⟩, bkf BK222, bkf BK223, ⟨by (with_reducible repeat (first | refine zn ?_ _ | refine zd ?_ | refine za ?_ _)); apply bp2; (with_reducible repeat (first | refine zn ?_ _ | refine zd ?_ | refine za ?_ _)); exact BK228.out⟩, blt HB⟩
   ·rw [if_neg c15] at H
    have c15b0 : decide (a1 < (-2147483648)) = false := decide_eq_false c15
    clear c15
    have H' := Zs.mk H
    clear H
    go_wp2
    go_meet
    case rel => exact ⟨_, (decide (a1 > 2147483647)), (by first | rfl | (simp; done) | (simp [*]; done)), H', ⟨by first | omega | exact Nat.le_refl _⟩, bkf BK222, bkf BK223, ⟨by (with_reducible repeat (first | refine zn ?_ _ | refine zd ?_ | refine za ?_ _)); apply bp2; (with_reducible repeat (first | refine zn ?_ _ | refine zd ?_ | refine za ?_ _)); exact BK228.out⟩, blt HB⟩
  ·rw [if_neg c14] at H
   have c14b0 : (t227 == 0) = false := beq_eq_false_iff_ne.mpr c14
   have c14b1 : (t227 != 0) = true := bne_iff_ne.mpr c14
   (first | rw [c14b0] | (simp only [i64_w, i32_w]; rw [c14b0]) | skip)
   have H' := Zs.mk H
   clear H
   go_wp2
   go_meet
   case rel => exact ⟨_, (false), (by first | rfl | (simp; done) | (simp [*]; done)), H', ⟨by first | omega | exact Nat.le_refl _⟩, bkf BK222, bkf BK223, ⟨by (with_reducible repeat (first | refine zn ?_ _ | refine zd ?_ | refine za ?_ _)); apply bp2; (with_reducible repeat (first | refine zn ?_ _ | refine zd ?_ | refine za ?_ _)); exact BK228.out⟩, blt HB⟩
 case rest =>
  clear HC4
  try clear c1
  try clear c2
  try clear p2
  try clear c7
  try clear c11
  try clear c12
  try clear c14
  try clear c14b0
  try clear c14b1
  try clear c15
  try clear c15b0
  try clear hcz13_0
  try clear hcz13_1
  try clear hcz8_0
  try clear hcz8_1
  try clear hcz8_2
  try clear hcz8_3
  try clear hfz13_0
  try clear hfz13_1
  try clear hfz8_0
  try clear hfz8_1
  try clear hfz8_2
  try clear hfz8_3
  obtain ⟨kq, x24_3, rfl, HA, HJ3, BK222, BK223, BK228, HB⟩ := hcut
  cases kq with
  | zero => exact absurd HA.out (by simp [cx_PowerOf.j0])
  | succ kj3 =>
   have H := HA.out
   clear HA
   simp only [cx_PowerOf.j0] at H
   have HC16 := Zs.mk H
   clear H
   go_upto_if 24 with (fail)
   go_cut [8] (fun v8 wc => ∃ (kq : Nat) (x8_15 : Int), v8 = .int .i64 x8_15 ∧ Zs (cx_PowerOf.j1 kq a1 t224 x8_15 t225 t226 = some (r1, r2, r3, r4, r5)) ∧ Zs (kq ≤ kj3) ∧ Zs (wc.heap[gb222]? = some (.cells #[.int .i64 a0_0, .int .u64 a0_1, .int .u64 a0_2, .string a0_3] 24 (0, 0))) ∧ Zs (wc.heap[gb223]? = some (.cells #[.int .i64 0, .int .u64 0, .int .u64 0, .string (⟨#[]⟩ : ByteArray)] 24 (0, 0))) ∧ Zs (wc.heap[gb228]? = some (.cells #[.int .u64 t225, .int .u64 t226] 74 (0, 0))) ∧ Zs (Below w.heap.size w wc))
   case first =>
    have H := HC16.out
    clear HC16
    by_cases c17 : x24_3 = true
    ·subst c17
     have H1 : (cx_PowerOf.j1 kj3 a1 t224 2 t225 t226) = some (r1, r2, r3, r4, r5) := by rw [if_pos rfl] at H; exact H
     clear H
     have H := H1
     clear H1
     have H' := Zs.mk H
     clear H
     go_wp2
     go_meet
     case rel => exact ⟨_, (2), (by first | rfl | (simp; done) | (simp [*]; done)), H', ⟨by have := HJ3.out; first | omega | exact Nat.le_refl _⟩, bks BK222, bks BK223, bks BK228, blt HB⟩
    ·replace c17 := Bool.eq_false_iff.mpr c17
     subst c17
     have H1 : (cx_PowerOf.j1 kj3 a1 t224 t227 t225 t226) = some (r1, r2, r3, r4, r5) := by rw [if_neg (show ¬ (false = true) by decide)] at H; exact H
     clear H
     have H := H1
     clear H1
     have H' := Zs.mk H
     clear H
     go_wp2
     go_meet
     case rel => exact ⟨_, (t227), (by first | rfl | (simp; done) | (simp [*]; done)), H', ⟨by have := HJ3.out; first | omega | exact Nat.le_refl _⟩, bks BK222, bks BK223, bks BK228, blt HB⟩
   case rest =>
    clear HC16
    try clear c1
    try clear c2
    try clear p2
    try clear c7
    try clear c11
    try clear c12
    try clear c14
    try clear c14b0
    try clear c14b1
    try clear c15
    try clear c15b0
    try clear c17
    try clear hcz13_0
    try clear hcz13_1
    try clear hcz8_0
    try clear hcz8_1
    try clear hcz8_2
    try clear hcz8_3
    try clear hfz13_0
    try clear hfz13_1
    try clear hfz8_0
    try clear hfz8_1
    try clear hfz8_2
    try clear hfz8_3
    try clear p2
    obtain ⟨kq, x8_15, rfl, HA, HJ15, BK222, BK223, BK228, HB⟩ := hcut
    cases kq with
    | zero => exact absurd HA.out (by simp [cx_PowerOf.j1])
    | succ kj15 =>
     have H := HA.out
     clear HA
     simp only [cx_PowerOf.j1] at H
     by_cases c18 : x8_15 = 0
     ·rw [if_pos c18] at H
      have c18b0 : (x8_15 == 0) = true := beq_iff_eq.mpr c18
      have c18b1 : (x8_15 != 0) = false := bne_eq_false_iff_eq.mpr c18
      clear c18
      replace H := Option.bind_eq_some_iff.mp H
      obtain ⟨⟨t229, t230⟩, A19, H⟩ := H
      try dsimp only at H
      replace A19 := Zs.mk A19
      replace H := Option.bind_eq_some_iff.mp H
      obtain ⟨⟨t231, t232, t233, t234⟩, A20, H⟩ := H
      try dsimp only at H
      replace A20 := Zs.mk A20
      simp only [Option.some.injEq, Prod.mk.injEq] at H
      obtain ⟨rfl, rfl, rfl, rfl, rfl⟩ := H
      have hnb21 := NB228_222.out
      have hnc21 := NB222_228.out
      have hnb22 := NB228_223.out
      have hnc22 := NB223_228.out
      obtain ⟨hcz23_0, hcz23_1, hfz23_0, hfz23_1⟩ := cf2 BK228
      go_wp2_with (first | ((with_reducible refine gc_ (f := 73) rfl ?_); refine gLc 33 Tryz.func73 (fd_power.calls kj15 t224 t225 t226 a1 t229 t230 _ A19.out) (fun w24 hb => ?_); replace BK222 := bkb BK222 hb; replace BK223 := bkb BK223 hb; replace BK228 := bkb BK228 hb; replace HB := bls HB hb; clear hb) | ((with_reducible refine gc_ (f := 57) rfl ?_); refine gLc 34 Tryz.func57 (fd_value.calls t224 t229 t230 t231 t232 t233 t234 _ A20.out) (fun w25 hb => ?_); replace BK222 := bkb BK222 hb; replace BK223 := bkb BK223 hb; replace BK228 := bkb BK228 hb; replace HB := bls HB hb; clear hb; have hnb26 := NB223_222.out; have hnc26 := NB222_223.out; obtain ⟨hcz27_0, hcz27_1, hcz27_2, hcz27_3, hfz27_0, hfz27_1, hfz27_2, hfz27_3⟩ := cf4 BK223))
      refine bodyPost_ret (results_ct rfl _ _ gb223 24 #[.int .i64 t231, .int .u64 t232, .int .u64 t233, .string t234] (0, 0) _ rfl (by (with_reducible repeat (first | refine zn ?_ _ | refine zd ?_ | refine za ?_ _)); apply bp4; (with_reducible repeat (first | refine zn ?_ _ | refine zd ?_ | refine za ?_ _)); exact BK223.out) Tryz.underlying24 rfl (by kernel_rfl)) rfl ?_
      exact fin_ (blt HB)
     ·rw [if_neg c18] at H
      have c18b0 : (x8_15 == 0) = false := beq_eq_false_iff_ne.mpr c18
      have c18b1 : (x8_15 != 0) = true := bne_iff_ne.mpr c18
      simp only [Option.some.injEq, Prod.mk.injEq] at H
      obtain ⟨rfl, rfl, rfl, rfl, rfl⟩ := H
      have hnb28 := NB223_222.out
      have hnc28 := NB222_223.out
      have hnb29 := NB223_228.out
      have hnc29 := NB228_223.out
      obtain ⟨hcz30_0, hcz30_1, hcz30_2, hcz30_3, hfz30_0, hfz30_1, hfz30_2, hfz30_3⟩ := cf4 BK223
      go_wp2
      refine bodyPost_ret (results_ct rfl _ _ gb223 24 #[.int .i64 0, .int .u64 0, .int .u64 0, .string (⟨#[]⟩ : ByteArray)] (0, 0) _ rfl (by (with_reducible repeat (first | refine zn ?_ _ | refine zd ?_ | refine za ?_ _)); apply bp4; (with_reducible repeat (first | refine zn ?_ _ | refine zd ?_ | refine za ?_ _)); exact BK223.out) Tryz.underlying24 rfl (by kernel_rfl)) rfl ?_
      exact fin_ (blt HB)
def cx_SizeOf.f (k : Nat) (a0_0 : Int) (a0_1 : Int) (a0_2 : Int) (a0_3 : ByteArray) : Option (Int × Int × Int × ByteArray × Int) := (cx_open.f a0_0 a0_1 a0_2 a0_3).bind fun bt237 => (if bt237.2.2.2 = 0 then ((fd_distance.f k bt237.1 bt237.2.1 bt237.2.2.1).bind fun t242 => (some (bt237.1, t242, 0, (⟨#[]⟩ : ByteArray), 0))) else (some (0, 0, 0, (⟨#[]⟩ : ByteArray), bt237.2.2.2)))
set_option maxHeartbeats 8000000 in
set_option maxRecDepth 100000 in
theorem cx_SizeOf.calls (k : Nat) (a0_0 : Int) (a0_1 : Int) (a0_2 : Int) (a0_3 : ByteArray) (r1 : Int) (r2 : Int) (r3 : Int) (r4 : ByteArray) (r5 : Int) (w : World) (h : cx_SizeOf.f k a0_0 a0_1 a0_2 a0_3 = some (r1, r2, r3, r4, r5)) :
  Calls Tryz.prog 26 #[.agg #[.int .i64 a0_0, .int .u64 a0_1, .int .u64 a0_2, .string a0_3]] w fun e w' => e = .returned (.tuple #[.agg #[.int .i64 r1, .int .u64 r2, .int .u64 r3, .string r4], .int .i64 r5]) ∧ Below w.heap.size w w' := by
 have hu24 := Tryz.underlying24
 have hu74 := Tryz.underlying74
 have HB := Zs.mk (Below.refl w.heap.size w)
 have H : ((cx_open.f a0_0 a0_1 a0_2 a0_3).bind fun bt237 => (if bt237.2.2.2 = 0 then ((fd_distance.f k bt237.1 bt237.2.1 bt237.2.2.1).bind fun t242 => (some (bt237.1, t242, 0, (⟨#[]⟩ : ByteArray), 0))) else (some (0, 0, 0, (⟨#[]⟩ : ByteArray), bt237.2.2.2)))) = some (r1, r2, r3, r4, r5) := h
 clear h
 replace H := Option.bind_eq_some_iff.mp H
 obtain ⟨⟨t237, t238, t239, t240⟩, A2, H⟩ := H
 try dsimp only at H
 replace A2 := Zs.mk A2
 by_cases c3 : t240 = 0
 ·rw [if_pos c3] at H
  have c3b0 : (t240 == 0) = true := beq_iff_eq.mpr c3
  have c3b1 : (t240 != 0) = false := bne_eq_false_iff_eq.mpr c3
  clear c3
  replace H := Option.bind_eq_some_iff.mp H
  obtain ⟨t242, A4, H⟩ := H
  try dsimp only at H
  replace A4 := Zs.mk A4
  simp only [Option.some.injEq, Prod.mk.injEq] at H
  obtain ⟨rfl, rfl, rfl, rfl, rfl⟩ := H
  go_enter Tryz.func26, Tryz.ntmps26
  go_wp2_with (first | ((with_reducible refine gd_ (N := 1) rfl ?_); refine bxe 1 (cs := #[.int .i64 a0_0, .int .u64 a0_1, .int .u64 a0_2, .string a0_3]) (t := 24) ?_; intro gb235 hg w5 hbox hb; have BK235 := Zs.mk hbox; have GW235 := bsz HB hg; have GE235 := bsz HB hg; replace HB := bls HB hb; clear hb hbox hg) | ((with_reducible refine gd_ (N := 2) rfl ?_); refine bxe 2 (cs := #[.int .i64 0, .int .u64 0, .int .u64 0, .string (⟨#[]⟩ : ByteArray)]) (t := 24) ?_; intro gb236 hg w6 hbox hb; have BK236 := Zs.mk hbox; have GW236 := bsz HB hg; have GE236 := bsz HB hg; have NB235_236 := bnl BK235 hg; have NB236_235 := bng BK235 hg; replace BK235 := bkb BK235 hb; replace HB := bls HB hb; clear hb hbox hg; have hnb7 := NB235_236.out; have hnc7 := NB236_235.out; obtain ⟨hcz8_0, hcz8_1, hcz8_2, hcz8_3, hfz8_0, hfz8_1, hfz8_2, hfz8_3⟩ := cf4 BK235) | ((with_reducible refine gc_ (f := 72) rfl ?_); refine gLc 9 Tryz.func72 (cx_open.calls a0_0 a0_1 a0_2 a0_3 t237 t238 t239 t240 _ A2.out) (fun w9 hb => ?_); replace BK235 := bkb BK235 hb; replace BK236 := bkb BK236 hb; replace HB := bls HB hb; clear hb) | ((with_reducible refine gd_ (N := 5) rfl ?_); refine bxe 5 (cs := #[.int .u64 0, .int .u64 0]) (t := 74) ?_; intro gb241 hg w10 hbox hb; have BK241 := Zs.mk hbox; have GW241 := bsz HB hg; have GE241 := bsz HB hg; have NB235_241 := bnl BK235 hg; have NB241_235 := bng BK235 hg; have NB236_241 := bnl BK236 hg; have NB241_236 := bng BK236 hg; replace BK235 := bkb BK235 hb; replace BK236 := bkb BK236 hb; replace HB := bls HB hb; clear hb hbox hg; have hnb11 := NB241_235.out; have hnc11 := NB235_241.out; have hnb12 := NB241_236.out; have hnc12 := NB236_241.out; obtain ⟨hcz13_0, hcz13_1, hfz13_0, hfz13_1⟩ := cf2 BK241) | ((with_reducible refine gc_ (f := 79) rfl ?_); refine gLc 20 Tryz.func79 (fd_distance.calls k t237 t238 t239 t242 _ A4.out) (fun w14 hb => ?_); replace BK235 := bkfb BK235 hb; replace BK236 := bkfb BK236 hb; replace BK241 := Zs.mk (blk_below (g := gb241) (o := .cells #[.int .u64 t238, .int .u64 t239] 74 (0, 0)) (by (with_reducible repeat (first | refine zn ?_ _ | refine zd ?_ | refine za ?_ _)); apply bp2; (with_reducible repeat (first | refine zn ?_ _ | refine zd ?_ | refine za ?_ _)); exact BK241.out) hb); replace HB := bls HB hb; clear hb; obtain ⟨hcz15_0, hcz15_1, hcz15_2, hcz15_3, hfz15_0, hfz15_1, hfz15_2, hfz15_3⟩ := cf4 BK236))
  refine bodyPost_ret (results_ct rfl _ _ gb236 24 #[.int .i64 t237, .int .u64 t242, .int .u64 0, .string (⟨#[]⟩ : ByteArray)] (0, 0) _ rfl (by (with_reducible repeat (first | refine zn ?_ _ | refine zd ?_ | refine za ?_ _)); apply bp4; (with_reducible repeat (first | refine zn ?_ _ | refine zd ?_ | refine za ?_ _)); exact BK236.out) Tryz.underlying24 rfl (by kernel_rfl)) rfl ?_
  exact fin_ (blt HB)
 ·rw [if_neg c3] at H
  have c3b0 : (t240 == 0) = false := beq_eq_false_iff_ne.mpr c3
  have c3b1 : (t240 != 0) = true := bne_iff_ne.mpr c3
  simp only [Option.some.injEq, Prod.mk.injEq] at H
  obtain ⟨rfl, rfl, rfl, rfl, rfl⟩ := H
  go_enter Tryz.func26, Tryz.ntmps26
  go_wp2_with (first | ((with_reducible refine gd_ (N := 1) rfl ?_); refine bxe 1 (cs := #[.int .i64 a0_0, .int .u64 a0_1, .int .u64 a0_2, .string a0_3]) (t := 24) ?_; intro gb235 hg w16 hbox hb; have BK235 := Zs.mk hbox; have GW235 := bsz HB hg; have GE235 := bsz HB hg; replace HB := bls HB hb; clear hb hbox hg) | ((with_reducible refine gd_ (N := 2) rfl ?_); refine bxe 2 (cs := #[.int .i64 0, .int .u64 0, .int .u64 0, .string (⟨#[]⟩ : ByteArray)]) (t := 24) ?_; intro gb236 hg w17 hbox hb; have BK236 := Zs.mk hbox; have GW236 := bsz HB hg; have GE236 := bsz HB hg; have NB235_236 := bnl BK235 hg; have NB236_235 := bng BK235 hg; replace BK235 := bkb BK235 hb; replace HB := bls HB hb; clear hb hbox hg; have hnb18 := NB235_236.out; have hnc18 := NB236_235.out; obtain ⟨hcz19_0, hcz19_1, hcz19_2, hcz19_3, hfz19_0, hfz19_1, hfz19_2, hfz19_3⟩ := cf4 BK235) | ((with_reducible refine gc_ (f := 72) rfl ?_); refine gLc 9 Tryz.func72 (cx_open.calls a0_0 a0_1 a0_2 a0_3 t237 t238 t239 t240 _ A2.out) (fun w20 hb => ?_); replace BK235 := bkb BK235 hb; replace BK236 := bkb BK236 hb; replace HB := bls HB hb; clear hb) | ((with_reducible refine gd_ (N := 5) rfl ?_); refine bxe 5 (cs := #[.int .u64 0, .int .u64 0]) (t := 74) ?_; intro gb241 hg w21 hbox hb; have BK241 := Zs.mk hbox; have GW241 := bsz HB hg; have GE241 := bsz HB hg; have NB235_241 := bnl BK235 hg; have NB241_235 := bng BK235 hg; have NB236_241 := bnl BK236 hg; have NB241_236 := bng BK236 hg; replace BK235 := bkb BK235 hb; replace BK236 := bkb BK236 hb; replace HB := bls HB hb; clear hb hbox hg; have hnb22 := NB241_235.out; have hnc22 := NB235_241.out; have hnb23 := NB241_236.out; have hnc23 := NB236_241.out; obtain ⟨hcz24_0, hcz24_1, hfz24_0, hfz24_1⟩ := cf2 BK241; obtain ⟨hcz25_0, hcz25_1, hcz25_2, hcz25_3, hfz25_0, hfz25_1, hfz25_2, hfz25_3⟩ := cf4 BK236))
  refine bodyPost_ret (results_ct rfl _ _ gb236 24 #[.int .i64 0, .int .u64 0, .int .u64 0, .string (⟨#[]⟩ : ByteArray)] (0, 0) _ rfl (by (with_reducible repeat (first | refine zn ?_ _ | refine zd ?_ | refine za ?_ _)); apply bp4; (with_reducible repeat (first | refine zn ?_ _ | refine zd ?_ | refine za ?_ _)); refine blk_far ?_ NB236_241.out _; (with_reducible repeat (first | refine zn ?_ _ | refine zd ?_ | refine za ?_ _)); refine blk_far ?_ NB236_241.out _; (with_reducible repeat (first | refine zn ?_ _ | refine zd ?_ | refine za ?_ _)); exact BK236.out) Tryz.underlying24 rfl (by kernel_rfl)) rfl ?_
  exact fin_ (blt HB)
end Go.Proofs.YtmoimcblmmcffaaGreat.PPC

namespace Go.Proofs.YtmoimcblmmcffaaGreat.PRA
open Go.RowKit Go.Proofs.YtmoimcblmmcffaaGreatW.PrintWords Go.Proofs.YtmoimcblmmcffaaGreatW.PrintLast Go.Proofs.YtmoimcblmmcffaaGreatW.PrintMore
attribute [local go_sem] max2_int min2_int max_two min_two max_three min_three max_four min_four   -- for this text's walks alone
set_option linter.unusedVariables false
set_option linter.unusedSimpArgs false
def errW : Option Int → Value
 | none => .nilIface
 | some c => .iface 0 (.int .i64 c)
theorem errW_none : errW none = .nilIface := rfl
theorem errW_some (c : Int) : errW (some c) = .iface 0 (.int .i64 c) := rfl
end Go.Proofs.YtmoimcblmmcffaaGreat.PRA

namespace Go.Proofs.YtmoimcblmmcffaaGreat.PRA
open Go.RowKit Go.Proofs.YtmoimcblmmcffaaGreatW.PrintWords Go.Proofs.YtmoimcblmmcffaaGreatW.PrintLast Go.Proofs.YtmoimcblmmcffaaGreatW.PrintMore Go.Proofs.YtmoimcblmmcffaaGreatW.PrintZ
attribute [local go_sem] max2_int min2_int max_two min_two max_three min_three max_four min_four   -- for this text's walks alone
set_option linter.unusedVariables false
set_option linter.unusedSimpArgs false
def r10_PartType.f (a0 : Int) : Option (Int) := if a0 = 3 then (some 1) else (some 2)
set_option maxHeartbeats 8000000 in
set_option maxRecDepth 100000 in
theorem r10_PartType.calls (a0 : Int) (r : Int) (w : World) (h : r10_PartType.f a0 = some r) :
  Calls Tryz.prog 16 #[.int .i64 a0] w fun e w' => e = .returned (.int .i64 r) ∧ Drawn0 w w' := by
 have H : (if a0 = 3 then (some 1) else (some 2)) = some r := h
 clear h
 by_cases c2 : a0 = 3
 ·rw [if_pos c2] at H
  have c2b0 : (a0 == 3) = true := beq_iff_eq.mpr c2
  have c2b1 : (a0 != 3) = false := bne_eq_false_iff_eq.mpr c2
  clear c2
  obtain rfl := Option.some.inj H
  go_enter Tryz.func16, Tryz.ntmps16
  go_wp2
  go_ret
  exact ⟨by first | rfl | (simp; done) | (simp [*]; done), by repeat (first | exact Drawn0.refl _ | apply Drawn0.step)⟩
 ·rw [if_neg c2] at H
  have c2b0 : (a0 == 3) = false := beq_eq_false_iff_ne.mpr c2
  have c2b1 : (a0 != 3) = true := bne_iff_ne.mpr c2
  obtain rfl := Option.some.inj H
  go_enter Tryz.func16, Tryz.ntmps16
  go_wp2
  go_ret
  exact ⟨by first | rfl | (simp; done) | (simp [*]; done), by repeat (first | exact Drawn0.refl _ | apply Drawn0.step)⟩
def r10_Made.f (a0 : Int) (a1 : Int) (a2 : Int) : Option (Int × Int × Int × ByteArray) := some (a0, a1, a2, (⟨#[]⟩ : ByteArray))
set_option maxHeartbeats 8000000 in
set_option maxRecDepth 100000 in
theorem r10_Made.calls (a0 : Int) (a1 : Int) (a2 : Int) (r1 : Int) (r2 : Int) (r3 : Int) (r4 : ByteArray) (w : World) (h : r10_Made.f a0 a1 a2 = some (r1, r2, r3, r4)) :
  Calls Tryz.prog 18 #[.int .i64 a0, .int .u64 a1, .int .u64 a2] w fun e w' => e = .returned (.agg #[.int .i64 r1, .int .u64 r2, .int .u64 r3, .string r4]) ∧ Below w.heap.size w w' := by
 have hu24 := Tryz.underlying24
 have HB := Zs.mk (Below.refl w.heap.size w)
 have H : (some (a0, a1, a2, (⟨#[]⟩ : ByteArray))) = some (r1, r2, r3, r4) := h
 clear h
 simp only [Option.some.injEq, Prod.mk.injEq] at H
 obtain ⟨rfl, rfl, rfl, rfl⟩ := H
 go_enter Tryz.func18, Tryz.ntmps18
 go_wp2_with (first | ((with_reducible refine gd_ (N := 6) rfl ?_); refine bxe 6 (cs := #[.int .i64 0, .int .u64 0, .int .u64 0, .string (⟨#[]⟩ : ByteArray)]) (t := 24) ?_; intro gb101 hg w4 hbox hb; have BK101 := Zs.mk hbox; have GW101 := bsz HB hg; have GE101 := bsz HB hg; replace HB := bls HB hb; clear hb hbox hg; obtain ⟨hcz5_0, hcz5_1, hcz5_2, hcz5_3, hfz5_0, hfz5_1, hfz5_2, hfz5_3⟩ := cf4 BK101))
 refine bodyPost_ret (results_cell_row rfl _ _ gb101 24 #[.int .i64 a0, .int .u64 a1, .int .u64 a2, .string (⟨#[]⟩ : ByteArray)] (0, 0) _ rfl (by (with_reducible repeat (first | refine zn ?_ _ | refine zd ?_ | refine za ?_ _)); apply bp4; (with_reducible repeat (first | refine zn ?_ _ | refine zd ?_ | refine za ?_ _)); exact BK101.out) Tryz.underlying24 rfl (by kernel_rfl)) rfl ?_
 exact fin_ (blt HB)
def r10_Add.f (a0_0 : Int) (a0_1 : Int) (a0_2 : Int) (a0_3 : ByteArray) (a1_0 : Int) (a1_1 : Int) (a1_2 : Int) (a1_3 : ByteArray) : Option (Int × Int × Int × ByteArray) := (r10_PartType.f a0_0).bind fun t105 => ((r8_Add.f t105 a0_1 a1_1).bind fun t106 => ((r8_Add.f t105 a0_2 a1_2).bind fun t107 => ((r10_Made.f a0_0 t106 t107).bind fun bt108 => (some (bt108.1, bt108.2.1, bt108.2.2.1, bt108.2.2.2)))))
def r10_Add.T2 : Bool × List (List Nat × List Nat) := (true, [([], []), ([0], [0]), ([], []), ([], []), ([3], [3]), ([], []), ([5], [5]), ([2, 4, 6], [2, 4, 6]), ([], []), ([], []), ([9], [9]), ([], []), ([11], [11]), ([8, 10, 12, 7], [8, 10, 12]), ([1, 7, 13, 13], [1, 7, 13]), ([14, 14, 0, 1, 2, 3, 4, 5, 6, 7, 8, 9, 10, 11, 12, 13, 14], [14])])
def r10_Add.B2 : List Nat := [0, 1, 0, 0, 8, 0, 32, 124, 0, 0, 512, 0, 2048, 8188, 16383, 32767]
theorem r10_Add.tab2 : rtab .any (opsOf Tryz.f58 2) = r10_Add.T2 := by kernel_rfl
theorem r10_Add.bits2 : waitsOk r10_Add.T2.2 r10_Add.B2 = true := by kernel_rfl
set_option maxHeartbeats 8000000 in
set_option maxRecDepth 100000 in
theorem r10_Add.calls (a0_0 : Int) (a0_1 : Int) (a0_2 : Int) (a0_3 : ByteArray) (a1_0 : Int) (a1_1 : Int) (a1_2 : Int) (a1_3 : ByteArray) (r1 : Int) (r2 : Int) (r3 : Int) (r4 : ByteArray) (w : World) (h : r10_Add.f a0_0 a0_1 a0_2 a0_3 a1_0 a1_1 a1_2 a1_3 = some (r1, r2, r3, r4)) :
  Calls Tryz.prog 58 #[.agg #[.int .i64 a0_0, .int .u64 a0_1, .int .u64 a0_2, .string a0_3], .agg #[.int .i64 a1_0, .int .u64 a1_1, .int .u64 a1_2, .string a1_3]] w fun e w' => e = .returned (.agg #[.int .i64 r1, .int .u64 r2, .int .u64 r3, .string r4]) ∧ Below w.heap.size w w' := by
 have hu24 := Tryz.underlying24
 have HB := Zs.mk (Below.refl w.heap.size w)
 have H : ((r10_PartType.f a0_0).bind fun t105 => ((r8_Add.f t105 a0_1 a1_1).bind fun t106 => ((r8_Add.f t105 a0_2 a1_2).bind fun t107 => ((r10_Made.f a0_0 t106 t107).bind fun bt108 => (some (bt108.1, bt108.2.1, bt108.2.2.1, bt108.2.2.2)))))) = some (r1, r2, r3, r4) := h
 clear h
 replace H := Option.bind_eq_some_iff.mp H
 obtain ⟨t105, A3, H⟩ := H
 try dsimp only at H
 replace A3 := Zs.mk A3
 replace H := Option.bind_eq_some_iff.mp H
 obtain ⟨t106, A4, H⟩ := H
 try dsimp only at H
 replace A4 := Zs.mk A4
 replace H := Option.bind_eq_some_iff.mp H
 obtain ⟨t107, A5, H⟩ := H
 try dsimp only at H
 replace A5 := Zs.mk A5
 replace H := Option.bind_eq_some_iff.mp H
 obtain ⟨⟨t108, t109, t110, t111⟩, A6, H⟩ := H
 try dsimp only at H
 replace A6 := Zs.mk A6
 simp only [Option.some.injEq, Prod.mk.injEq] at H
 obtain ⟨rfl, rfl, rfl, rfl⟩ := H
 go_enter Tryz.func58, Tryz.ntmps58
 try go_wp2_with (first | ((with_reducible refine gd_ (N := 2) rfl ?_); refine bxe 2 (cs := #[.int .i64 a0_0, .int .u64 a0_1, .int .u64 a0_2, .string a0_3]) (t := 24) ?_; intro gb102 hg w7 hbox hb; have BK102 := Zs.mk hbox; have GW102 := bsz HB hg; have GE102 := bsz HB hg; replace HB := bls HB hb; clear hb hbox hg) | ((with_reducible refine gd_ (N := 3) rfl ?_); refine bxe 3 (cs := #[.int .i64 a1_0, .int .u64 a1_1, .int .u64 a1_2, .string a1_3]) (t := 24) ?_; intro gb103 hg w8 hbox hb; have BK103 := Zs.mk hbox; have GW103 := bsz HB hg; have GE103 := bsz HB hg; have NB102_103 := bnl BK102 hg; have NB103_102 := bng BK102 hg; replace BK102 := bkb BK102 hb; replace HB := bls HB hb; clear hb hbox hg) | ((with_reducible refine gd_ (N := 4) rfl ?_); refine bxe 4 (cs := #[.int .i64 0, .int .u64 0, .int .u64 0, .string (⟨#[]⟩ : ByteArray)]) (t := 24) ?_; intro gb104 hg w9 hbox hb; have BK104 := Zs.mk hbox; have GW104 := bsz HB hg; have GE104 := bsz HB hg; have NB102_104 := bnl BK102 hg; have NB104_102 := bng BK102 hg; have NB103_104 := bnl BK103 hg; have NB104_103 := bng BK103 hg; replace BK102 := bkb BK102 hb; replace BK103 := bkb BK103 hb; replace HB := bls HB hb; clear hb hbox hg; have hnb10 := NB102_103.out; have hnc10 := NB103_102.out; have hnb11 := NB102_104.out; have hnc11 := NB104_102.out; obtain ⟨hcz12_0, hcz12_1, hcz12_2, hcz12_3, hfz12_0, hfz12_1, hfz12_2, hfz12_3⟩ := cf4 BK102) | ((with_reducible refine gc_ (f := 16) rfl ?_); refine gLc 8 Tryz.func16 (r10_PartType.calls a0_0 t105 _ A3.out) (fun _ h_ => ?_); obtain ⟨nd, rfl⟩ := h_; (try (rw [drewN_self w9]; generalize hq_ : World.drewN w9 _ = w9; have n0_ : Zs (w9.heap[gb102]? = some (.cells #[.int .i64 a0_0, .int .u64 a0_1, .int .u64 a0_2, .string a0_3] 24 (0, 0))) := ⟨by rw [← hq_]; exact (bks BK102).out⟩; have n1_ : Zs (w9.heap[gb103]? = some (.cells #[.int .i64 a1_0, .int .u64 a1_1, .int .u64 a1_2, .string a1_3] 24 (0, 0))) := ⟨by rw [← hq_]; exact (bks BK103).out⟩; have n2_ : Zs (w9.heap[gb104]? = some (.cells #[.int .i64 0, .int .u64 0, .int .u64 0, .string (⟨#[]⟩ : ByteArray)] 24 (0, 0))) := ⟨by rw [← hq_]; exact (bks BK104).out⟩; have n3_ : Zs (Below w.heap.size w w9) := ⟨by rw [← hq_]; exact (blt HB).out⟩; clear BK102 BK103 BK104 HB hq_; have BK102 := n0_; have BK103 := n1_; have BK104 := n2_; have HB := n3_; clear n0_ n1_ n2_ n3_))))
 replace BK102 := Zs.mk (zd BK102.out)
 replace BK103 := Zs.mk (zd BK103.out)
 replace BK104 := Zs.mk (zd BK104.out)
 replace HB := Zs.mk (below_drew1 HB.out)
 refine start_ (n := 16) (S := fun w' => w'.cell? ⟨gb102, 0, none⟩ = some (.int .i64 a0_0) ∧ w'.cell? ⟨gb102, 1, none⟩ = some (.int .u64 a0_1) ∧ w'.cell? ⟨gb102, 2, none⟩ = some (.int .u64 a0_2) ∧ w'.cell? ⟨gb102, 3, none⟩ = some (.string a0_3) ∧ w'.cell? ⟨gb103, 0, none⟩ = some (.int .i64 a1_0) ∧ w'.cell? ⟨gb103, 1, none⟩ = some (.int .u64 a1_1) ∧ w'.cell? ⟨gb103, 2, none⟩ = some (.int .u64 a1_2) ∧ w'.cell? ⟨gb103, 3, none⟩ = some (.string a1_3)) (ds := []) #[false, false, false, false, false, false, false, false, false, false, false, false, false, false, false, false] (by kernel_rfl) rfl rfl ⟨(zc BK102.out 0).trans rfl, (zc BK102.out 1).trans rfl, (zc BK102.out 2).trans rfl, (zc BK102.out 3).trans rfl, (zc BK103.out 0).trans rfl, (zc BK103.out 1).trans rfl, (zc BK103.out 2).trans rfl, (zc BK103.out 3).trans rfl⟩ (fun hHeld => ?_); refine with_tabW r10_Add.tab2 r10_Add.bits2 (fun HT_ HW_ => ?_)
 generalize w9.drew = w13 at BK102 BK103 BK104 HB hHeld ⊢
 refine pu 0 9 HT_ ?_
 refine pu 2 11 HT_ ?_
 refine pu 3 12 HT_ ?_
 refine pu 5 14 HT_ ?_
 refine pu 8 17 HT_ ?_
 refine pu 9 18 HT_ ?_
 refine pu 11 20 HT_ ?_
 refine tk 1 10 HT_ HW_ hHeld ?_
 refine tk 4 13 HT_ HW_ hHeld ?_
 refine tk 6 15 HT_ HW_ hHeld ?_
 refine tk 10 19 HT_ HW_ hHeld ?_
 refine tk 12 21 HT_ HW_ hHeld ?_
 refine on 7 16 HT_ (fun K hK => ?_)
 refine gsc Tryz.func63 (r8_Add.calls t105 a0_1 a1_1 t106 _ A4.out) (fun w14 hb => ?_)
 replace BK102 := bkb BK102 hb
 replace BK103 := bkb BK103 hb
 replace BK104 := bkb BK104 hb
 replace HB := bls HB hb
 (try clear hb)
 (try clear hb2)
 (try clear hk)
 (try clear hi)
 refine hK.out _ _ ⟨(zc BK102.out 0).trans rfl, (zc BK102.out 1).trans rfl, (zc BK102.out 2).trans rfl, (zc BK102.out 3).trans rfl, (zc BK103.out 0).trans rfl, (zc BK103.out 1).trans rfl, (zc BK103.out 2).trans rfl, (zc BK103.out 3).trans rfl⟩ (fun hHeld => ?_)
 clear hK K
 refine nm 16 ?_
 refine on 13 22 HT_ (fun K hK => ?_)
 refine gsc Tryz.func63 (r8_Add.calls t105 a0_2 a1_2 t107 _ A5.out) (fun w15 hb => ?_)
 replace BK102 := bkb BK102 hb
 replace BK103 := bkb BK103 hb
 replace BK104 := bkb BK104 hb
 replace HB := bls HB hb
 (try clear hb)
 (try clear hb2)
 (try clear hk)
 (try clear hi)
 refine hK.out _ _ ⟨(zc BK102.out 0).trans rfl, (zc BK102.out 1).trans rfl, (zc BK102.out 2).trans rfl, (zc BK102.out 3).trans rfl, (zc BK103.out 0).trans rfl, (zc BK103.out 1).trans rfl, (zc BK103.out 2).trans rfl, (zc BK103.out 3).trans rfl⟩ (fun hHeld => ?_)
 clear hK K
 refine nm 22 ?_
 refine on 14 23 HT_ (fun K hK => ?_)
 refine gsc Tryz.func18 (r10_Made.calls a0_0 t106 t107 t108 t109 t110 t111 _ A6.out) (fun w16 hb => ?_)
 replace BK102 := bkb BK102 hb
 replace BK103 := bkb BK103 hb
 replace BK104 := bkb BK104 hb
 replace HB := bls HB hb
 (try clear hb)
 (try clear hb2)
 (try clear hk)
 (try clear hi)
 refine hK.out _ _ ⟨(zc BK102.out 0).trans rfl, (zc BK102.out 1).trans rfl, (zc BK102.out 2).trans rfl, (zc BK102.out 3).trans rfl, (zc BK103.out 0).trans rfl, (zc BK103.out 1).trans rfl, (zc BK103.out 2).trans rfl, (zc BK103.out 3).trans rfl⟩ (fun hHeld => ?_)
 clear hK K
 refine nm 23 ?_
 refine one_ (i := 15) (N := none) #[true, true, true, true, true, true, true, true, true, true, true, true, true, true, true, true] rfl rfl (one_of HT_.out (by kernel_rfl)) (by decide) (fun K hK => ?_)
 have hs17 : w16.cell? ⟨gb104, 0, none⟩ = some (.int .i64 0) := (zc BK104.out 0).trans rfl
 have hfs17 := zf BK104.out 0
 have hns17_0 := NB102_104.out
 have hns17_1 := NB103_104.out
 have hms17_0 := NB104_102.out
 have hms17_1 := NB104_103.out
 have hs18 : w16.cell? ⟨gb104, 1, none⟩ = some (.int .u64 0) := (zc BK104.out 1).trans rfl
 have hfs18 := zf BK104.out 1
 have hns18_0 := NB102_104.out
 have hns18_1 := NB103_104.out
 have hms18_0 := NB104_102.out
 have hms18_1 := NB104_103.out
 have hs19 : w16.cell? ⟨gb104, 2, none⟩ = some (.int .u64 0) := (zc BK104.out 2).trans rfl
 have hfs19 := zf BK104.out 2
 have hns19_0 := NB102_104.out
 have hns19_1 := NB103_104.out
 have hms19_0 := NB104_102.out
 have hms19_1 := NB104_103.out
 have hs20 : w16.cell? ⟨gb104, 3, none⟩ = some (.string (⟨#[]⟩ : ByteArray)) := (zc BK104.out 3).trans rfl
 have hfs20 := zf BK104.out 3
 have hns20_0 := NB102_104.out
 have hns20_1 := NB103_104.out
 have hms20_0 := NB104_102.out
 have hms20_1 := NB104_103.out
 refine skip_ (w1 := ?_) (by rfl) rfl ?_ ?_
 rotate_left
 ·go_simp
  rfl
 refine hK.out _ _ ⟨((cell_far (p := ⟨gb104, _, none⟩) NB102_104.out _).trans (((cell_far (p := ⟨gb104, _, none⟩) NB102_104.out _).trans (((cell_far (p := ⟨gb104, _, none⟩) NB102_104.out _).trans (((cell_far (p := ⟨gb104, _, none⟩) NB102_104.out _).trans (hHeld.1)))))))), ((cell_far (p := ⟨gb104, _, none⟩) NB102_104.out _).trans (((cell_far (p := ⟨gb104, _, none⟩) NB102_104.out _).trans (((cell_far (p := ⟨gb104, _, none⟩) NB102_104.out _).trans (((cell_far (p := ⟨gb104, _, none⟩) NB102_104.out _).trans (hHeld.2.1)))))))), ((cell_far (p := ⟨gb104, _, none⟩) NB102_104.out _).trans (((cell_far (p := ⟨gb104, _, none⟩) NB102_104.out _).trans (((cell_far (p := ⟨gb104, _, none⟩) NB102_104.out _).trans (((cell_far (p := ⟨gb104, _, none⟩) NB102_104.out _).trans (hHeld.2.2.1)))))))), ((cell_far (p := ⟨gb104, _, none⟩) NB102_104.out _).trans (((cell_far (p := ⟨gb104, _, none⟩) NB102_104.out _).trans (((cell_far (p := ⟨gb104, _, none⟩) NB102_104.out _).trans (((cell_far (p := ⟨gb104, _, none⟩) NB102_104.out _).trans (hHeld.2.2.2.1)))))))), ((cell_far (p := ⟨gb104, _, none⟩) NB103_104.out _).trans (((cell_far (p := ⟨gb104, _, none⟩) NB103_104.out _).trans (((cell_far (p := ⟨gb104, _, none⟩) NB103_104.out _).trans (((cell_far (p := ⟨gb104, _, none⟩) NB103_104.out _).trans (hHeld.2.2.2.2.1)))))))), ((cell_far (p := ⟨gb104, _, none⟩) NB103_104.out _).trans (((cell_far (p := ⟨gb104, _, none⟩) NB103_104.out _).trans (((cell_far (p := ⟨gb104, _, none⟩) NB103_104.out _).trans (((cell_far (p := ⟨gb104, _, none⟩) NB103_104.out _).trans (hHeld.2.2.2.2.2.1)))))))), ((cell_far (p := ⟨gb104, _, none⟩) NB103_104.out _).trans (((cell_far (p := ⟨gb104, _, none⟩) NB103_104.out _).trans (((cell_far (p := ⟨gb104, _, none⟩) NB103_104.out _).trans (((cell_far (p := ⟨gb104, _, none⟩) NB103_104.out _).trans (hHeld.2.2.2.2.2.2.1)))))))), ((cell_far (p := ⟨gb104, _, none⟩) NB103_104.out _).trans (((cell_far (p := ⟨gb104, _, none⟩) NB103_104.out _).trans (((cell_far (p := ⟨gb104, _, none⟩) NB103_104.out _).trans (((cell_far (p := ⟨gb104, _, none⟩) NB103_104.out _).trans (hHeld.2.2.2.2.2.2.2))))))))⟩ (fun hHeld => ?_)
 clear hK K
 refine done_ (done_of HT_.out (by kernel_rfl)) ?_
 try go_wp2
 refine bodyPost_ret (results_cell_row rfl _ _ gb104 24 #[.int .i64 t108, .int .u64 t109, .int .u64 t110, .string t111] (0, 0) _ rfl (by (with_reducible repeat (first | refine zn ?_ _ | refine zd ?_ | refine za ?_ _)); apply bp4; (with_reducible repeat (first | refine zn ?_ _ | refine zd ?_ | refine za ?_ _)); exact BK104.out) Tryz.underlying24 rfl (by kernel_rfl)) rfl ?_
 exact fin_ (blt HB)
end Go.Proofs.YtmoimcblmmcffaaGreat.PRA

namespace Go.Proofs.YtmoimcblmmcffaaGreat.PRA
open Go.RowKit Go.Proofs.YtmoimcblmmcffaaGreatW.PrintWords Go.Proofs.YtmoimcblmmcffaaGreatW.PrintLast Go.Proofs.YtmoimcblmmcffaaGreatW.PrintMore Go.Proofs.YtmoimcblmmcffaaGreatW.PrintZ
attribute [local go_sem] max2_int min2_int max_two min_two max_three min_three max_four min_four   -- for this text's walks alone
set_option linter.unusedVariables false
set_option linter.unusedSimpArgs false
def r10_Mul.f (a0_0 : Int) (a0_1 : Int) (a0_2 : Int) (a0_3 : ByteArray) (a1_0 : Int) (a1_1 : Int) (a1_2 : Int) (a1_3 : ByteArray) : Option (Int × Int × Int × ByteArray) := (r10_PartType.f a0_0).bind fun t125 => ((r8_Mul.f t125 a0_1 a1_1).bind fun t126 => ((r8_Mul.f t125 a0_2 a1_2).bind fun t127 => ((r8_Minus2.f t125 t126 t127).bind fun t128 => ((r8_Mul.f t125 a0_1 a1_2).bind fun t129 => ((r8_Mul.f t125 a0_2 a1_1).bind fun t130 => ((r8_Add.f t125 t129 t130).bind fun t131 => ((r10_Made.f a0_0 t128 t131).bind fun bt132 => (some (bt132.1, bt132.2.1, bt132.2.2.1, bt132.2.2.2)))))))))
def r10_Mul.T2 : Bool × List (List Nat × List Nat) := (true, [([], []), ([], []), ([], []), ([2], [2]), ([], []), ([4], [4]), ([1, 3, 5], [1, 3, 5]), ([], []), ([], []), ([8], [8]), ([], []), ([10], [10]), ([7, 9, 11, 6], [7, 9, 11]), ([0, 6, 12, 12], [0, 6, 12]), ([13, 13, 0, 1, 2, 3, 4, 5, 6, 7, 8, 9, 10, 11, 12, 13], [13])])
def r10_Mul.B2 : List Nat := [0, 0, 0, 4, 0, 16, 62, 0, 0, 256, 0, 1024, 4094, 8191, 16383]
theorem r10_Mul.tab2 : rtab .any (opsOf Tryz.f60 2) = r10_Mul.T2 := by kernel_rfl
theorem r10_Mul.bits2 : waitsOk r10_Mul.T2.2 r10_Mul.B2 = true := by kernel_rfl
def r10_Mul.T3 : Bool × List (List Nat × List Nat) := (true, [([], []), ([], []), ([], []), ([2], [2]), ([], []), ([4], [4]), ([1, 3, 5], [1, 3, 5]), ([], []), ([], []), ([8], [8]), ([], []), ([10], [10]), ([7, 9, 11, 6], [7, 9, 11]), ([0, 6, 12, 12], [0, 6, 12]), ([13, 13, 0, 1, 2, 3, 4, 5, 6, 7, 8, 9, 10, 11, 12, 13], [13])])
def r10_Mul.B3 : List Nat := [0, 0, 0, 4, 0, 16, 62, 0, 0, 256, 0, 1024, 4094, 8191, 16383]
theorem r10_Mul.tab3 : rtab .any (opsOf Tryz.f60 3) = r10_Mul.T3 := by kernel_rfl
theorem r10_Mul.bits3 : waitsOk r10_Mul.T3.2 r10_Mul.B3 = true := by kernel_rfl
set_option maxHeartbeats 8000000 in
set_option maxRecDepth 100000 in
theorem r10_Mul.calls (a0_0 : Int) (a0_1 : Int) (a0_2 : Int) (a0_3 : ByteArray) (a1_0 : Int) (a1_1 : Int) (a1_2 : Int) (a1_3 : ByteArray) (r1 : Int) (r2 : Int) (r3 : Int) (r4 : ByteArray) (w : World) (h : r10_Mul.f a0_0 a0_1 a0_2 a0_3 a1_0 a1_1 a1_2 a1_3 = some (r1, r2, r3, r4)) :
  Calls Tryz.prog 60 #[.agg #[.int .i64 a0_0, .int .u64 a0_1, .int .u64 a0_2, .string a0_3], .agg #[.int .i64 a1_0, .int .u64 a1_1, .int .u64 a1_2, .string a1_3]] w fun e w' => e = .returned (.agg #[.int .i64 r1, .int .u64 r2, .int .u64 r3, .string r4]) ∧ Below w.heap.size w w' := by
 have hu24 := Tryz.underlying24
 have HB := Zs.mk (Below.refl w.heap.size w)
 have H : ((r10_PartType.f a0_0).bind fun t125 => ((r8_Mul.f t125 a0_1 a1_1).bind fun t126 => ((r8_Mul.f t125 a0_2 a1_2).bind fun t127 => ((r8_Minus2.f t125 t126 t127).bind fun t128 => ((r8_Mul.f t125 a0_1 a1_2).bind fun t129 => ((r8_Mul.f t125 a0_2 a1_1).bind fun t130 => ((r8_Add.f t125 t129 t130).bind fun t131 => ((r10_Made.f a0_0 t128 t131).bind fun bt132 => (some (bt132.1, bt132.2.1, bt132.2.2.1, bt132.2.2.2)))))))))) = some (r1, r2, r3, r4) := h
 clear h
 replace H := Option.bind_eq_some_iff.mp H
 obtain ⟨t125, A3, H⟩ := H
 try dsimp only at H
 replace A3 := Zs.mk A3
 replace H := Option.bind_eq_some_iff.mp H
 obtain ⟨t126, A4, H⟩ := H
 try dsimp only at H
 replace A4 := Zs.mk A4
 replace H := Option.bind_eq_some_iff.mp H
 obtain ⟨t127, A5, H⟩ := H
 try dsimp only at H
 replace A5 := Zs.mk A5
 replace H := Option.bind_eq_some_iff.mp H
 obtain ⟨t128, A6, H⟩ := H
 try dsimp only at H
 replace A6 := Zs.mk A6
 replace H := Option.bind_eq_some_iff.mp H
 obtain ⟨t129, A7, H⟩ := H
 try dsimp only at H
 replace A7 := Zs.mk A7
 replace H := Option.bind_eq_some_iff.mp H
 obtain ⟨t130, A8, H⟩ := H
 try dsimp only at H
 replace A8 := Zs.mk A8
 replace H := Option.bind_eq_some_iff.mp H
 obtain ⟨t131, A9, H⟩ := H
 try dsimp only at H
 replace A9 := Zs.mk A9
 replace H := Option.bind_eq_some_iff.mp H
 obtain ⟨⟨t132, t133, t134, t135⟩, A10, H⟩ := H
 try dsimp only at H
 replace A10 := Zs.mk A10
 simp only [Option.some.injEq, Prod.mk.injEq] at H
 obtain ⟨rfl, rfl, rfl, rfl⟩ := H
 go_enter Tryz.func60, Tryz.ntmps60
 try go_wp2_with (first | ((with_reducible refine gd_ (N := 2) rfl ?_); refine bxe 2 (cs := #[.int .i64 a0_0, .int .u64 a0_1, .int .u64 a0_2, .string a0_3]) (t := 24) ?_; intro gb122 hg w11 hbox hb; have BK122 := Zs.mk hbox; have GW122 := bsz HB hg; have GE122 := bsz HB hg; replace HB := bls HB hb; clear hb hbox hg) | ((with_reducible refine gd_ (N := 3) rfl ?_); refine bxe 3 (cs := #[.int .i64 a1_0, .int .u64 a1_1, .int .u64 a1_2, .string a1_3]) (t := 24) ?_; intro gb123 hg w12 hbox hb; have BK123 := Zs.mk hbox; have GW123 := bsz HB hg; have GE123 := bsz HB hg; have NB122_123 := bnl BK122 hg; have NB123_122 := bng BK122 hg; replace BK122 := bkb BK122 hb; replace HB := bls HB hb; clear hb hbox hg) | ((with_reducible refine gd_ (N := 4) rfl ?_); refine bxe 4 (cs := #[.int .i64 0, .int .u64 0, .int .u64 0, .string (⟨#[]⟩ : ByteArray)]) (t := 24) ?_; intro gb124 hg w13 hbox hb; have BK124 := Zs.mk hbox; have GW124 := bsz HB hg; have GE124 := bsz HB hg; have NB122_124 := bnl BK122 hg; have NB124_122 := bng BK122 hg; have NB123_124 := bnl BK123 hg; have NB124_123 := bng BK123 hg; replace BK122 := bkb BK122 hb; replace BK123 := bkb BK123 hb; replace HB := bls HB hb; clear hb hbox hg; have hnb14 := NB122_123.out; have hnc14 := NB123_122.out; have hnb15 := NB122_124.out; have hnc15 := NB124_122.out; obtain ⟨hcz16_0, hcz16_1, hcz16_2, hcz16_3, hfz16_0, hfz16_1, hfz16_2, hfz16_3⟩ := cf4 BK122) | ((with_reducible refine gc_ (f := 16) rfl ?_); refine gLc 10 Tryz.func16 (r10_PartType.calls a0_0 t125 _ A3.out) (fun _ h_ => ?_); obtain ⟨nd, rfl⟩ := h_; (try (rw [drewN_self w13]; generalize hq_ : World.drewN w13 _ = w13; have n0_ : Zs (w13.heap[gb122]? = some (.cells #[.int .i64 a0_0, .int .u64 a0_1, .int .u64 a0_2, .string a0_3] 24 (0, 0))) := ⟨by rw [← hq_]; exact (bks BK122).out⟩; have n1_ : Zs (w13.heap[gb123]? = some (.cells #[.int .i64 a1_0, .int .u64 a1_1, .int .u64 a1_2, .string a1_3] 24 (0, 0))) := ⟨by rw [← hq_]; exact (bks BK123).out⟩; have n2_ : Zs (w13.heap[gb124]? = some (.cells #[.int .i64 0, .int .u64 0, .int .u64 0, .string (⟨#[]⟩ : ByteArray)] 24 (0, 0))) := ⟨by rw [← hq_]; exact (bks BK124).out⟩; have n3_ : Zs (Below w.heap.size w w13) := ⟨by rw [← hq_]; exact (blt HB).out⟩; clear BK122 BK123 BK124 HB hq_; have BK122 := n0_; have BK123 := n1_; have BK124 := n2_; have HB := n3_; clear n0_ n1_ n2_ n3_))))
 replace BK122 := Zs.mk (zd BK122.out)
 replace BK123 := Zs.mk (zd BK123.out)
 replace BK124 := Zs.mk (zd BK124.out)
 replace HB := Zs.mk (below_drew1 HB.out)
 refine start_ (n := 15) (S := fun w' => w'.cell? ⟨gb122, 0, none⟩ = some (.int .i64 a0_0) ∧ w'.cell? ⟨gb122, 1, none⟩ = some (.int .u64 a0_1) ∧ w'.cell? ⟨gb122, 2, none⟩ = some (.int .u64 a0_2) ∧ w'.cell? ⟨gb122, 3, none⟩ = some (.string a0_3) ∧ w'.cell? ⟨gb123, 0, none⟩ = some (.int .i64 a1_0) ∧ w'.cell? ⟨gb123, 1, none⟩ = some (.int .u64 a1_1) ∧ w'.cell? ⟨gb123, 2, none⟩ = some (.int .u64 a1_2) ∧ w'.cell? ⟨gb123, 3, none⟩ = some (.string a1_3)) (ds := []) #[false, false, false, false, false, false, false, false, false, false, false, false, false, false, false] (by kernel_rfl) rfl rfl ⟨(zc BK122.out 0).trans rfl, (zc BK122.out 1).trans rfl, (zc BK122.out 2).trans rfl, (zc BK122.out 3).trans rfl, (zc BK123.out 0).trans rfl, (zc BK123.out 1).trans rfl, (zc BK123.out 2).trans rfl, (zc BK123.out 3).trans rfl⟩ (fun hHeld => ?_); refine with_tabW r10_Mul.tab2 r10_Mul.bits2 (fun HT_ HW_ => ?_)
 generalize w13.drew = w17 at BK122 BK123 BK124 HB hHeld ⊢
 refine pu 0 11 HT_ ?_
 refine pu 1 12 HT_ ?_
 refine pu 2 13 HT_ ?_
 refine pu 4 15 HT_ ?_
 refine pu 7 18 HT_ ?_
 refine pu 8 19 HT_ ?_
 refine pu 10 21 HT_ ?_
 refine tk 3 14 HT_ HW_ hHeld ?_
 refine tk 5 16 HT_ HW_ hHeld ?_
 refine tk 9 20 HT_ HW_ hHeld ?_
 refine tk 11 22 HT_ HW_ hHeld ?_
 refine on 6 17 HT_ (fun K hK => ?_)
 refine gsc Tryz.func65 (r8_Mul.calls t125 a0_1 a1_1 t126 _ A4.out) (fun w18 hb => ?_)
 replace BK122 := bkb BK122 hb
 replace BK123 := bkb BK123 hb
 replace BK124 := bkb BK124 hb
 replace HB := bls HB hb
 (try clear hb)
 (try clear hb2)
 (try clear hk)
 (try clear hi)
 refine hK.out _ _ ⟨(zc BK122.out 0).trans rfl, (zc BK122.out 1).trans rfl, (zc BK122.out 2).trans rfl, (zc BK122.out 3).trans rfl, (zc BK123.out 0).trans rfl, (zc BK123.out 1).trans rfl, (zc BK123.out 2).trans rfl, (zc BK123.out 3).trans rfl⟩ (fun hHeld => ?_)
 clear hK K
 refine nm 17 ?_
 refine on 12 23 HT_ (fun K hK => ?_)
 refine gsc Tryz.func65 (r8_Mul.calls t125 a0_2 a1_2 t127 _ A5.out) (fun w19 hb => ?_)
 replace BK122 := bkb BK122 hb
 replace BK123 := bkb BK123 hb
 replace BK124 := bkb BK124 hb
 replace HB := bls HB hb
 (try clear hb)
 (try clear hb2)
 (try clear hk)
 (try clear hi)
 refine hK.out _ _ ⟨(zc BK122.out 0).trans rfl, (zc BK122.out 1).trans rfl, (zc BK122.out 2).trans rfl, (zc BK122.out 3).trans rfl, (zc BK123.out 0).trans rfl, (zc BK123.out 1).trans rfl, (zc BK123.out 2).trans rfl, (zc BK123.out 3).trans rfl⟩ (fun hHeld => ?_)
 clear hK K
 refine nm 23 ?_
 refine on 13 24 HT_ (fun K hK => ?_)
 refine gsc Tryz.func64 (r8_Minus2.calls t125 t126 t127 t128 _ A6.out) (fun w20 hb => ?_)
 replace BK122 := bkb BK122 hb
 replace BK123 := bkb BK123 hb
 replace BK124 := bkb BK124 hb
 replace HB := bls HB hb
 (try clear hb)
 (try clear hb2)
 (try clear hk)
 (try clear hi)
 refine hK.out _ _ ⟨(zc BK122.out 0).trans rfl, (zc BK122.out 1).trans rfl, (zc BK122.out 2).trans rfl, (zc BK122.out 3).trans rfl, (zc BK123.out 0).trans rfl, (zc BK123.out 1).trans rfl, (zc BK123.out 2).trans rfl, (zc BK123.out 3).trans rfl⟩ (fun hHeld => ?_)
 clear hK K
 refine nm 24 ?_
 refine pu 14 6 HT_ ?_
 refine done_ (done_of HT_.out (by kernel_rfl)) ?_
 try go_wp2
 replace BK122 := Zs.mk (zd BK122.out)
 replace BK123 := Zs.mk (zd BK123.out)
 replace BK124 := Zs.mk (zd BK124.out)
 replace HB := Zs.mk (below_drew1 HB.out)
 refine start_ (n := 15) (S := fun w' => w'.cell? ⟨gb122, 0, none⟩ = some (.int .i64 a0_0) ∧ w'.cell? ⟨gb122, 1, none⟩ = some (.int .u64 a0_1) ∧ w'.cell? ⟨gb122, 2, none⟩ = some (.int .u64 a0_2) ∧ w'.cell? ⟨gb122, 3, none⟩ = some (.string a0_3) ∧ w'.cell? ⟨gb123, 0, none⟩ = some (.int .i64 a1_0) ∧ w'.cell? ⟨gb123, 1, none⟩ = some (.int .u64 a1_1) ∧ w'.cell? ⟨gb123, 2, none⟩ = some (.int .u64 a1_2) ∧ w'.cell? ⟨gb123, 3, none⟩ = some (.string a1_3)) (ds := []) #[false, false, false, false, false, false, false, false, false, false, false, false, false, false, false] (by kernel_rfl) rfl rfl ⟨(zc BK122.out 0).trans rfl, (zc BK122.out 1).trans rfl, (zc BK122.out 2).trans rfl, (zc BK122.out 3).trans rfl, (zc BK123.out 0).trans rfl, (zc BK123.out 1).trans rfl, (zc BK123.out 2).trans rfl, (zc BK123.out 3).trans rfl⟩ (fun hHeld => ?_); refine with_tabW r10_Mul.tab3 r10_Mul.bits3 (fun HT_ HW_ => ?_)
 generalize w20.drew = w21 at BK122 BK123 BK124 HB hHeld ⊢
 refine pu 0 25 HT_ ?_
 refine pu 1 26 HT_ ?_
 refine pu 2 27 HT_ ?_
 refine pu 4 29 HT_ ?_
 refine pu 7 32 HT_ ?_
 refine pu 8 33 HT_ ?_
 refine pu 10 35 HT_ ?_
 refine tk 3 28 HT_ HW_ hHeld ?_
 refine tk 5 30 HT_ HW_ hHeld ?_
 refine tk 9 34 HT_ HW_ hHeld ?_
 refine tk 11 36 HT_ HW_ hHeld ?_
 refine on 6 31 HT_ (fun K hK => ?_)
 refine gsc Tryz.func65 (r8_Mul.calls t125 a0_1 a1_2 t129 _ A7.out) (fun w22 hb => ?_)
 replace BK122 := bkb BK122 hb
 replace BK123 := bkb BK123 hb
 replace BK124 := bkb BK124 hb
 replace HB := bls HB hb
 (try clear hb)
 (try clear hb2)
 (try clear hk)
 (try clear hi)
 refine hK.out _ _ ⟨(zc BK122.out 0).trans rfl, (zc BK122.out 1).trans rfl, (zc BK122.out 2).trans rfl, (zc BK122.out 3).trans rfl, (zc BK123.out 0).trans rfl, (zc BK123.out 1).trans rfl, (zc BK123.out 2).trans rfl, (zc BK123.out 3).trans rfl⟩ (fun hHeld => ?_)
 clear hK K
 refine nm 31 ?_
 refine on 12 37 HT_ (fun K hK => ?_)
 refine gsc Tryz.func65 (r8_Mul.calls t125 a0_2 a1_1 t130 _ A8.out) (fun w23 hb => ?_)
 replace BK122 := bkb BK122 hb
 replace BK123 := bkb BK123 hb
 replace BK124 := bkb BK124 hb
 replace HB := bls HB hb
 (try clear hb)
 (try clear hb2)
 (try clear hk)
 (try clear hi)
 refine hK.out _ _ ⟨(zc BK122.out 0).trans rfl, (zc BK122.out 1).trans rfl, (zc BK122.out 2).trans rfl, (zc BK122.out 3).trans rfl, (zc BK123.out 0).trans rfl, (zc BK123.out 1).trans rfl, (zc BK123.out 2).trans rfl, (zc BK123.out 3).trans rfl⟩ (fun hHeld => ?_)
 clear hK K
 refine nm 37 ?_
 refine on 13 38 HT_ (fun K hK => ?_)
 refine gsc Tryz.func63 (r8_Add.calls t125 t129 t130 t131 _ A9.out) (fun w24 hb => ?_)
 replace BK122 := bkb BK122 hb
 replace BK123 := bkb BK123 hb
 replace BK124 := bkb BK124 hb
 replace HB := bls HB hb
 (try clear hb)
 (try clear hb2)
 (try clear hk)
 (try clear hi)
 refine hK.out _ _ ⟨(zc BK122.out 0).trans rfl, (zc BK122.out 1).trans rfl, (zc BK122.out 2).trans rfl, (zc BK122.out 3).trans rfl, (zc BK123.out 0).trans rfl, (zc BK123.out 1).trans rfl, (zc BK123.out 2).trans rfl, (zc BK123.out 3).trans rfl⟩ (fun hHeld => ?_)
 clear hK K
 refine nm 38 ?_
 refine pu 14 7 HT_ ?_
 refine done_ (done_of HT_.out (by kernel_rfl)) ?_
 obtain ⟨hcz25_0, hcz25_1, hcz25_2, hcz25_3, hfz25_0, hfz25_1, hfz25_2, hfz25_3⟩ := cf4 BK122
 try go_wp2_with (first | ((with_reducible refine gc_ (f := 18) rfl ?_); refine gLc 43 Tryz.func18 (r10_Made.calls a0_0 t128 t131 t132 t133 t134 t135 _ A10.out) (fun w26 hb => ?_); replace BK122 := bkb BK122 hb; replace BK123 := bkb BK123 hb; replace BK124 := bkb BK124 hb; replace HB := bls HB hb; clear hb; have hnb27 := NB124_123.out; have hnc27 := NB123_124.out; obtain ⟨hcz28_0, hcz28_1, hcz28_2, hcz28_3, hfz28_0, hfz28_1, hfz28_2, hfz28_3⟩ := cf4 BK124))
 refine bodyPost_ret (results_cell_row rfl _ _ gb124 24 #[.int .i64 t132, .int .u64 t133, .int .u64 t134, .string t135] (0, 0) _ rfl (by (with_reducible repeat (first | refine zn ?_ _ | refine zd ?_ | refine za ?_ _)); apply bp4; (with_reducible repeat (first | refine zn ?_ _ | refine zd ?_ | refine za ?_ _)); exact BK124.out) Tryz.underlying24 rfl (by kernel_rfl)) rfl ?_
 exact fin_ (blt HB)
end Go.Proofs.YtmoimcblmmcffaaGreat.PRA

namespace Go.Proofs.YtmoimcblmmcffaaGreat.PRA
open Go.RowKit Go.Proofs.YtmoimcblmmcffaaGreatW.PrintWords Go.Proofs.YtmoimcblmmcffaaGreatW.PrintLast Go.Proofs.YtmoimcblmmcffaaGreatW.PrintMore Go.Proofs.YtmoimcblmmcffaaGreatW.PrintZ
attribute [local go_sem] max2_int min2_int max_two min_two max_three min_three max_four min_four   -- for this text's walks alone
set_option linter.unusedVariables false
set_option linter.unusedSimpArgs false
def r10_TypeErr.f (a0 : Int) : Option (Int) := if a0 = 3 then (some 0) else (if a0 = 4 then (some 0) else (some 27))
set_option maxHeartbeats 8000000 in
set_option maxRecDepth 100000 in
theorem r10_TypeErr.calls (a0 : Int) (r : Int) (w : World) (h : r10_TypeErr.f a0 = some r) :
  Calls Tryz.prog 39 #[.int .i64 a0] w fun e w' => e = .returned (.int .i64 r) ∧ Drawn0 w w' := by
 have H : (if a0 = 3 then (some 0) else (if a0 = 4 then (some 0) else (some 27))) = some r := h
 clear h
 by_cases c2 : a0 = 3
 ·rw [if_pos c2] at H
  have c2b0 : (a0 == 3) = true := beq_iff_eq.mpr c2
  have c2b1 : (a0 != 3) = false := bne_eq_false_iff_eq.mpr c2
  clear c2
  obtain rfl := Option.some.inj H
  go_enter Tryz.func39, Tryz.ntmps39
  go_wp2
  go_ret
  exact ⟨by first | rfl | (simp; done) | (simp [*]; done), by repeat (first | exact Drawn0.refl _ | apply Drawn0.step)⟩
 ·rw [if_neg c2] at H
  have c2b0 : (a0 == 3) = false := beq_eq_false_iff_ne.mpr c2
  have c2b1 : (a0 != 3) = true := bne_iff_ne.mpr c2
  by_cases c3 : a0 = 4
  ·rw [if_pos c3] at H
   have c3b0 : (a0 == 4) = true := beq_iff_eq.mpr c3
   have c3b1 : (a0 != 4) = false := bne_eq_false_iff_eq.mpr c3
   clear c3
   obtain rfl := Option.some.inj H
   go_enter Tryz.func39, Tryz.ntmps39
   go_wp2
   go_ret
   exact ⟨by first | rfl | (simp; done) | (simp [*]; done), by repeat (first | exact Drawn0.refl _ | apply Drawn0.step)⟩
  ·rw [if_neg c3] at H
   have c3b0 : (a0 == 4) = false := beq_eq_false_iff_ne.mpr c3
   have c3b1 : (a0 != 4) = true := bne_iff_ne.mpr c3
   obtain rfl := Option.some.inj H
   go_enter Tryz.func39, Tryz.ntmps39
   go_wp2
   go_ret
   exact ⟨by first | rfl | (simp; done) | (simp [*]; done), by repeat (first | exact Drawn0.refl _ | apply Drawn0.step)⟩
def r10_ValueErr.f (a0_0 : Int) (a0_1 : Int) (a0_2 : Int) (a0_3 : ByteArray) : Option (Int) := (r10_TypeErr.f a0_0).bind fun t189 => (if t189 = 0 then (if a0_3.toList = ([] : List UInt8) then (if a0_0 = 3 then (if a0_1 ≥ 4294967296 then (some 3) else (if a0_2 ≥ 4294967296 then (some 3) else (some 0))) else (some 0)) else (some 3)) else (some t189))
set_option maxHeartbeats 8000000 in
set_option maxRecDepth 100000 in
theorem r10_ValueErr.calls (a0_0 : Int) (a0_1 : Int) (a0_2 : Int) (a0_3 : ByteArray) (r : Int) (w : World) (h : r10_ValueErr.f a0_0 a0_1 a0_2 a0_3 = some r) :
  Calls Tryz.prog 29 #[.agg #[.int .i64 a0_0, .int .u64 a0_1, .int .u64 a0_2, .string a0_3]] w fun e w' => e = .returned (.int .i64 r) ∧ Below w.heap.size w w' := by
 have hu24 := Tryz.underlying24
 have HB := Zs.mk (Below.refl w.heap.size w)
 have H : ((r10_TypeErr.f a0_0).bind fun t189 => (if t189 = 0 then (if a0_3.toList = ([] : List UInt8) then (if a0_0 = 3 then (if a0_1 ≥ 4294967296 then (some 3) else (if a0_2 ≥ 4294967296 then (some 3) else (some 0))) else (some 0)) else (some 3)) else (some t189))) = some r := h
 clear h
 replace H := Option.bind_eq_some_iff.mp H
 obtain ⟨t189, A2, H⟩ := H
 try dsimp only at H
 replace A2 := Zs.mk A2
 by_cases c3 : t189 = 0
 ·rw [if_pos c3] at H
  have c3b0 : (t189 == 0) = true := beq_iff_eq.mpr c3
  have c3b1 : (t189 != 0) = false := bne_eq_false_iff_eq.mpr c3
  clear c3
  by_cases c4 : a0_3.toList = ([] : List UInt8)
  ·rw [if_pos c4] at H
   have c4b0 : (a0_3.toList == ([] : List UInt8)) = true := beq_iff_eq.mpr c4
   have c4b0z := c4b0
   simp only [beqn] at c4b0z
   have c4b1 : (a0_3.toList != ([] : List UInt8)) = false := bne_eq_false_iff_eq.mpr c4
   clear c4
   by_cases c5 : a0_0 = 3
   ·rw [if_pos c5] at H
    have c5b0 : (a0_0 == 3) = true := beq_iff_eq.mpr c5
    have c5b1 : (a0_0 != 3) = false := bne_eq_false_iff_eq.mpr c5
    clear c5
    by_cases c6 : a0_1 ≥ 4294967296
    ·rw [if_pos c6] at H
     have c6b0 : decide (4294967296 ≤ a0_1) = true := decide_eq_true c6
     clear c6
     obtain rfl := Option.some.inj H
     go_enter Tryz.func29, Tryz.ntmps29
     go_wp2_with (first | ((with_reducible refine gd_ (N := 1) rfl ?_); refine bxe 1 (cs := #[.int .i64 a0_0, .int .u64 a0_1, .int .u64 a0_2, .string a0_3]) (t := 24) ?_; intro gb188 hg w7 hbox hb; have BK188 := Zs.mk hbox; have GW188 := bsz HB hg; have GE188 := bsz HB hg; replace HB := bls HB hb; clear hb hbox hg; obtain ⟨hcz8_0, hcz8_1, hcz8_2, hcz8_3, hfz8_0, hfz8_1, hfz8_2, hfz8_3⟩ := cf4 BK188) | ((with_reducible refine gc_ (f := 39) rfl ?_); refine gLc 6 Tryz.func39 (r10_TypeErr.calls a0_0 t189 _ A2.out) (fun _ h_ => ?_); obtain ⟨nd, rfl⟩ := h_))
     go_ret
     exact fin_ (blt HB)
    ·rw [if_neg c6] at H
     have c6b0 : decide (4294967296 ≤ a0_1) = false := decide_eq_false c6
     clear c6
     by_cases c9 : a0_2 ≥ 4294967296
     ·rw [if_pos c9] at H
      have c9b0 : decide (4294967296 ≤ a0_2) = true := decide_eq_true c9
      clear c9
      obtain rfl := Option.some.inj H
      go_enter Tryz.func29, Tryz.ntmps29
      go_wp2_with (first | ((with_reducible refine gd_ (N := 1) rfl ?_); refine bxe 1 (cs := #[.int .i64 a0_0, .int .u64 a0_1, .int .u64 a0_2, .string a0_3]) (t := 24) ?_; intro gb188 hg w10 hbox hb; have BK188 := Zs.mk hbox; have GW188 := bsz HB hg; have GE188 := bsz HB hg; replace HB := bls HB hb; clear hb hbox hg; obtain ⟨hcz11_0, hcz11_1, hcz11_2, hcz11_3, hfz11_0, hfz11_1, hfz11_2, hfz11_3⟩ := cf4 BK188) | ((with_reducible refine gc_ (f := 39) rfl ?_); refine gLc 6 Tryz.func39 (r10_TypeErr.calls a0_0 t189 _ A2.out) (fun _ h_ => ?_); obtain ⟨nd, rfl⟩ := h_))
      go_ret
      exact fin_ (blt HB)
     ·rw [if_neg c9] at H
      have c9b0 : decide (4294967296 ≤ a0_2) = false := decide_eq_false c9
      clear c9
      obtain rfl := Option.some.inj H
      go_enter Tryz.func29, Tryz.ntmps29
      go_wp2_with (first | ((with_reducible refine gd_ (N := 1) rfl ?_); refine bxe 1 (cs := #[.int .i64 a0_0, .int .u64 a0_1, .int .u64 a0_2, .string a0_3]) (t := 24) ?_; intro gb188 hg w12 hbox hb; have BK188 := Zs.mk hbox; have GW188 := bsz HB hg; have GE188 := bsz HB hg; replace HB := bls HB hb; clear hb hbox hg; obtain ⟨hcz13_0, hcz13_1, hcz13_2, hcz13_3, hfz13_0, hfz13_1, hfz13_2, hfz13_3⟩ := cf4 BK188) | ((with_reducible refine gc_ (f := 39) rfl ?_); refine gLc 6 Tryz.func39 (r10_TypeErr.calls a0_0 t189 _ A2.out) (fun _ h_ => ?_); obtain ⟨nd, rfl⟩ := h_))
      go_ret
      exact fin_ (blt HB)
   ·rw [if_neg c5] at H
    have c5b0 : (a0_0 == 3) = false := beq_eq_false_iff_ne.mpr c5
    have c5b1 : (a0_0 != 3) = true := bne_iff_ne.mpr c5
    obtain rfl := Option.some.inj H
    go_enter Tryz.func29, Tryz.ntmps29
    go_wp2_with (first | ((with_reducible refine gd_ (N := 1) rfl ?_); refine bxe 1 (cs := #[.int .i64 a0_0, .int .u64 a0_1, .int .u64 a0_2, .string a0_3]) (t := 24) ?_; intro gb188 hg w14 hbox hb; have BK188 := Zs.mk hbox; have GW188 := bsz HB hg; have GE188 := bsz HB hg; replace HB := bls HB hb; clear hb hbox hg; obtain ⟨hcz15_0, hcz15_1, hcz15_2, hcz15_3, hfz15_0, hfz15_1, hfz15_2, hfz15_3⟩ := cf4 BK188) | ((with_reducible refine gc_ (f := 39) rfl ?_); refine gLc 6 Tryz.func39 (r10_TypeErr.calls a0_0 t189 _ A2.out) (fun _ h_ => ?_); obtain ⟨nd, rfl⟩ := h_))
    go_ret
    exact fin_ (blt HB)
  ·rw [if_neg c4] at H
   have c4b0 : (a0_3.toList == ([] : List UInt8)) = false := beq_eq_false_iff_ne.mpr c4
   have c4b0z := c4b0
   simp only [beqn] at c4b0z
   have c4b1 : (a0_3.toList != ([] : List UInt8)) = true := bne_iff_ne.mpr c4
   obtain rfl := Option.some.inj H
   go_enter Tryz.func29, Tryz.ntmps29
   go_wp2_with (first | ((with_reducible refine gd_ (N := 1) rfl ?_); refine bxe 1 (cs := #[.int .i64 a0_0, .int .u64 a0_1, .int .u64 a0_2, .string a0_3]) (t := 24) ?_; intro gb188 hg w16 hbox hb; have BK188 := Zs.mk hbox; have GW188 := bsz HB hg; have GE188 := bsz HB hg; replace HB := bls HB hb; clear hb hbox hg; obtain ⟨hcz17_0, hcz17_1, hcz17_2, hcz17_3, hfz17_0, hfz17_1, hfz17_2, hfz17_3⟩ := cf4 BK188) | ((with_reducible refine gc_ (f := 39) rfl ?_); refine gLc 6 Tryz.func39 (r10_TypeErr.calls a0_0 t189 _ A2.out) (fun _ h_ => ?_); obtain ⟨nd, rfl⟩ := h_))
   go_ret
   exact fin_ (blt HB)
 ·rw [if_neg c3] at H
  have c3b0 : (t189 == 0) = false := beq_eq_false_iff_ne.mpr c3
  have c3b1 : (t189 != 0) = true := bne_iff_ne.mpr c3
  obtain rfl := Option.some.inj H
  go_enter Tryz.func29, Tryz.ntmps29
  go_wp2_with (first | ((with_reducible refine gd_ (N := 1) rfl ?_); refine bxe 1 (cs := #[.int .i64 a0_0, .int .u64 a0_1, .int .u64 a0_2, .string a0_3]) (t := 24) ?_; intro gb188 hg w18 hbox hb; have BK188 := Zs.mk hbox; have GW188 := bsz HB hg; have GE188 := bsz HB hg; replace HB := bls HB hb; clear hb hbox hg; obtain ⟨hcz19_0, hcz19_1, hcz19_2, hcz19_3, hfz19_0, hfz19_1, hfz19_2, hfz19_3⟩ := cf4 BK188) | ((with_reducible refine gc_ (f := 39) rfl ?_); refine gLc 6 Tryz.func39 (r10_TypeErr.calls a0_0 t189 _ A2.out) (fun _ h_ => ?_); obtain ⟨nd, rfl⟩ := h_))
  go_ret
  exact fin_ (blt HB)
def l10_brief.f (a0_0 : Int) (a0_1 : Int) (a0_2 : Int) (a0_3 : ByteArray) : Option (Bool) := some (decide ((a0_3.size : Int) ≤ 60))
set_option maxHeartbeats 8000000 in
set_option maxRecDepth 100000 in
theorem l10_brief.calls (a0_0 : Int) (a0_1 : Int) (a0_2 : Int) (a0_3 : ByteArray) (r : Bool) (w : World) (h : l10_brief.f a0_0 a0_1 a0_2 a0_3 = some r) :
  Calls Tryz.prog 11 #[.agg #[.int .i64 a0_0, .int .u64 a0_1, .int .u64 a0_2, .string a0_3]] w fun e w' => e = .returned (.bool r) ∧ Below w.heap.size w w' := by
 have hu24 := Tryz.underlying24
 have HB := Zs.mk (Below.refl w.heap.size w)
 have H : (some (decide ((a0_3.size : Int) ≤ 60))) = some r := h
 clear h
 obtain rfl := Option.some.inj H
 go_enter Tryz.func11, Tryz.ntmps11
 go_wp2_with (first | ((with_reducible refine gd_ (N := 1) rfl ?_); refine bxe 1 (cs := #[.int .i64 a0_0, .int .u64 a0_1, .int .u64 a0_2, .string a0_3]) (t := 24) ?_; intro gb194 hg w2 hbox hb; have BK194 := Zs.mk hbox; have GW194 := bsz HB hg; have GE194 := bsz HB hg; replace HB := bls HB hb; clear hb hbox hg; obtain ⟨hcz3_0, hcz3_1, hcz3_2, hcz3_3, hfz3_0, hfz3_1, hfz3_2, hfz3_3⟩ := cf4 BK194))
 go_ret
 exact fin_ (blt HB)
end Go.Proofs.YtmoimcblmmcffaaGreat.PRA

namespace Go.Proofs.YtmoimcblmmcffaaGreat.B
open Go.RowKit NC N PPC PRA
set_option linter.unusedSimpArgs false
set_option linter.unusedVariables false
theorem addR_lt {s : Bool} {a b : Nat} (ha : a < 2 * signN s) (hb : b < 2 * signN s) : addR s a b < 2 * signN s := by
 have h := add_eq ha hb
 exact nat_rg (h ▸ res_rg s .add (a : Int).toNat (b : Int).toNat)
theorem subR_lt {s : Bool} {a b : Nat} (ha : a < 2 * signN s) (hb : b < 2 * signN s) : subR s a b < 2 * signN s := by
 have h := sub_eq ha hb
 exact nat_rg (h ▸ res_rg s .sub (a : Int).toNat (b : Int).toNat)
theorem u64B_nat {s : Bool} {x : Nat} (h : x < 2 * signN s) : u64B (x : Int) = true := by
 have := (rg_nat h).u64
 unfold u64B
 rw [decide_eq_true this.1, decide_eq_true this.2]; rfl
theorem apply_f {op : Int} {s : Bool} {x y : Nat} (h0 : 0 ≤ op) (h6 : op ≤ 6) (hx : x < 2 * signN s) (hy : y < 2 * signN s) : rl_Apply.f op (tv s) (x : Int) (y : Int) = some (((opR op s x y : Nat) : Int), 0) := by
 have he : applyErrV op (tv s) (x : Int) (y : Int) = 0 := by unfold applyErrV; rw [if_pos (kind0 h0 h6)]; exact (rg_nat hx).valid2 (rg_nat hy)
 unfold rl_Apply.f
 rw [u64B_nat hx, u64B_nat hy, if_pos (show (true && true) = true from rfl), he, if_pos rfl, tv_eq, op_eq hx hy h0 h6]
section
variable {s : Bool} {x y : Nat} (hx : x < 2 * signN s) (hy : y < 2 * signN s)
include hx hy
theorem fadd : fd_add.f (tv s) (x : Int) (y : Int) = some ((addR s x y : Nat) : Int) := by
 unfold fd_add.f fd_operation.f; rw [apply_f (by decide) (by decide) hx hy]; rfl
theorem fsub : fd_sub.f (tv s) (x : Int) (y : Int) = some ((subR s x y : Nat) : Int) := by
 unfold fd_sub.f fd_operation.f; rw [apply_f (by decide) (by decide) hx hy]; rfl
theorem fmul : fd_mul.f (tv s) (x : Int) (y : Int) = some ((mulR s x y : Nat) : Int) := by
 unfold fd_mul.f fd_operation.f; rw [apply_f (by decide) (by decide) hx hy]; rfl
theorem radd : r8_Add.f (tv s) (x : Int) (y : Int) = some ((addR s x y : Nat) : Int) := on2_tv hx hy
theorem rsub : r8_Minus2.f (tv s) (x : Int) (y : Int) = some ((subR s x y : Nat) : Int) := on2_tv hx hy
theorem rmul : r8_Mul.f (tv s) (x : Int) (y : Int) = some ((mulR s x y : Nat) : Int) := on2_tv hx hy
end
def ct (s : Bool) : Int := if s then 3 else 4
theorem rpart (s : Bool) : r10_PartType.f (ct s) = some (tv s) := by cases s <;> rfl
theorem cpart_ct (s : Bool) : cpart (ct s) = tv s := by cases s <;> rfl
theorem fvalue (s : Bool) (x y : Int) : fd_value.f (tv s) x y = some (ct s, x, y, (⟨#[]⟩ : ByteArray)) := by cases s <;> rfl
abbrev NB : ByteArray := ⟨#[]⟩
end Go.Proofs.YtmoimcblmmcffaaGreat.B

namespace Go.Proofs.YtmoimcblmmcffaaGreat.PPC
open Go.RowKit Go.Proofs.YtmoimcblmmcffaaGreatW.PrintWords Go.Proofs.YtmoimcblmmcffaaGreatW.PrintLast Go.Proofs.YtmoimcblmmcffaaGreatW.PrintMore Go.Proofs.YtmoimcblmmcffaaGreatW.PrintZ
attribute [local go_sem] max2_int min2_int max_two min_two max_three min_three max_four min_four   -- for this text's walks alone
set_option linter.unusedVariables false
set_option linter.unusedSimpArgs false
def fd_squareRoot.j0 : Nat → Int → Bool → Int → Int → Option (Int × Int)
 | 0, _, _, _, _ => none
 | k + 1, x0, x17, x186000, x186001 => if x17 = true then (some (0, x186001)) else ((fd_size.f x0 x186000).bind fun t189 => ((fd_distance.f k x0 x186000 x186001).bind fun t190 => ((fd_add.f x0 t189 t190).bind fun t191 => ((fd_half.f x0).bind fun t192 => ((fd_mul.f x0 t191 t192).bind fun t193 => ((fd_root.f x0 t193).bind fun t194 => ((fd_order.f x0 x186000 0).bind fun t195 => (if t195 = (-1) then ((fd_size.f x0 x186001).bind fun t199 => ((fd_div.f x0 t199 t194).bind fun t200 => ((fd_half.f x0).bind fun t201 => ((fd_mul.f x0 t200 t201).bind fun t202 => ((fd_operation.f x0 4 t194 x186001).bind fun t203 => (some (t202, t203))))))) else ((fd_div.f x0 x186001 t194).bind fun t196 => ((fd_half.f x0).bind fun t197 => ((fd_mul.f x0 t196 t197).bind fun t198 => (some (t194, t198)))))))))))))
def fd_squareRoot.f (k : Nat) (a0 : Int) (a1_0 : Int) (a1_1 : Int) : Option (Int × Int) := (fd_kind.f a0 a1_0).bind fun t187 => (if t187 = 0 then ((fd_kind.f a0 a1_1).bind fun t188 => (fd_squareRoot.j0 k a0 (t188 == 0) a1_0 a1_1)) else (fd_squareRoot.j0 k a0 false a1_0 a1_1))
def fd_squareRoot.T3 : Bool × List (List Nat × List Nat) := (true, [([], []), ([], []), ([], []), ([], []), ([], []), ([4], [4]), ([3, 5], [3, 5]), ([], []), ([], []), ([7, 8, 6], [7, 8]), ([2, 6, 9, 9], [2, 6, 9]), ([], []), ([11, 10], [11]), ([1, 10, 12, 12], [1, 10, 12]), ([0, 13, 13], [0, 13]), ([14, 14, 0, 1, 2, 3, 4, 5, 6, 7, 8, 9, 10, 11, 12, 13, 14], [14])])
def fd_squareRoot.B3 : List Nat := [0, 0, 0, 0, 0, 16, 56, 0, 0, 504, 1020, 0, 4092, 8190, 16383, 32767]
theorem fd_squareRoot.tab3 : rtab .any (opsOf Tryz.f82 3) = fd_squareRoot.T3 := by kernel_rfl
theorem fd_squareRoot.bits3 : waitsOk fd_squareRoot.T3.2 fd_squareRoot.B3 = true := by kernel_rfl
def fd_squareRoot.T6 : Bool × List (List Nat × List Nat) := (true, [([], []), ([], []), ([], []), ([], []), ([3], [3]), ([2, 4], [2, 4]), ([], []), ([1, 5, 6, 5], [1, 5, 6]), ([], []), ([8, 7], [8]), ([0, 7, 9, 9], [0, 7, 9]), ([], []), ([], []), ([], []), ([13], [13]), ([11, 12, 14, 10], [11, 12, 14]), ([10, 15], [10, 15]), ([16, 15, 0, 1, 2, 3, 4, 5, 6, 7, 8, 9, 10, 11, 12, 13, 14, 15, 16], [16])])
def fd_squareRoot.B6 : List Nat := [0, 0, 0, 0, 8, 28, 0, 126, 0, 510, 1023, 0, 0, 0, 8192, 32767, 65535, 131071]
theorem fd_squareRoot.tab6 : rtab .any (opsOf Tryz.f82 6) = fd_squareRoot.T6 := by kernel_rfl
theorem fd_squareRoot.bits6 : waitsOk fd_squareRoot.T6.2 fd_squareRoot.B6 = true := by kernel_rfl
set_option maxHeartbeats 8000000 in
set_option maxRecDepth 100000 in
theorem fd_squareRoot.calls (k : Nat) (a0 : Int) (a1_0 : Int) (a1_1 : Int) (r1 : Int) (r2 : Int) (w : World) (h : fd_squareRoot.f k a0 a1_0 a1_1 = some (r1, r2)) :
  Calls Tryz.prog 82 #[.int .i64 a0, .agg #[.int .u64 a1_0, .int .u64 a1_1]] w fun e w' => e = .returned (.agg #[.int .u64 r1, .int .u64 r2]) ∧ Below w.heap.size w w' := by
 have hu74 := Tryz.underlying74
 have HB := Zs.mk (Below.refl w.heap.size w)
 have H : ((fd_kind.f a0 a1_0).bind fun t187 => (if t187 = 0 then ((fd_kind.f a0 a1_1).bind fun t188 => (fd_squareRoot.j0 k a0 (t188 == 0) a1_0 a1_1)) else (fd_squareRoot.j0 k a0 false a1_0 a1_1))) = some (r1, r2) := h
 clear h
 have HC3 := Zs.mk H
 clear H
 go_enter Tryz.func82, Tryz.ntmps82
 go_upto_region 1 with (first | ((with_reducible refine gd_ (N := 3) rfl ?_); refine bxe 3 (cs := #[.int .u64 a1_0, .int .u64 a1_1]) (t := 74) ?_; intro gb185 hg w4 hbox hb; have BK185 := Zs.mk hbox; have GW185 := bsz HB hg; have GE185 := bsz HB hg; replace HB := bls HB hb; clear hb hbox hg) | ((with_reducible refine gd_ (N := 4) rfl ?_); refine bxe 4 (cs := #[.int .u64 0, .int .u64 0]) (t := 74) ?_; intro gb186 hg w5 hbox hb; have BK186 := Zs.mk hbox; have GW186 := bsz HB hg; have GE186 := bsz HB hg; have NB185_186 := bnl BK185 hg; have NB186_185 := bng BK185 hg; replace BK185 := bkb BK185 hb; replace HB := bls HB hb; clear hb hbox hg))
 (try simp only [Act.put, List.setIfInBounds_toArray, List.set_cons_zero, List.set_cons_succ])
 go_cut [17] (fun v17 wc => ∃ (kq : Nat) (x17_2 : Bool), v17 = .bool x17_2 ∧ Zs (fd_squareRoot.j0 kq a0 x17_2 a1_0 a1_1 = some (r1, r2)) ∧ Zs (kq ≤ k) ∧ Zs (wc.heap[gb185]? = some (.cells #[.int .u64 a1_0, .int .u64 a1_1] 74 (0, 0))) ∧ Zs (wc.heap[gb186]? = some (.cells #[.int .u64 0, .int .u64 0] 74 (0, 0))) ∧ Zs (Below w.heap.size w wc))
 case first =>
  have H := HC3.out
  clear HC3
  replace H := Option.bind_eq_some_iff.mp H
  obtain ⟨t187, A6, H⟩ := H
  try dsimp only at H
  replace A6 := Zs.mk A6
  by_cases c7 : t187 = 0
  ·rw [if_pos c7] at H
   have c7b0 : (t187 == 0) = true := beq_iff_eq.mpr c7
   have c7b1 : (t187 != 0) = false := bne_eq_false_iff_eq.mpr c7
   clear c7
   (first | rw [c7b0] | (simp only [i64_w, i32_w]; rw [c7b0]) | skip)
   replace H := Option.bind_eq_some_iff.mp H
   obtain ⟨t188, A8, H⟩ := H
   try dsimp only at H
   replace A8 := Zs.mk A8
   have H' := Zs.mk H
   clear H
   have hnb9 := NB185_186.out
   have hnc9 := NB186_185.out
   obtain ⟨hcz10_0, hcz10_1, hfz10_0, hfz10_1⟩ := cf2 BK185
   go_wp2_with (first | ((with_reducible refine gc_ (f := 119) rfl ?_); refine gLc 9 Tryz.func119 (fd_kind.calls a0 a1_0 t187 _ A6.out) (fun w11 hb => ?_); replace BK185 := bkb BK185 hb; replace BK186 := bkb BK186 hb; replace HB := bls HB hb; clear hb; obtain ⟨hcz12_0, hcz12_1, hfz12_0, hfz12_1⟩ := cf2 BK185) | (go_at_call 119; (with_reducible refine (fd_kind.calls a0 a1_1 t188 _ A8.out).mono ?_); rintro e w13 ⟨rfl, hb⟩; replace BK185 := bkb BK185 hb; replace BK186 := bkb BK186 hb; replace HB := bls HB hb; clear hb))
   go_meet
   case rel => exact ⟨_, ((t188 == 0)), (by first | rfl | (simp; done) | (simp [*]; done)), H', ⟨by first | omega | exact Nat.le_refl _⟩, bks BK185, bks BK186, blt HB⟩
  ·rw [if_neg c7] at H
   have c7b0 : (t187 == 0) = false := beq_eq_false_iff_ne.mpr c7
   have c7b1 : (t187 != 0) = true := bne_iff_ne.mpr c7
   (first | rw [c7b0] | (simp only [i64_w, i32_w]; rw [c7b0]) | skip)
   have H' := Zs.mk H
   clear H
   have hnb14 := NB185_186.out
   have hnc14 := NB186_185.out
   obtain ⟨hcz15_0, hcz15_1, hfz15_0, hfz15_1⟩ := cf2 BK185
   go_wp2_with (first | ((with_reducible refine gc_ (f := 119) rfl ?_); refine gLc 9 Tryz.func119 (fd_kind.calls a0 a1_0 t187 _ A6.out) (fun w16 hb => ?_); replace BK185 := bkb BK185 hb; replace BK186 := bkb BK186 hb; replace HB := bls HB hb; clear hb))
   go_meet
   case rel => exact ⟨_, (false), (by first | rfl | (simp; done) | (simp [*]; done)), H', ⟨by first | omega | exact Nat.le_refl _⟩, bks BK185, bks BK186, blt HB⟩
 case rest =>
  clear HC3
  try clear c1
  try clear p2
  try clear c7
  try clear c7b0
  try clear c7b1
  try clear c8
  try clear c9
  try clear c11
  try clear c14
  try clear hcz10_0
  try clear hcz10_1
  try clear hcz12_0
  try clear hcz12_1
  try clear hcz15_0
  try clear hcz15_1
  try clear hfz10_0
  try clear hfz10_1
  try clear hfz12_0
  try clear hfz12_1
  try clear hfz15_0
  try clear hfz15_1
  obtain ⟨kq, x17_2, rfl, HA, HJ2, BK185, BK186, HB⟩ := hcut
  cases kq with
  | zero => exact absurd HA.out (by simp [fd_squareRoot.j0])
  | succ kj2 =>
   have H := HA.out
   clear HA
   simp only [fd_squareRoot.j0] at H
   by_cases c17 : x17_2 = true
   ·subst c17
    have H1 : (some (0, a1_1)) = some (r1, r2) := by rw [if_pos rfl] at H; exact H
    clear H
    have H := H1
    clear H1
    simp only [Option.some.injEq, Prod.mk.injEq] at H
    obtain ⟨rfl, rfl⟩ := H
    have hnb18 := NB185_186.out
    have hnc18 := NB186_185.out
    obtain ⟨hcz19_0, hcz19_1, hfz19_0, hfz19_1⟩ := cf2 BK185
    obtain ⟨hcz20_0, hcz20_1, hfz20_0, hfz20_1⟩ := cf2 BK186
    go_wp2
    refine bodyPost_ret (results_cell_row rfl _ _ gb186 74 #[.int .u64 0, .int .u64 a1_1] (0, 0) _ rfl (by (with_reducible repeat (first | refine zn ?_ _ | refine zd ?_ | refine za ?_ _)); apply bp2; (with_reducible repeat (first | refine zn ?_ _ | refine zd ?_ | refine za ?_ _)); exact BK186.out) Tryz.underlying74 rfl (by kernel_rfl)) rfl ?_
    exact fin_ (blt HB)
   ·replace c17 := Bool.eq_false_iff.mpr c17
    subst c17
    have H1 : ((fd_size.f a0 a1_0).bind fun t189 => ((fd_distance.f kj2 a0 a1_0 a1_1).bind fun t190 => ((fd_add.f a0 t189 t190).bind fun t191 => ((fd_half.f a0).bind fun t192 => ((fd_mul.f a0 t191 t192).bind fun t193 => ((fd_root.f a0 t193).bind fun t194 => ((fd_order.f a0 a1_0 0).bind fun t195 => (if t195 = (-1) then ((fd_size.f a0 a1_1).bind fun t199 => ((fd_div.f a0 t199 t194).bind fun t200 => ((fd_half.f a0).bind fun t201 => ((fd_mul.f a0 t200 t201).bind fun t202 => ((fd_operation.f a0 4 t194 a1_1).bind fun t203 => (some (t202, t203))))))) else ((fd_div.f a0 a1_1 t194).bind fun t196 => ((fd_half.f a0).bind fun t197 => ((fd_mul.f a0 t196 t197).bind fun t198 => (some (t194, t198))))))))))))) = some (r1, r2) := by rw [if_neg (show ¬ (false = true) by decide)] at H; exact H
    clear H
    have H := H1
    clear H1
    replace H := Option.bind_eq_some_iff.mp H
    obtain ⟨t189, A21, H⟩ := H
    try dsimp only at H
    replace A21 := Zs.mk A21
    replace H := Option.bind_eq_some_iff.mp H
    obtain ⟨t190, A22, H⟩ := H
    try dsimp only at H
    replace A22 := Zs.mk A22
    replace H := Option.bind_eq_some_iff.mp H
    obtain ⟨t191, A23, H⟩ := H
    try dsimp only at H
    replace A23 := Zs.mk A23
    replace H := Option.bind_eq_some_iff.mp H
    obtain ⟨t192, A24, H⟩ := H
    try dsimp only at H
    replace A24 := Zs.mk A24
    replace H := Option.bind_eq_some_iff.mp H
    obtain ⟨t193, A25, H⟩ := H
    try dsimp only at H
    replace A25 := Zs.mk A25
    replace H := Option.bind_eq_some_iff.mp H
    obtain ⟨t194, A26, H⟩ := H
    try dsimp only at H
    replace A26 := Zs.mk A26
    replace H := Option.bind_eq_some_iff.mp H
    obtain ⟨t195, A27, H⟩ := H
    try dsimp only at H
    replace A27 := Zs.mk A27
    by_cases c28 : t195 = (-1)
    ·rw [if_pos c28] at H
     have c28b0 : (t195 == (-1)) = true := beq_iff_eq.mpr c28
     have c28b1 : (t195 != (-1)) = false := bne_eq_false_iff_eq.mpr c28
     clear c28
     replace H := Option.bind_eq_some_iff.mp H
     obtain ⟨t199, A29, H⟩ := H
     try dsimp only at H
     replace A29 := Zs.mk A29
     replace H := Option.bind_eq_some_iff.mp H
     obtain ⟨t200, A30, H⟩ := H
     try dsimp only at H
     replace A30 := Zs.mk A30
     replace H := Option.bind_eq_some_iff.mp H
     obtain ⟨t201, A31, H⟩ := H
     try dsimp only at H
     replace A31 := Zs.mk A31
     replace H := Option.bind_eq_some_iff.mp H
     obtain ⟨t202, A32, H⟩ := H
     try dsimp only at H
     replace A32 := Zs.mk A32
     replace H := Option.bind_eq_some_iff.mp H
     obtain ⟨t203, A33, H⟩ := H
     try dsimp only at H
     replace A33 := Zs.mk A33
     simp only [Option.some.injEq, Prod.mk.injEq] at H
     obtain ⟨rfl, rfl⟩ := H
     try go_wp2
     replace BK185 := Zs.mk (zd BK185.out)
     replace BK186 := Zs.mk (zd BK186.out)
     replace HB := Zs.mk (below_drew1 HB.out)
     refine start_ (n := 16) (S := fun w' => w'.cell? ⟨gb185, 0, none⟩ = some (.int .u64 a1_0) ∧ w'.cell? ⟨gb185, 1, none⟩ = some (.int .u64 a1_1)) (ds := []) #[false, false, false, false, false, false, false, false, false, false, false, false, false, false, false, false] (by kernel_rfl) rfl rfl (cf2c BK185) (fun hHeld => ?_); refine with_tabW fd_squareRoot.tab3 fd_squareRoot.bits3 (fun HT_ HW_ => ?_)
     generalize wc.drew = w34 at BK185 BK186 HB hHeld ⊢
     refine pu 0 21 HT_ ?_
     refine pu 1 22 HT_ ?_
     refine pu 2 23 HT_ ?_
     refine pu 3 24 HT_ ?_
     refine pu 4 25 HT_ ?_
     refine pu 7 28 HT_ ?_
     refine pu 11 32 HT_ ?_
     refine tk 5 26 HT_ HW_ hHeld ?_
     refine tk 8 29 HT_ HW_ hHeld ?_
     refine on 6 27 HT_ (fun K hK => ?_)
     refine gsc Tryz.func100 (fd_size.calls a0 a1_0 t189 _ A21.out) (fun w35 hb => ?_)
     replace BK185 := bkb BK185 hb
     replace BK186 := bkb BK186 hb
     replace HB := bls HB hb
     (try clear hb)
     (try clear hb2)
     (try clear hk)
     (try clear hi)
     refine hK.out _ _ (cf2c BK185) (fun hHeld => ?_)
     clear hK K
     refine nm 27 ?_
     refine on 9 30 HT_ (fun K hK => ?_)
     refine gsc Tryz.func79 (fd_distance.calls kj2 a0 a1_0 a1_1 t190 _ A22.out) (fun w36 hb => ?_)
     replace BK185 := bkb BK185 hb
     replace BK186 := bkb BK186 hb
     replace HB := bls HB hb
     (try clear hb)
     (try clear hb2)
     (try clear hk)
     (try clear hi)
     refine hK.out _ _ (cf2c BK185) (fun hHeld => ?_)
     clear hK K
     refine nm 30 ?_
     refine on 10 31 HT_ (fun K hK => ?_)
     refine gsc Tryz.func97 (fd_add.calls a0 t189 t190 t191 _ A23.out) (fun w37 hb => ?_)
     replace BK185 := bkb BK185 hb
     replace BK186 := bkb BK186 hb
     replace HB := bls HB hb
     (try clear hb)
     (try clear hb2)
     (try clear hk)
     (try clear hi)
     refine hK.out _ _ (cf2c BK185) (fun hHeld => ?_)
     clear hK K
     refine nm 31 ?_
     refine on 12 33 HT_ (fun K hK => ?_)
     refine gsc Tryz.func123 (fd_half.calls a0 t192 _ A24.out) (fun w38 hb => ?_)
     replace BK185 := bkb BK185 hb
     replace BK186 := bkb BK186 hb
     replace HB := bls HB hb
     (try clear hb)
     (try clear hb2)
     (try clear hk)
     (try clear hi)
     refine hK.out _ _ (cf2c BK185) (fun hHeld => ?_)
     clear hK K
     refine nm 33 ?_
     refine on 13 34 HT_ (fun K hK => ?_)
     refine gsc Tryz.func99 (fd_mul.calls a0 t191 t192 t193 _ A25.out) (fun w39 hb => ?_)
     replace BK185 := bkb BK185 hb
     replace BK186 := bkb BK186 hb
     replace HB := bls HB hb
     (try clear hb)
     (try clear hb2)
     (try clear hk)
     (try clear hi)
     refine hK.out _ _ (cf2c BK185) (fun hHeld => ?_)
     clear hK K
     refine nm 34 ?_
     refine on 14 35 HT_ (fun K hK => ?_)
     refine gsc Tryz.func121 (fd_root.calls a0 t193 t194 _ A26.out) (fun w40 hb => ?_)
     replace BK185 := bkb BK185 hb
     replace BK186 := bkb BK186 hb
     replace HB := bls HB hb
     (try clear hb)
     (try clear hb2)
     (try clear hk)
     (try clear hi)
     refine hK.out _ _ (cf2c BK185) (fun hHeld => ?_)
     clear hK K
     refine nm 35 ?_
     refine pu 15 5 HT_ ?_
     refine done_ (done_of HT_.out (by kernel_rfl)) ?_
     have hnb41 := NB185_186.out
     have hnc41 := NB186_185.out
     obtain ⟨hcz42_0, hcz42_1, hfz42_0, hfz42_1⟩ := cf2 BK185
     try go_wp2_with (first | ((with_reducible refine gc_ (f := 92) rfl ?_); refine gLc 39 Tryz.func92 (fd_order.calls a0 a1_0 0 t195 _ A27.out) (fun w43 hb => ?_); replace BK185 := bkb BK185 hb; replace BK186 := bkb BK186 hb; replace HB := bls HB hb; clear hb))
     replace BK185 := Zs.mk (zd BK185.out)
     replace BK186 := Zs.mk (zd BK186.out)
     replace HB := Zs.mk (below_drew1 HB.out)
     refine start_ (n := 18) (S := fun w' => w'.cell? ⟨gb185, 0, none⟩ = some (.int .u64 a1_0) ∧ w'.cell? ⟨gb185, 1, none⟩ = some (.int .u64 a1_1)) (ds := []) #[false, false, false, false, false, false, false, false, false, false, false, false, false, false, false, false, false, false] (by kernel_rfl) rfl rfl (cf2c BK185) (fun hHeld => ?_); refine with_tabW fd_squareRoot.tab6 fd_squareRoot.bits6 (fun HT_ HW_ => ?_)
     generalize w43.drew = w44 at BK185 BK186 HB hHeld ⊢
     refine pu 0 52 HT_ ?_
     refine pu 1 53 HT_ ?_
     refine pu 2 54 HT_ ?_
     refine pu 3 55 HT_ ?_
     refine pu 6 58 HT_ ?_
     refine pu 8 60 HT_ ?_
     refine pu 11 63 HT_ ?_
     refine pu 12 64 HT_ ?_
     refine pu 13 65 HT_ ?_
     refine tk 4 56 HT_ HW_ hHeld ?_
     refine tk 14 66 HT_ HW_ hHeld ?_
     refine on 5 57 HT_ (fun K hK => ?_)
     refine gsc Tryz.func100 (fd_size.calls a0 a1_1 t199 _ A29.out) (fun w45 hb => ?_)
     replace BK185 := bkb BK185 hb
     replace BK186 := bkb BK186 hb
     replace HB := bls HB hb
     (try clear hb)
     (try clear hb2)
     (try clear hk)
     (try clear hi)
     refine hK.out _ _ (cf2c BK185) (fun hHeld => ?_)
     clear hK K
     refine nm 57 ?_
     refine on 7 59 HT_ (fun K hK => ?_)
     refine gsc Tryz.func101 (fd_div.calls a0 t199 t194 t200 _ A30.out) (fun w46 hb => ?_)
     replace BK185 := bkb BK185 hb
     replace BK186 := bkb BK186 hb
     replace HB := bls HB hb
     (try clear hb)
     (try clear hb2)
     (try clear hk)
     (try clear hi)
     refine hK.out _ _ (cf2c BK185) (fun hHeld => ?_)
     clear hK K
     refine nm 59 ?_
     refine on 9 61 HT_ (fun K hK => ?_)
     refine gsc Tryz.func123 (fd_half.calls a0 t201 _ A31.out) (fun w47 hb => ?_)
     replace BK185 := bkb BK185 hb
     replace BK186 := bkb BK186 hb
     replace HB := bls HB hb
     (try clear hb)
     (try clear hb2)
     (try clear hk)
     (try clear hi)
     refine hK.out _ _ (cf2c BK185) (fun hHeld => ?_)
     clear hK K
     refine nm 61 ?_
     refine on 10 62 HT_ (fun K hK => ?_)
     refine gsc Tryz.func99 (fd_mul.calls a0 t200 t201 t202 _ A32.out) (fun w48 hb => ?_)
     replace BK185 := bkb BK185 hb
     replace BK186 := bkb BK186 hb
     replace HB := bls HB hb
     (try clear hb)
     (try clear hb2)
     (try clear hk)
     (try clear hi)
     refine hK.out _ _ (cf2c BK185) (fun hHeld => ?_)
     clear hK K
     refine nm 62 ?_
     refine on 15 67 HT_ (fun K hK => ?_)
     refine gsc Tryz.func120 (fd_operation.calls a0 4 t194 a1_1 t203 _ A33.out) (fun w49 hb => ?_)
     replace BK185 := bkb BK185 hb
     replace BK186 := bkb BK186 hb
     replace HB := bls HB hb
     (try clear hb)
     (try clear hb2)
     (try clear hk)
     (try clear hi)
     refine hK.out _ _ (cf2c BK185) (fun hHeld => ?_)
     clear hK K
     refine nm 67 ?_
     refine pu 16 68 HT_ ?_
     refine one_ (i := 17) (N := none) #[true, true, true, true, true, true, true, true, true, true, true, true, true, true, true, true, true, true] rfl rfl (one_of HT_.out (by kernel_rfl)) (by decide) (fun K hK => ?_)
     have hs50 : w49.cell? ⟨gb186, 0, none⟩ = some (.int .u64 0) := (zc BK186.out 0).trans rfl
     have hfs50 := zf BK186.out 0
     have hns50_0 := NB185_186.out
     have hms50_0 := NB186_185.out
     have hs51 : w49.cell? ⟨gb186, 1, none⟩ = some (.int .u64 0) := (zc BK186.out 1).trans rfl
     have hfs51 := zf BK186.out 1
     have hns51_0 := NB185_186.out
     have hms51_0 := NB186_185.out
     refine skip_ (w1 := ?_) (by rfl) rfl ?_ ?_
     rotate_left
     ·go_simp
      rfl
     refine hK.out _ _ ⟨((cell_far (p := ⟨gb186, _, none⟩) NB185_186.out _).trans (((cell_far (p := ⟨gb186, _, none⟩) NB185_186.out _).trans (hHeld.1)))), ((cell_far (p := ⟨gb186, _, none⟩) NB185_186.out _).trans (((cell_far (p := ⟨gb186, _, none⟩) NB185_186.out _).trans (hHeld.2))))⟩ (fun hHeld => ?_)
     clear hK K
     refine done_ (done_of HT_.out (by kernel_rfl)) ?_
     try go_wp2
     refine bodyPost_ret (results_cell_row rfl _ _ gb186 74 #[.int .u64 t202, .int .u64 t203] (0, 0) _ rfl (by (with_reducible repeat (first | refine zn ?_ _ | refine zd ?_ | refine za ?_ _)); apply bp2; (with_reducible repeat (first | refine zn ?_ _ | refine zd ?_ | refine za ?_ _)); exact BK186.out) Tryz.underlying74 rfl (by kernel_rfl)) rfl ?_
     exact fin_ (blt HB)
    ·rw [if_neg c28] at H
     have c28b0 : (t195 == (-1)) = false := beq_eq_false_iff_ne.mpr c28
     have c28b1 : (t195 != (-1)) = true := bne_iff_ne.mpr c28
     replace H := Option.bind_eq_some_iff.mp H
     obtain ⟨t196, A52, H⟩ := H
     try dsimp only at H
     replace A52 := Zs.mk A52
     replace H := Option.bind_eq_some_iff.mp H
     obtain ⟨t197, A53, H⟩ := H
     try dsimp only at H
     replace A53 := Zs.mk A53
     replace H := Option.bind_eq_some_iff.mp H
     obtain ⟨t198, A54, H⟩ := H
     try dsimp only at H
     replace A54 := Zs.mk A54
     simp only [Option.some.injEq, Prod.mk.injEq] at H
     obtain ⟨rfl, rfl⟩ := H
     try go_wp2
     replace BK185 := Zs.mk (zd BK185.out)
     replace BK186 := Zs.mk (zd BK186.out)
     replace HB := Zs.mk (below_drew1 HB.out)
     refine start_ (n := 16) (S := fun w' => w'.cell? ⟨gb185, 0, none⟩ = some (.int .u64 a1_0) ∧ w'.cell? ⟨gb185, 1, none⟩ = some (.int .u64 a1_1)) (ds := []) #[false, false, false, false, false, false, false, false, false, false, false, false, false, false, false, false] (by kernel_rfl) rfl rfl (cf2c BK185) (fun hHeld => ?_); refine with_tabW fd_squareRoot.tab3 fd_squareRoot.bits3 (fun HT_ HW_ => ?_)
     generalize wc.drew = w55 at BK185 BK186 HB hHeld ⊢
     refine pu 0 21 HT_ ?_
     refine pu 1 22 HT_ ?_
     refine pu 2 23 HT_ ?_
     refine pu 3 24 HT_ ?_
     refine pu 4 25 HT_ ?_
     refine pu 7 28 HT_ ?_
     refine pu 11 32 HT_ ?_
     refine tk 5 26 HT_ HW_ hHeld ?_
     refine tk 8 29 HT_ HW_ hHeld ?_
     refine on 6 27 HT_ (fun K hK => ?_)
     refine gsc Tryz.func100 (fd_size.calls a0 a1_0 t189 _ A21.out) (fun w56 hb => ?_)
     replace BK185 := bkb BK185 hb
     replace BK186 := bkb BK186 hb
     replace HB := bls HB hb
     (try clear hb)
     (try clear hb2)
     (try clear hk)
     (try clear hi)
     refine hK.out _ _ (cf2c BK185) (fun hHeld => ?_)
     clear hK K
     refine nm 27 ?_
     refine on 9 30 HT_ (fun K hK => ?_)
     refine gsc Tryz.func79 (fd_distance.calls kj2 a0 a1_0 a1_1 t190 _ A22.out) (fun w57 hb => ?_)
     replace BK185 := bkb BK185 hb
     replace BK186 := bkb BK186 hb
     replace HB := bls HB hb
     (try clear hb)
     (try clear hb2)
     (try clear hk)
     (try clear hi)
     refine hK.out _ _ (cf2c BK185) (fun hHeld => ?_)
     clear hK K
     refine nm 30 ?_
     refine on 10 31 HT_ (fun K hK => ?_)
     refine gsc Tryz.func97 (fd_add.calls a0 t189 t190 t191 _ A23.out) (fun w58 hb => ?_)
     replace BK185 := bkb BK185 hb
     replace BK186 := bkb BK186 hb
     replace HB := bls HB hb
     (try clear hb)
     (try clear hb2)
     (try clear hk)
     (try clear hi)
     refine hK.out _ _ (cf2c BK185) (fun hHeld => ?_)
     clear hK K
     refine nm 31 ?_
     refine on 12 33 HT_ (fun K hK => ?_)
     refine gsc Tryz.func123 (fd_half.calls a0 t192 _ A24.out) (fun w59 hb => ?_)
     replace BK185 := bkb BK185 hb
     replace BK186 := bkb BK186 hb
     replace HB := bls HB hb
     (try clear hb)
     (try clear hb2)
     (try clear hk)
     (try clear hi)
     refine hK.out _ _ (cf2c BK185) (fun hHeld => ?_)
     clear hK K
     refine nm 33 ?_
     refine on 13 34 HT_ (fun K hK => ?_)
     refine gsc Tryz.func99 (fd_mul.calls a0 t191 t192 t193 _ A25.out) (fun w60 hb => ?_)
     replace BK185 := bkb BK185 hb
     replace BK186 := bkb BK186 hb
     replace HB := bls HB hb
     (try clear hb)
     (try clear hb2)
     (try clear hk)
     (try clear hi)
     refine hK.out _ _ (cf2c BK185) (fun hHeld => ?_)
     clear hK K
     refine nm 34 ?_
     refine on 14 35 HT_ (fun K hK => ?_)
     refine gsc Tryz.func121 (fd_root.calls a0 t193 t194 _ A26.out) (fun w61 hb => ?_)
     replace BK185 := bkb BK185 hb
     replace BK186 := bkb BK186 hb
     replace HB := bls HB hb
     (try clear hb)
     (try clear hb2)
     (try clear hk)
     (try clear hi)
     refine hK.out _ _ (cf2c BK185) (fun hHeld => ?_)
     clear hK K
     refine nm 35 ?_
     refine pu 15 5 HT_ ?_
     refine done_ (done_of HT_.out (by kernel_rfl)) ?_
     have hnb62 := NB185_186.out
     have hnc62 := NB186_185.out
     obtain ⟨hcz63_0, hcz63_1, hfz63_0, hfz63_1⟩ := cf2 BK185
     try go_wp2_with (first | ((with_reducible refine gc_ (f := 92) rfl ?_); refine gLc 39 Tryz.func92 (fd_order.calls a0 a1_0 0 t195 _ A27.out) (fun w64 hb => ?_); replace BK185 := bkb BK185 hb; replace BK186 := bkb BK186 hb; replace HB := bls HB hb; clear hb; obtain ⟨hcz65_0, hcz65_1, hfz65_0, hfz65_1⟩ := cf2 BK185) | ((with_reducible refine gc_ (f := 101) rfl ?_); refine gLc 47 Tryz.func101 (fd_div.calls a0 a1_1 t194 t196 _ A52.out) (fun w66 hb => ?_); replace BK185 := bkb BK185 hb; replace BK186 := bkb BK186 hb; replace HB := bls HB hb; clear hb) | ((with_reducible refine gc_ (f := 123) rfl ?_); refine gLc 49 Tryz.func123 (fd_half.calls a0 t197 _ A53.out) (fun w67 hb => ?_); replace BK185 := bkb BK185 hb; replace BK186 := bkb BK186 hb; replace HB := bls HB hb; clear hb) | ((with_reducible refine gc_ (f := 99) rfl ?_); refine gLc 50 Tryz.func99 (fd_mul.calls a0 t196 t197 t198 _ A54.out) (fun w68 hb => ?_); replace BK185 := bkb BK185 hb; replace BK186 := bkb BK186 hb; replace HB := bls HB hb; clear hb; obtain ⟨hcz69_0, hcz69_1, hfz69_0, hfz69_1⟩ := cf2 BK186))
     refine bodyPost_ret (results_cell_row rfl _ _ gb186 74 #[.int .u64 t194, .int .u64 t198] (0, 0) _ rfl (by (with_reducible repeat (first | refine zn ?_ _ | refine zd ?_ | refine za ?_ _)); apply bp2; (with_reducible repeat (first | refine zn ?_ _ | refine zd ?_ | refine za ?_ _)); exact BK186.out) Tryz.underlying74 rfl (by kernel_rfl)) rfl ?_
     exact fin_ (blt HB)
end Go.Proofs.YtmoimcblmmcffaaGreat.PPC
