/- Contracts and plain laws that the law ComplexesRoots leans on (texts joined by program; what it does not come to is left out). -/
import Derived.Test.YtmoimcblmmcffaaGreatQComplexesRootsA
import Derived.Test.YtmoimcblmmcffaaGreatQComplexesRootsH
import Derived.Test.YtmoimcblmmcffaaGreatProg
import Derived.Below
import Derived.Deep.Draws
import Derived.Deep.AppendLies
import Derived.Maps.AppendAt
import Derived.OwnWalk
import Derived.Laws.BytesArg
import Derived.Laws.MakeOwn
import Derived.Laws.OwnMore
import Derived.Deep.OwnRows
import Derived.Tactics
import Derived.Lib.ConvBytes
import Derived.Laws.Slices
import Derived.WalkKit
import Derived.KernelRfl
import Derived.RowKit3
import Derived.Deep.LoopGhost
import Derived.Deep.QuietTactic
import Derived.BigQuiet
import Derived.WideLaws
import Derived.Deep.DeepCutAuto
import Derived.Deep.CutBlock
import Derived.Deep.RegionHeld3
import Derived.Laws.Rows
import Derived.Lib.AppendStr
import Derived.ArgAppend
import Derived.Laws.IdiomCopy
import Derived.OrdersHeld
import Derived.Laws.BitsLemmas
import Derived.RowKit
import Derived.Test.YtmoimcblmmcffaaGreatQComplexesRootsG

namespace Go.Proofs.YtmoimcblmmcffaaGreat.PPC
open Go.RowKit Go.Proofs.YtmoimcblmmcffaaGreatW.PrintWords Go.Proofs.YtmoimcblmmcffaaGreatW.PrintLast Go.Proofs.YtmoimcblmmcffaaGreatW.PrintMore Go.Proofs.YtmoimcblmmcffaaGreatW.PrintZ
attribute [local go_sem] max2_int min2_int max_two min_two max_three min_three max_four min_four   -- for this text's walks alone
set_option linter.unusedVariables false
set_option linter.unusedSimpArgs false
def fd_negated.f (a0 : Int) (a1 : Int) : Option (Int) := (rl_Negated.f a0 a1).bind fun bt204 => (some bt204.1)
set_option maxHeartbeats 8000000 in
set_option maxRecDepth 100000 in
theorem fd_negated.calls (a0 : Int) (a1 : Int) (r : Int) (w : World) (h : fd_negated.f a0 a1 = some r) :
  Calls Tryz.prog 81 #[.int .i64 a0, .int .u64 a1] w fun e w' => e = .returned (.int .u64 r) ∧ Below w.heap.size w w' := by
 have HB := Zs.mk (Below.refl w.heap.size w)
 have H : ((rl_Negated.f a0 a1).bind fun bt204 => (some bt204.1)) = some r := h
 clear h
 replace H := Option.bind_eq_some_iff.mp H
 obtain ⟨⟨t204, t205⟩, A3, H⟩ := H
 try dsimp only at H
 replace A3 := Zs.mk A3
 obtain rfl := Option.some.inj H
 go_enter Tryz.func81, Tryz.ntmps81
 go_wp2_with (first | ((with_reducible refine gc_ (f := 122) rfl ?_); refine gLc 10 Tryz.func122 (rl_Negated.calls a0 a1 t204 t205 _ A3.out) (fun w4 hb => ?_); replace HB := bls HB hb; clear hb))
 go_ret
 exact fin_ (blt HB)
def fd_conjugate.f (a0 : Int) (a1_0 : Int) (a1_1 : Int) : Option (Int × Int) := (fd_negated.f a0 a1_1).bind fun t208 => (some (a1_0, t208))
def fd_conjugate.T1 : Bool × List (List Nat × List Nat) := (true, [([], []), ([0], [0]), ([], []), ([], []), ([3], [3]), ([2, 4], [2, 4]), ([1, 5], [1, 5]), ([6, 5, 0, 1, 2, 3, 4, 5, 6], [6])])
def fd_conjugate.B1 : List Nat := [0, 1, 0, 0, 8, 28, 63, 127]
theorem fd_conjugate.tab1 : rtab .any (opsOf Tryz.f78 1) = fd_conjugate.T1 := by kernel_rfl
theorem fd_conjugate.bits1 : waitsOk fd_conjugate.T1.2 fd_conjugate.B1 = true := by kernel_rfl
set_option maxHeartbeats 8000000 in
set_option maxRecDepth 100000 in
theorem fd_conjugate.calls (a0 : Int) (a1_0 : Int) (a1_1 : Int) (r1 : Int) (r2 : Int) (w : World) (h : fd_conjugate.f a0 a1_0 a1_1 = some (r1, r2)) :
  Calls Tryz.prog 78 #[.int .i64 a0, .agg #[.int .u64 a1_0, .int .u64 a1_1]] w fun e w' => e = .returned (.agg #[.int .u64 r1, .int .u64 r2]) ∧ Below w.heap.size w w' := by
 have hu74 := Tryz.underlying74
 have HB := Zs.mk (Below.refl w.heap.size w)
 have H : ((fd_negated.f a0 a1_1).bind fun t208 => (some (a1_0, t208))) = some (r1, r2) := h
 clear h
 replace H := Option.bind_eq_some_iff.mp H
 obtain ⟨t208, A3, H⟩ := H
 try dsimp only at H
 replace A3 := Zs.mk A3
 simp only [Option.some.injEq, Prod.mk.injEq] at H
 obtain ⟨rfl, rfl⟩ := H
 go_enter Tryz.func78, Tryz.ntmps78
 try go_wp2_with (first | ((with_reducible refine gd_ (N := 3) rfl ?_); refine bxe 3 (cs := #[.int .u64 a1_0, .int .u64 a1_1]) (t := 74) ?_; intro gb206 hg w4 hbox hb; have BK206 := Zs.mk hbox; have GW206 := bsz HB hg; have GE206 := bsz HB hg; replace HB := bls HB hb; clear hb hbox hg) | ((with_reducible refine gd_ (N := 4) rfl ?_); refine bxe 4 (cs := #[.int .u64 0, .int .u64 0]) (t := 74) ?_; intro gb207 hg w5 hbox hb; have BK207 := Zs.mk hbox; have GW207 := bsz HB hg; have GE207 := bsz HB hg; have NB206_207 := bnl BK206 hg; have NB207_206 := bng BK206 hg; replace BK206 := bkb BK206 hb; replace HB := bls HB hb; clear hb hbox hg))
 replace BK206 := Zs.mk (zd BK206.out)
 replace BK207 := Zs.mk (zd BK207.out)
 replace HB := Zs.mk (below_drew1 HB.out)
 refine start_ (n := 8) (S := fun w' => w'.cell? ⟨gb206, 0, none⟩ = some (.int .u64 a1_0) ∧ w'.cell? ⟨gb206, 1, none⟩ = some (.int .u64 a1_1)) (ds := []) #[false, false, false, false, false, false, false, false] (by kernel_rfl) rfl rfl (cf2c BK206) (fun hHeld => ?_); refine with_tabW fd_conjugate.tab1 fd_conjugate.bits1 (fun HT_ HW_ => ?_)
 generalize w5.drew = w6 at BK206 BK207 HB hHeld ⊢
 refine pu 0 5 HT_ ?_
 refine pu 2 7 HT_ ?_
 refine pu 3 8 HT_ ?_
 refine tk 1 6 HT_ HW_ hHeld ?_
 refine tk 4 9 HT_ HW_ hHeld ?_
 refine on 5 10 HT_ (fun K hK => ?_)
 refine gsc Tryz.func81 (fd_negated.calls a0 a1_1 t208 _ A3.out) (fun w7 hb => ?_)
 replace BK206 := bkb BK206 hb
 replace BK207 := bkb BK207 hb
 replace HB := bls HB hb
 (try clear hb)
 (try clear hb2)
 (try clear hk)
 (try clear hi)
 refine hK.out _ _ (cf2c BK206) (fun hHeld => ?_)
 clear hK K
 refine nm 10 ?_
 refine pu 6 11 HT_ ?_
 refine one_ (i := 7) (N := none) #[true, true, true, true, true, true, true, true] rfl rfl (one_of HT_.out (by kernel_rfl)) (by decide) (fun K hK => ?_)
 have hs8 : w7.cell? ⟨gb207, 0, none⟩ = some (.int .u64 0) := (zc BK207.out 0).trans rfl
 have hfs8 := zf BK207.out 0
 have hns8_0 := NB206_207.out
 have hms8_0 := NB207_206.out
 have hs9 : w7.cell? ⟨gb207, 1, none⟩ = some (.int .u64 0) := (zc BK207.out 1).trans rfl
 have hfs9 := zf BK207.out 1
 have hns9_0 := NB206_207.out
 have hms9_0 := NB207_206.out
 refine skip_ (w1 := ?_) (by rfl) rfl ?_ ?_
 rotate_left
 ·go_simp
  rfl
 refine hK.out _ _ ⟨((cell_far (p := ⟨gb207, _, none⟩) NB206_207.out _).trans (((cell_far (p := ⟨gb207, _, none⟩) NB206_207.out _).trans (hHeld.1)))), ((cell_far (p := ⟨gb207, _, none⟩) NB206_207.out _).trans (((cell_far (p := ⟨gb207, _, none⟩) NB206_207.out _).trans (hHeld.2))))⟩ (fun hHeld => ?_)
 clear hK K
 refine done_ (done_of HT_.out (by kernel_rfl)) ?_
 try go_wp2
 refine bodyPost_ret (results_cell_row rfl _ _ gb207 74 #[.int .u64 a1_0, .int .u64 t208] (0, 0) _ rfl (by (with_reducible repeat (first | refine zn ?_ _ | refine zd ?_ | refine za ?_ _)); apply bp2; (with_reducible repeat (first | refine zn ?_ _ | refine zd ?_ | refine za ?_ _)); exact BK207.out) Tryz.underlying74 rfl (by kernel_rfl)) rfl ?_
 exact fin_ (blt HB)
def fd_value.f (a0 : Int) (a1_0 : Int) (a1_1 : Int) : Option (Int × Int × Int × ByteArray) := if a0 = 2 then (some (4, a1_0, a1_1, (⟨#[]⟩ : ByteArray))) else (some (3, a1_0, a1_1, (⟨#[]⟩ : ByteArray)))
set_option maxHeartbeats 8000000 in
set_option maxRecDepth 100000 in
theorem fd_value.calls (a0 : Int) (a1_0 : Int) (a1_1 : Int) (r1 : Int) (r2 : Int) (r3 : Int) (r4 : ByteArray) (w : World) (h : fd_value.f a0 a1_0 a1_1 = some (r1, r2, r3, r4)) :
  Calls Tryz.prog 57 #[.int .i64 a0, .agg #[.int .u64 a1_0, .int .u64 a1_1]] w fun e w' => e = .returned (.agg #[.int .i64 r1, .int .u64 r2, .int .u64 r3, .string r4]) ∧ Below w.heap.size w w' := by
 have hu74 := Tryz.underlying74
 have hu24 := Tryz.underlying24
 have HB := Zs.mk (Below.refl w.heap.size w)
 have H : (if a0 = 2 then (some (4, a1_0, a1_1, (⟨#[]⟩ : ByteArray))) else (some (3, a1_0, a1_1, (⟨#[]⟩ : ByteArray)))) = some (r1, r2, r3, r4) := h
 clear h
 by_cases c3 : a0 = 2
 ·rw [if_pos c3] at H
  have c3b0 : (a0 == 2) = true := beq_iff_eq.mpr c3
  have c3b1 : (a0 != 2) = false := bne_eq_false_iff_eq.mpr c3
  clear c3
  simp only [Option.some.injEq, Prod.mk.injEq] at H
  obtain ⟨rfl, rfl, rfl, rfl⟩ := H
  go_enter Tryz.func57, Tryz.ntmps57
  go_wp2_with (first | ((with_reducible refine gd_ (N := 3) rfl ?_); refine bxe 3 (cs := #[.int .u64 a1_0, .int .u64 a1_1]) (t := 74) ?_; intro gb209 hg w4 hbox hb; have BK209 := Zs.mk hbox; have GW209 := bsz HB hg; have GE209 := bsz HB hg; replace HB := bls HB hb; clear hb hbox hg) | ((with_reducible refine gd_ (N := 4) rfl ?_); refine bxe 4 (cs := #[.int .i64 0, .int .u64 0, .int .u64 0, .string (⟨#[]⟩ : ByteArray)]) (t := 24) ?_; intro gb210 hg w5 hbox hb; have BK210 := Zs.mk hbox; have GW210 := bsz HB hg; have GE210 := bsz HB hg; have NB209_210 := bnl BK209 hg; have NB210_209 := bng BK209 hg; replace BK209 := bkb BK209 hb; replace HB := bls HB hb; clear hb hbox hg; have hnb6 := NB209_210.out; have hnc6 := NB210_209.out; obtain ⟨hcz7_0, hcz7_1, hfz7_0, hfz7_1⟩ := cf2 BK209; obtain ⟨hcz8_0, hcz8_1, hcz8_2, hcz8_3, hfz8_0, hfz8_1, hfz8_2, hfz8_3⟩ := cf4 BK210))
  refine bodyPost_ret (results_cell_row rfl _ _ gb210 24 #[.int .i64 4, .int .u64 a1_0, .int .u64 a1_1, .string (⟨#[]⟩ : ByteArray)] (0, 0) _ rfl (by (with_reducible repeat (first | refine zn ?_ _ | refine zd ?_ | refine za ?_ _)); apply bp4; (with_reducible repeat (first | refine zn ?_ _ | refine zd ?_ | refine za ?_ _)); exact BK210.out) Tryz.underlying24 rfl (by kernel_rfl)) rfl ?_
  exact fin_ (blt HB)
 ·rw [if_neg c3] at H
  have c3b0 : (a0 == 2) = false := beq_eq_false_iff_ne.mpr c3
  have c3b1 : (a0 != 2) = true := bne_iff_ne.mpr c3
  simp only [Option.some.injEq, Prod.mk.injEq] at H
  obtain ⟨rfl, rfl, rfl, rfl⟩ := H
  go_enter Tryz.func57, Tryz.ntmps57
  go_wp2_with (first | ((with_reducible refine gd_ (N := 3) rfl ?_); refine bxe 3 (cs := #[.int .u64 a1_0, .int .u64 a1_1]) (t := 74) ?_; intro gb209 hg w9 hbox hb; have BK209 := Zs.mk hbox; have GW209 := bsz HB hg; have GE209 := bsz HB hg; replace HB := bls HB hb; clear hb hbox hg) | ((with_reducible refine gd_ (N := 4) rfl ?_); refine bxe 4 (cs := #[.int .i64 0, .int .u64 0, .int .u64 0, .string (⟨#[]⟩ : ByteArray)]) (t := 24) ?_; intro gb210 hg w10 hbox hb; have BK210 := Zs.mk hbox; have GW210 := bsz HB hg; have GE210 := bsz HB hg; have NB209_210 := bnl BK209 hg; have NB210_209 := bng BK209 hg; replace BK209 := bkb BK209 hb; replace HB := bls HB hb; clear hb hbox hg; have hnb11 := NB209_210.out; have hnc11 := NB210_209.out; obtain ⟨hcz12_0, hcz12_1, hfz12_0, hfz12_1⟩ := cf2 BK209; obtain ⟨hcz13_0, hcz13_1, hcz13_2, hcz13_3, hfz13_0, hfz13_1, hfz13_2, hfz13_3⟩ := cf4 BK210))
  refine bodyPost_ret (results_cell_row rfl _ _ gb210 24 #[.int .i64 3, .int .u64 a1_0, .int .u64 a1_1, .string (⟨#[]⟩ : ByteArray)] (0, 0) _ rfl (by (with_reducible repeat (first | refine zn ?_ _ | refine zd ?_ | refine za ?_ _)); apply bp4; (with_reducible repeat (first | refine zn ?_ _ | refine zd ?_ | refine za ?_ _)); exact BK210.out) Tryz.underlying24 rfl (by kernel_rfl)) rfl ?_
  exact fin_ (blt HB)
def fd_power.l0 : Nat → Int → Int → Int → Int → Int → Int → Int → Int → Int → Int → Option (Int × Int)
 | 0, _, _, _, _, _, _, _, _, _, _ => none
 | k + 1, x0, x2, x9, x10, x212000, x212001, x215000, x215001, x216000, x216001 => if x10 = 0 then (if x2 < 0 then ((fd_over.f x0 x215000 x215001 x216000 x216001).bind fun bt216 => (some (bt216.1, bt216.2))) else (some (x216000, x216001))) else (if x10 > x9 then (fd_power.l0 k x0 x2 x9 (x10 / 2) x212000 x212001 x215000 x215001 x216000 x216001) else ((fd_times.f x0 x216000 x216001 x216000 x216001).bind fun bt218 => (if (Go.bits .and .u64 x9 x10) = 0 then (fd_power.l0 k x0 x2 x9 (x10 / 2) x212000 x212001 x215000 x215001 bt218.1 bt218.2) else ((fd_times.f x0 bt218.1 bt218.2 x212000 x212001).bind fun bt220 => (fd_power.l0 k x0 x2 x9 (x10 / 2) x212000 x212001 x215000 x215001 bt220.1 bt220.2)))))
def fd_power.f (k : Nat) (a0 : Int) (a1_0 : Int) (a1_1 : Int) (a2 : Int) : Option (Int × Int) := (fd_one.f a0).bind fun t213 => (fd_power.l0 k a0 a2 (IntKind.u64.wrap (mx a2 (wrap64 (-a2)))) 2147483648 a1_0 a1_1 t213 0 t213 0)
theorem fd_power.mono_l : ∀ k, (∀ y0 y1 y2 y3 y4 y5 y6 y7 y8 y9, LeO (fd_power.l0 k y0 y1 y2 y3 y4 y5 y6 y7 y8 y9) (fd_power.l0 (k + 1) y0 y1 y2 y3 y4 y5 y6 y7 y8 y9))
 | 0 => fun _ _ _ _ _ _ _ _ _ _ r h => by simp [fd_power.l0] at h
 | k + 1 => by
  have ih0 := fd_power.mono_l k
  ·intro y0 y1 y2 y3 y4 y5 y6 y7 y8 y9
   unfold fd_power.l0
   repeat' first
   | (with_reducible exact ih0 _ _ _ _ _ _ _ _ _ _)
   | (with_reducible exact LeO.refl _)
   | (with_reducible exact LeO.none _)
   | (with_reducible refine LeO.ite ?_ ?_)
   | (with_reducible refine LeO.bind ?_ (fun _ => ?_))
   | exact ih0 _ _ _ _ _ _ _ _ _ _
   | exact LeO.none _
   | refine LeO.ite ?_ ?_
   | refine LeO.bind ?_ (fun _ => ?_)
theorem fd_power.mono : ∀ a0 a1 a2 a3 k, LeO (fd_power.f k a0 a1 a2 a3) (fd_power.f (k + 1) a0 a1 a2 a3) := by
 intro a0 a1 a2 a3 k
 have ih0 := fd_power.mono_l k
 unfold fd_power.f
 repeat' first
   | (with_reducible exact ih0 _ _ _ _ _ _ _ _ _ _)
   | (with_reducible exact LeO.refl _)
   | (with_reducible exact LeO.none _)
   | (with_reducible refine LeO.ite ?_ ?_)
   | (with_reducible refine LeO.bind ?_ (fun _ => ?_))
   | exact ih0 _ _ _ _ _ _ _ _ _ _
   | exact LeO.none _
   | refine LeO.ite ?_ ?_
   | refine LeO.bind ?_ (fun _ => ?_)
set_option maxHeartbeats 8000000 in
set_option maxRecDepth 100000 in
theorem fd_power.calls (k : Nat) (a0 : Int) (a1_0 : Int) (a1_1 : Int) (a2 : Int) (r1 : Int) (r2 : Int) (w : World) (h : fd_power.f k a0 a1_0 a1_1 a2 = some (r1, r2)) :
  Calls Tryz.prog 73 #[.int .i64 a0, .agg #[.int .u64 a1_0, .int .u64 a1_1], .int .i64 a2] w fun e w' => e = .returned (.agg #[.int .u64 r1, .int .u64 r2]) ∧ Below w.heap.size w w' := by
 have hu74 := Tryz.underlying74
 have HB := Zs.mk (Below.refl w.heap.size w)
 have H : ((fd_one.f a0).bind fun t213 => (fd_power.l0 k a0 a2 (IntKind.u64.wrap (mx a2 (wrap64 (-a2)))) 2147483648 a1_0 a1_1 t213 0 t213 0)) = some (r1, r2) := h
 clear h
 replace H := Option.bind_eq_some_iff.mp H
 obtain ⟨t213, A4, H⟩ := H
 try dsimp only at H
 replace A4 := Zs.mk A4
 obtain ⟨ji5, hji5⟩ : ∃ j_ : Int, (mx a2 (wrap64 (-a2))) = j_ := ⟨_, rfl⟩
 replace H : (fd_power.l0 k a0 a2 (IntKind.u64.wrap (ji5)) 2147483648 a1_0 a1_1 t213 0 t213 0) = some (r1, r2) := by first | (rw [hji5] at H; exact H) | (simp only [hji5] at H ⊢; exact H)
 (try rw [hji5] at A4)
 have hji5_ : (if a2 < (wrap64 (-a2)) then (wrap64 (-a2)) else a2) = ji5 := hji5
 have H' := Zs.mk H
 clear H
 go_enter Tryz.func73, Tryz.ntmps73
 go_wp2_with (first | ((with_reducible refine gd_ (N := 4) rfl ?_); refine bxe 4 (cs := #[.int .u64 a1_0, .int .u64 a1_1]) (t := 74) ?_; intro gb211 hg w6 hbox hb; have BK211 := Zs.mk hbox; have GW211 := bsz HB hg; have GE211 := bsz HB hg; replace HB := bls HB hb; clear hb hbox hg) | ((with_reducible refine gd_ (N := 6) rfl ?_); refine bxe 6 (cs := #[.int .u64 0, .int .u64 0]) (t := 74) ?_; intro gb212 hg w7 hbox hb; have BK212 := Zs.mk hbox; have GW212 := bsz HB hg; have GE212 := bsz HB hg; have NB211_212 := bnl BK211 hg; have NB212_211 := bng BK211 hg; replace BK211 := bkb BK211 hb; replace HB := bls HB hb; clear hb hbox hg) | ((with_reducible refine gc_ (f := 111) rfl ?_); refine gLc 12 Tryz.func111 (fd_one.calls a0 t213 _ A4.out) (fun w8 hb => ?_); replace BK211 := bkb BK211 hb; replace BK212 := bkb BK212 hb; replace HB := bls HB hb; clear hb) | ((with_reducible refine gd_ (N := 7) rfl ?_); refine bxe 7 (cs := #[.int .u64 0, .int .u64 0]) (t := 74) ?_; intro gb214 hg w9 hbox hb; have BK214 := Zs.mk hbox; have GW214 := bsz HB hg; have GE214 := bsz HB hg; have NB211_214 := bnl BK211 hg; have NB214_211 := bng BK211 hg; have NB212_214 := bnl BK212 hg; have NB214_212 := bng BK212 hg; replace BK211 := bkb BK211 hb; replace BK212 := bkb BK212 hb; replace HB := bls HB hb; clear hb hbox hg; have hnb10 := NB214_211.out; have hnc10 := NB211_214.out; have hnb11 := NB214_212.out; have hnc11 := NB212_214.out; obtain ⟨hcz12_0, hcz12_1, hfz12_0, hfz12_1⟩ := cf2 BK214) | ((with_reducible refine gd_ (N := 8) rfl ?_); refine bxe 8 (cs := #[.int .u64 0, .int .u64 0]) (t := 74) ?_; intro gb215 hg w13 hbox hb; have BK215 := Zs.mk hbox; have GW215 := bsz HB hg; have GE215 := bsz HB hg; have NB211_215 := Zs.mk ((by rw [hg]; exact Nat.ne_of_lt (blk_lt (g := gb211) (o := .cells #[.int .u64 a1_0, .int .u64 a1_1] 74 (0, 0)) (bkf BK211).out) : gb211 ≠ gb215)); have NB215_211 := Zs.mk ((by rw [hg]; exact Nat.ne_of_gt (blk_lt (g := gb211) (o := .cells #[.int .u64 a1_0, .int .u64 a1_1] 74 (0, 0)) (bkf BK211).out) : gb215 ≠ gb211)); have NB212_215 := Zs.mk ((by rw [hg]; exact Nat.ne_of_lt (blk_lt (g := gb212) (o := .cells #[.int .u64 0, .int .u64 0] 74 (0, 0)) (bkf BK212).out) : gb212 ≠ gb215)); have NB215_212 := Zs.mk ((by rw [hg]; exact Nat.ne_of_gt (blk_lt (g := gb212) (o := .cells #[.int .u64 0, .int .u64 0] 74 (0, 0)) (bkf BK212).out) : gb215 ≠ gb212)); have NB214_215 := Zs.mk ((by rw [hg]; exact Nat.ne_of_lt (blk_lt (g := gb214) (o := .cells #[.int .u64 t213, .int .u64 0] 74 (0, 0)) (by (with_reducible repeat (first | refine zn ?_ _ | refine zd ?_ | refine za ?_ _)); apply bp2; (with_reducible repeat (first | refine zn ?_ _ | refine zd ?_ | refine za ?_ _)); exact BK214.out)) : gb214 ≠ gb215)); have NB215_214 := Zs.mk ((by rw [hg]; exact Nat.ne_of_gt (blk_lt (g := gb214) (o := .cells #[.int .u64 t213, .int .u64 0] 74 (0, 0)) (by (with_reducible repeat (first | refine zn ?_ _ | refine zd ?_ | refine za ?_ _)); apply bp2; (with_reducible repeat (first | refine zn ?_ _ | refine zd ?_ | refine za ?_ _)); exact BK214.out)) : gb215 ≠ gb214)); replace BK211 := bkfb BK211 hb; replace BK212 := bkfb BK212 hb; replace BK214 := Zs.mk (blk_below (g := gb214) (o := .cells #[.int .u64 t213, .int .u64 0] 74 (0, 0)) (by (with_reducible repeat (first | refine zn ?_ _ | refine zd ?_ | refine za ?_ _)); apply bp2; (with_reducible repeat (first | refine zn ?_ _ | refine zd ?_ | refine za ?_ _)); exact BK214.out) hb); replace HB := bls HB hb; clear hb hbox hg; have hnb14 := NB215_211.out; have hnc14 := NB211_215.out; have hnb15 := NB215_212.out; have hnc15 := NB212_215.out; have hnb16 := NB215_214.out; have hnc16 := NB214_215.out; obtain ⟨hcz17_0, hcz17_1, hfz17_0, hfz17_1⟩ := cf2 BK215))
 go_loopg [10] k (fun kq v10 w' => ∃ (x10_1 : Int) (x216000_1 : Int) (x216001_1 : Int), v10 = .int .u64 x10_1 ∧ Zs (fd_power.l0 kq a0 a2 (IntKind.u64.wrap (ji5)) x10_1 a1_0 a1_1 t213 0 x216000_1 x216001_1 = some (r1, r2)) ∧ Zs (kq ≤ k) ∧ Zs (w'.heap[gb211]? = some (.cells #[.int .u64 a1_0, .int .u64 a1_1] 74 (0, 0))) ∧ Zs (w'.heap[gb212]? = some (.cells #[.int .u64 0, .int .u64 0] 74 (0, 0))) ∧ Zs (w'.heap[gb214]? = some (.cells #[.int .u64 t213, .int .u64 0] 74 (0, 0))) ∧ Zs (w'.heap[gb215]? = some (.cells #[.int .u64 x216000_1, .int .u64 x216001_1] 74 (0, 0))) ∧ Zs (Below w.heap.size w w'))
 case atStart => exact ⟨(2147483648), (t213), (0), (by first | rfl | (simp; done) | (simp [*]; done)), H', ⟨Nat.le_refl _⟩, bkf BK211, bkf BK212, bkf BK214, ⟨by (with_reducible repeat (first | refine zn ?_ _ | refine zd ?_ | refine za ?_ _)); apply bp2; (with_reducible repeat (first | refine zn ?_ _ | refine zd ?_ | refine za ?_ _)); exact BK215.out⟩, blt HB⟩
 case round =>
  clear H'
  try clear c1
  try clear p2
  try clear p6
  try clear c7
  try clear c10
  try clear c11
  try clear c14
  try clear c15
  try clear c16
  try clear hcz12_0
  try clear hcz12_1
  try clear hcz17_0
  try clear hcz17_1
  try clear hfz12_0
  try clear hfz12_1
  try clear hfz17_0
  try clear hfz17_1
  obtain ⟨x10_1, x216000_1, x216001_1, rfl, HA, HK1, BK211, BK212, BK214, BK215, HB⟩ := hrel
  cases gk with
  | zero => exact absurd HA.out (by simp [fd_power.l0])
  | succ k1 =>
   have H := HA.out
   clear HA
   simp only [fd_power.l0] at H
   by_cases c18 : x10_1 = 0
   ·rw [if_pos c18] at H
    have c18b0 : (x10_1 == 0) = true := beq_iff_eq.mpr c18
    have c18b1 : (x10_1 != 0) = false := bne_eq_false_iff_eq.mpr c18
    clear c18
    by_cases c19 : a2 < 0
    ·rw [if_pos c19] at H
     have c19b0 : decide (a2 < 0) = true := decide_eq_true c19
     clear c19
     replace H := Option.bind_eq_some_iff.mp H
     obtain ⟨⟨t216, t217⟩, A20, H⟩ := H
     try dsimp only at H
     replace A20 := Zs.mk A20
     simp only [Option.some.injEq, Prod.mk.injEq] at H
     obtain ⟨rfl, rfl⟩ := H
     have hnb21 := NB214_211.out
     have hnc21 := NB211_214.out
     have hnb22 := NB214_212.out
     have hnc22 := NB212_214.out
     have hnb23 := NB214_215.out
     have hnc23 := NB215_214.out
     obtain ⟨hcz24_0, hcz24_1, hfz24_0, hfz24_1⟩ := cf2 BK214
     have hnb25 := NB215_211.out
     have hnc25 := NB211_215.out
     have hnb26 := NB215_212.out
     have hnc26 := NB212_215.out
     obtain ⟨hcz27_0, hcz27_1, hfz27_0, hfz27_1⟩ := cf2 BK215
     go_wp2_with (first | ((with_reducible refine gc_ (f := 56) rfl ?_); refine gLc 44 Tryz.func56 (fd_over.calls a0 t213 0 x216000_1 x216001_1 t216 t217 _ A20.out) (fun w28 hb => ?_); replace BK211 := bkb BK211 hb; replace BK212 := bkb BK212 hb; replace BK214 := bkb BK214 hb; replace BK215 := bkb BK215 hb; replace HB := bls HB hb; clear hb; obtain ⟨hcz29_0, hcz29_1, hfz29_0, hfz29_1⟩ := cf2 BK215; have hnb30 := NB212_211.out; have hnc30 := NB211_212.out; obtain ⟨hcz31_0, hcz31_1, hfz31_0, hfz31_1⟩ := cf2 BK212))
     refine bodyPost_ret (results_cell_row rfl _ _ gb212 74 #[.int .u64 t216, .int .u64 t217] (0, 0) _ rfl (by (with_reducible repeat (first | refine zn ?_ _ | refine zd ?_ | refine za ?_ _)); apply bp2; (with_reducible repeat (first | refine zn ?_ _ | refine zd ?_ | refine za ?_ _)); refine blk_far ?_ NB212_215.out _; (with_reducible repeat (first | refine zn ?_ _ | refine zd ?_ | refine za ?_ _)); refine blk_far ?_ NB212_215.out _; (with_reducible repeat (first | refine zn ?_ _ | refine zd ?_ | refine za ?_ _)); exact BK212.out) Tryz.underlying74 rfl (by kernel_rfl)) rfl ?_
     exact ⟨by first | rfl | (simp [errW_none, errW_some] <;> rfl) | (simp only [← hji5]; first | rfl | (simp [errW_none, errW_some] <;> rfl)) | (simp [*, errW_none, errW_some] <;> rfl), (blt HB).out⟩
    ·rw [if_neg c19] at H
     have c19b0 : decide (a2 < 0) = false := decide_eq_false c19
     clear c19
     simp only [Option.some.injEq, Prod.mk.injEq] at H
     obtain ⟨rfl, rfl⟩ := H
     have hnb32 := NB215_211.out
     have hnc32 := NB211_215.out
     have hnb33 := NB215_212.out
     have hnc33 := NB212_215.out
     have hnb34 := NB215_214.out
     have hnc34 := NB214_215.out
     obtain ⟨hcz35_0, hcz35_1, hfz35_0, hfz35_1⟩ := cf2 BK215
     have hnb36 := NB212_211.out
     have hnc36 := NB211_212.out
     have hnb37 := NB212_214.out
     have hnc37 := NB214_212.out
     obtain ⟨hcz38_0, hcz38_1, hfz38_0, hfz38_1⟩ := cf2 BK212
     go_wp2
     refine bodyPost_ret (results_cell_row rfl _ _ gb212 74 #[.int .u64 x216000_1, .int .u64 x216001_1] (0, 0) _ rfl (by (with_reducible repeat (first | refine zn ?_ _ | refine zd ?_ | refine za ?_ _)); apply bp2; (with_reducible repeat (first | refine zn ?_ _ | refine zd ?_ | refine za ?_ _)); exact BK212.out) Tryz.underlying74 rfl (by kernel_rfl)) rfl ?_
     exact ⟨by first | rfl | (simp [errW_none, errW_some] <;> rfl) | (simp only [← hji5]; first | rfl | (simp [errW_none, errW_some] <;> rfl)) | (simp [*, errW_none, errW_some] <;> rfl), (blt HB).out⟩
   ·rw [if_neg c18] at H
    have c18b0 : (x10_1 == 0) = false := beq_eq_false_iff_ne.mpr c18
    have c18b1 : (x10_1 != 0) = true := bne_iff_ne.mpr c18
    by_cases c39 : x10_1 > (IntKind.u64.wrap (ji5))
    ·rw [if_pos c39] at H
     have c39b0 : decide ((IntKind.u64.wrap (ji5)) < x10_1) = true := decide_eq_true c39
     clear c39
     have H' := Zs.mk H
     clear H
     go_wp2
     go_roundg k1
     case measure => have := HK1.out; omega
     case rel => exact ⟨(x10_1 / 2), (x216000_1), (x216001_1), (by first | rfl | (simp; done) | (simp [*]; done)), H', ⟨by have := HK1.out; omega⟩, bks BK211, bks BK212, bks BK214, bks BK215, blt HB⟩
    ·rw [if_neg c39] at H
     have c39b0 : decide ((IntKind.u64.wrap (ji5)) < x10_1) = false := decide_eq_false c39
     clear c39
     replace H := Option.bind_eq_some_iff.mp H
     obtain ⟨⟨t218, t219⟩, A40, H⟩ := H
     try dsimp only at H
     replace A40 := Zs.mk A40
     by_cases c41 : (Go.bits .and .u64 (IntKind.u64.wrap (ji5)) x10_1) = 0
     ·rw [if_pos c41] at H
      have c41b0 : ((Go.bits .and .u64 (IntKind.u64.wrap (ji5)) x10_1) == 0) = true := beq_iff_eq.mpr c41
      have c41b1 : ((Go.bits .and .u64 (IntKind.u64.wrap (ji5)) x10_1) != 0) = false := bne_eq_false_iff_eq.mpr c41
      clear c41
      have H' := Zs.mk H
      clear H
      have hnb42 := NB215_211.out
      have hnc42 := NB211_215.out
      have hnb43 := NB215_212.out
      have hnc43 := NB212_215.out
      have hnb44 := NB215_214.out
      have hnc44 := NB214_215.out
      obtain ⟨hcz45_0, hcz45_1, hfz45_0, hfz45_1⟩ := cf2 BK215
      go_wp2_with (first | ((with_reducible refine gc_ (f := 55) rfl ?_); refine gLc 30 Tryz.func55 (fd_times.calls a0 x216000_1 x216001_1 x216000_1 x216001_1 t218 t219 _ A40.out) (fun w46 hb => ?_); replace BK211 := bkb BK211 hb; replace BK212 := bkb BK212 hb; replace BK214 := bkb BK214 hb; replace BK215 := bkb BK215 hb; replace HB := bls HB hb; clear hb; obtain ⟨hcz47_0, hcz47_1, hfz47_0, hfz47_1⟩ := cf2 BK215))
      go_roundg k1
      case measure => have := HK1.out; omega
      case rel => exact ⟨(x10_1 / 2), (t218), (t219), (by first | rfl | (simp; done) | (simp [*]; done)), H', ⟨by have := HK1.out; omega⟩, bkf BK211, bkf BK212, bkf BK214, ⟨by (with_reducible repeat (first | refine zn ?_ _ | refine zd ?_ | refine za ?_ _)); apply bp2; (with_reducible repeat (first | refine zn ?_ _ | refine zd ?_ | refine za ?_ _)); exact BK215.out⟩, blt HB⟩
     ·rw [if_neg c41] at H
      have c41b0 : ((Go.bits .and .u64 (IntKind.u64.wrap (ji5)) x10_1) == 0) = false := beq_eq_false_iff_ne.mpr c41
      have c41b1 : ((Go.bits .and .u64 (IntKind.u64.wrap (ji5)) x10_1) != 0) = true := bne_iff_ne.mpr c41
      replace H := Option.bind_eq_some_iff.mp H
      obtain ⟨⟨t220, t221⟩, A48, H⟩ := H
      try dsimp only at H
      replace A48 := Zs.mk A48
      have H' := Zs.mk H
      clear H
      have hnb49 := NB215_211.out
      have hnc49 := NB211_215.out
      have hnb50 := NB215_212.out
      have hnc50 := NB212_215.out
      have hnb51 := NB215_214.out
      have hnc51 := NB214_215.out
      obtain ⟨hcz52_0, hcz52_1, hfz52_0, hfz52_1⟩ := cf2 BK215
      go_wp2_with (first | ((with_reducible refine gc_ (f := 55) rfl ?_); refine gLc 30 Tryz.func55 (fd_times.calls a0 x216000_1 x216001_1 x216000_1 x216001_1 t218 t219 _ A40.out) (fun w53 hb => ?_); replace BK211 := bkb BK211 hb; replace BK212 := bkb BK212 hb; replace BK214 := bkb BK214 hb; replace BK215 := bkb BK215 hb; replace HB := bls HB hb; clear hb; obtain ⟨hcz54_0, hcz54_1, hfz54_0, hfz54_1⟩ := cf2 BK215; have hnb55 := NB211_212.out; have hnc55 := NB212_211.out; have hnb56 := NB211_214.out; have hnc56 := NB214_211.out; obtain ⟨hcz57_0, hcz57_1, hfz57_0, hfz57_1⟩ := cf2 BK211) | ((with_reducible refine gc_ (f := 55) rfl ?_); refine gLc 38 Tryz.func55 (fd_times.calls a0 t218 t219 a1_0 a1_1 t220 t221 _ A48.out) (fun w58 hb => ?_); replace BK211 := bkfb BK211 hb; replace BK212 := bkfb BK212 hb; replace BK214 := bkfb BK214 hb; replace BK215 := Zs.mk (blk_below (g := gb215) (o := .cells #[.int .u64 t218, .int .u64 t219] 74 (0, 0)) (by (with_reducible repeat (first | refine zn ?_ _ | refine zd ?_ | refine za ?_ _)); apply bp2; (with_reducible repeat (first | refine zn ?_ _ | refine zd ?_ | refine za ?_ _)); exact BK215.out) hb); replace HB := bls HB hb; clear hb; obtain ⟨hcz59_0, hcz59_1, hfz59_0, hfz59_1⟩ := cf2 BK215))
      go_roundg k1
      case measure => have := HK1.out; omega
      case rel => exact ⟨(x10_1 / 2), (t220), (t221), (by first | rfl | (simp; done) | (simp [*]; done)), H', ⟨by have := HK1.out; omega⟩, bkf BK211, bkf BK212, bkf BK214, ⟨by (with_reducible repeat (first | refine zn ?_ _ | refine zd ?_ | refine za ?_ _)); apply bp2; (with_reducible repeat (first | refine zn ?_ _ | refine zd ?_ | refine za ?_ _)); exact BK215.out⟩, blt HB⟩


mutual
def cx_PowerOf.j0 : Nat → Int → Int → Int → Bool → Int → Int → Option (Int × Int × Int × ByteArray × Int)
 | 0, _, _, _, _, _, _ => none
 | k + 1, x1, x6, x8, x24, x229000, x229001 => if x24 = true then (cx_PowerOf.j1 k x1 x6 2 x229000 x229001) else (cx_PowerOf.j1 k x1 x6 x8 x229000 x229001)
def cx_PowerOf.j1 : Nat → Int → Int → Int → Int → Int → Option (Int × Int × Int × ByteArray × Int)
 | 0, _, _, _, _, _ => none
 | k + 1, x1, x6, x8, x229000, x229001 => if x8 = 0 then ((fd_power.f k x6 x229000 x229001 x1).bind fun bt229 => ((fd_value.f x6 bt229.1 bt229.2).bind fun bt231 => (some (bt231.1, bt231.2.1, bt231.2.2.1, bt231.2.2.2, 0)))) else (some (0, 0, 0, (⟨#[]⟩ : ByteArray), x8))
end
def cx_PowerOf.f (k : Nat) (a0_0 : Int) (a0_1 : Int) (a0_2 : Int) (a0_3 : ByteArray) (a1 : Int) : Option (Int × Int × Int × ByteArray × Int) := (cx_open.f a0_0 a0_1 a0_2 a0_3).bind fun bt224 => (if bt224.2.2.2 = 0 then (if a1 < (-2147483648) then (cx_PowerOf.j0 k a1 bt224.1 bt224.2.2.2 true bt224.2.1 bt224.2.2.1) else (cx_PowerOf.j0 k a1 bt224.1 bt224.2.2.2 (decide (a1 > 2147483647)) bt224.2.1 bt224.2.2.1)) else (cx_PowerOf.j0 k a1 bt224.1 bt224.2.2.2 false bt224.2.1 bt224.2.2.1))
set_option maxHeartbeats 8000000 in
set_option maxRecDepth 100000 in
theorem cx_PowerOf.calls (k : Nat) (a0_0 : Int) (a0_1 : Int) (a0_2 : Int) (a0_3 : ByteArray) (a1 : Int) (r1 : Int) (r2 : Int) (r3 : Int) (r4 : ByteArray) (r5 : Int) (w : World) (h : cx_PowerOf.f k a0_0 a0_1 a0_2 a0_3 a1 = some (r1, r2, r3, r4, r5)) :
  Calls Tryz.prog 22 #[.agg #[.int .i64 a0_0, .int .u64 a0_1, .int .u64 a0_2, .string a0_3], .int .i64 a1] w fun e w' => e = .returned (.tuple #[.agg #[.int .i64 r1, .int .u64 r2, .int .u64 r3, .string r4], .int .i64 r5]) ∧ Below w.heap.size w w' := by
 have hu24 := Tryz.underlying24
 have hu74 := Tryz.underlying74
 have HB := Zs.mk (Below.refl w.heap.size w)
 have H : ((cx_open.f a0_0 a0_1 a0_2 a0_3).bind fun bt224 => (if bt224.2.2.2 = 0 then (if a1 < (-2147483648) then (cx_PowerOf.j0 k a1 bt224.1 bt224.2.2.2 true bt224.2.1 bt224.2.2.1) else (cx_PowerOf.j0 k a1 bt224.1 bt224.2.2.2 (decide (a1 > 2147483647)) bt224.2.1 bt224.2.2.1)) else (cx_PowerOf.j0 k a1 bt224.1 bt224.2.2.2 false bt224.2.1 bt224.2.2.1))) = some (r1, r2, r3, r4, r5) := h
 clear h
 replace H := Option.bind_eq_some_iff.mp H
 obtain ⟨⟨t224, t225, t226, t227⟩, A3, H⟩ := H
 try dsimp only at H
 replace A3 := Zs.mk A3
 have HC4 := Zs.mk H
 clear H
 go_enter Tryz.func22, Tryz.ntmps22
 go_upto_region 2 with (first | ((with_reducible refine gd_ (N := 2) rfl ?_); refine bxe 2 (cs := #[.int .i64 a0_0, .int .u64 a0_1, .int .u64 a0_2, .string a0_3]) (t := 24) ?_; intro gb222 hg w5 hbox hb; have BK222 := Zs.mk hbox; have GW222 := bsz HB hg; have GE222 := bsz HB hg; replace HB := bls HB hb; clear hb hbox hg) | ((with_reducible refine gd_ (N := 4) rfl ?_); refine bxe 4 (cs := #[.int .i64 0, .int .u64 0, .int .u64 0, .string (⟨#[]⟩ : ByteArray)]) (t := 24) ?_; intro gb223 hg w6 hbox hb; have BK223 := Zs.mk hbox; have GW223 := bsz HB hg; have GE223 := bsz HB hg; have NB222_223 := bnl BK222 hg; have NB223_222 := bng BK222 hg; replace BK222 := bkb BK222 hb; replace HB := bls HB hb; clear hb hbox hg; have hnb7 := NB222_223.out; have hnc7 := NB223_222.out; obtain ⟨hcz8_0, hcz8_1, hcz8_2, hcz8_3, hfz8_0, hfz8_1, hfz8_2, hfz8_3⟩ := cf4 BK222) | ((with_reducible refine gc_ (f := 72) rfl ?_); refine gLc 11 Tryz.func72 (cx_open.calls a0_0 a0_1 a0_2 a0_3 t224 t225 t226 t227 _ A3.out) (fun w9 hb => ?_); replace BK222 := bkb BK222 hb; replace BK223 := bkb BK223 hb; replace HB := bls HB hb; clear hb) | ((with_reducible refine gd_ (N := 7) rfl ?_); refine bxe 7 (cs := #[.int .u64 0, .int .u64 0]) (t := 74) ?_; intro gb228 hg w10 hbox hb; have BK228 := Zs.mk hbox; have GW228 := bsz HB hg; have GE228 := bsz HB hg; have NB222_228 := bnl BK222 hg; have NB228_222 := bng BK222 hg; have NB223_228 := bnl BK223 hg; have NB228_223 := bng BK223 hg; replace BK222 := bkb BK222 hb; replace BK223 := bkb BK223 hb; replace HB := bls HB hb; clear hb hbox hg; have hnb11 := NB228_222.out; have hnc11 := NB222_228.out; have hnb12 := NB228_223.out; have hnc12 := NB223_228.out; obtain ⟨hcz13_0, hcz13_1, hfz13_0, hfz13_1⟩ := cf2 BK228))
 (try simp only [Act.put, List.setIfInBounds_toArray, List.set_cons_zero, List.set_cons_succ])
 go_cut [24] (fun v24 wc => ∃ (kq : Nat) (x24_3 : Bool), v24 = .bool x24_3 ∧ Zs (cx_PowerOf.j0 kq a1 t224 t227 x24_3 t225 t226 = some (r1, r2, r3, r4, r5)) ∧ Zs (kq ≤ k) ∧ Zs (wc.heap[gb222]? = some (.cells #[.int .i64 a0_0, .int .u64 a0_1, .int .u64 a0_2, .string a0_3] 24 (0, 0))) ∧ Zs (wc.heap[gb223]? = some (.cells #[.int .i64 0, .int .u64 0, .int .u64 0, .string (⟨#[]⟩ : ByteArray)] 24 (0, 0))) ∧ Zs (wc.heap[gb228]? = some (.cells #[.int .u64 t225, .int .u64 t226] 74 (0, 0))) ∧ Zs (Below w.heap.size w wc))
 case first =>
  have H := HC4.out
  clear HC4
  by_cases c14 : t227 = 0
  ·rw [if_pos c14] at H
   have c14b0 : (t227 == 0) = true := beq_iff_eq.mpr c14
   have c14b1 : (t227 != 0) = false := bne_eq_false_iff_eq.mpr c14
   clear c14
   (first | rw [c14b0] | (simp only [i64_w, i32_w]; rw [c14b0]) | skip)
   by_cases c15 : a1 < (-2147483648)
   ·rw [if_pos c15] at H
    have c15b0 : decide (a1 < (-2147483648)) = true := decide_eq_true c15
    clear c15
    have H' := Zs.mk H
    clear H
    go_wp2
    go_meet
    case rel => exact ⟨_, (true), (by first | rfl | (simp; done) | (simp [*]; done)), H', ⟨by first | omega | exact Nat.le_refl _⟩, bkf BK222, bkf BK223, ⟨by (with_reducible repeat (first | refine zn ?_ _ | refine zd ?_ | refine za ?_ _)); apply bp2; (with_reducible repeat (first | refine zn ?_ _ | refine zd ?_ | refine za ?_ _)); exact BK228.out⟩, blt HB⟩
   ·rw [if_neg c15] at H
    have c15b0 : decide (a1 < (-2147483648)) = false := decide_eq_false c15
    clear c15
    have H' := Zs.mk H
    clear H
    go_wp2
    go_meet
    case rel => exact ⟨_, (decide (a1 > 2147483647)), (by first | rfl | (simp; done) | (simp [*]; done)), H', ⟨by first | omega | exact Nat.le_refl _⟩, bkf BK222, bkf BK223, ⟨by (with_reducible repeat (first | refine zn ?_ _ | refine zd ?_ | refine za ?_ _)); apply bp2; (with_reducible repeat (first | refine zn ?_ _ | refine zd ?_ | refine za ?_ _)); exact BK228.out⟩, blt HB⟩
  ·rw [if_neg c14] at H
   have c14b0 : (t227 == 0) = false := beq_eq_false_iff_ne.mpr c14
   have c14b1 : (t227 != 0) = true := bne_iff_ne.mpr c14
   (first | rw [c14b0] | (simp only [i64_w, i32_w]; rw [c14b0]) | skip)
   have H' := Zs.mk H
   clear H
   go_wp2
   go_meet
   case rel => exact ⟨_, (false), (by first | rfl | (simp; done) | (simp [*]; done)), H', ⟨by first | omega | exact Nat.le_refl _⟩, bkf BK222, bkf BK223, ⟨by (with_reducible repeat (first | refine zn ?_ _ | refine zd ?_ | refine za ?_ _)); apply bp2; (with_reducible repeat (first | refine zn ?_ _ | refine zd ?_ | refine za ?_ _)); exact BK228.out⟩, blt HB⟩
 case rest =>
  clear HC4
  try clear c1
  try clear c2
  try clear p2
  try clear c7
  try clear c11
  try clear c12
  try clear c14
  try clear c14b0
  try clear c14b1
  try clear c15
  try clear c15b0
  try clear hcz13_0
  try clear hcz13_1
  try clear hcz8_0
  try clear hcz8_1
  try clear hcz8_2
  try clear hcz8_3
  try clear hfz13_0
  try clear hfz13_1
  try clear hfz8_0
  try clear hfz8_1
  try clear hfz8_2
  try clear hfz8_3
  obtain ⟨kq, x24_3, rfl, HA, HJ3, BK222, BK223, BK228, HB⟩ := hcut
  cases kq with
  | zero => exact absurd HA.out (by simp [cx_PowerOf.j0])
  | succ kj3 =>
   have H := HA.out
   clear HA
   simp only [cx_PowerOf.j0] at H
   have HC16 := Zs.mk H
   clear H
   go_upto_if 24 with (fail)
   go_cut [8] (fun v8 wc => ∃ (kq : Nat) (x8_15 : Int), v8 = .int .i64 x8_15 ∧ Zs (cx_PowerOf.j1 kq a1 t224 x8_15 t225 t226 = some (r1, r2, r3, r4, r5)) ∧ Zs (kq ≤ kj3) ∧ Zs (wc.heap[gb222]? = some (.cells #[.int .i64 a0_0, .int .u64 a0_1, .int .u64 a0_2, .string a0_3] 24 (0, 0))) ∧ Zs (wc.heap[gb223]? = some (.cells #[.int .i64 0, .int .u64 0, .int .u64 0, .string (⟨#[]⟩ : ByteArray)] 24 (0, 0))) ∧ Zs (wc.heap[gb228]? = some (.cells #[.int .u64 t225, .int .u64 t226] 74 (0, 0))) ∧ Zs (Below w.heap.size w wc))
   case first =>
    have H := HC16.out
    clear HC16
    by_cases c17 : x24_3 = true
    ·subst c17
     have H1 : (cx_PowerOf.j1 kj3 a1 t224 2 t225 t226) = some (r1, r2, r3, r4, r5) := by rw [if_pos rfl] at H; exact H
     clear H
     have H := H1
     clear H1
     have H' := Zs.mk H
     clear H
     go_wp2
     go_meet
     case rel => exact ⟨_, (2), (by first | rfl | (simp; done) | (simp [*]; done)), H', ⟨by have := HJ3.out; first | omega | exact Nat.le_refl _⟩, bks BK222, bks BK223, bks BK228, blt HB⟩
    ·replace c17 := Bool.eq_false_iff.mpr c17
     subst c17
     have H1 : (cx_PowerOf.j1 kj3 a1 t224 t227 t225 t226) = some (r1, r2, r3, r4, r5) := by rw [if_neg (show ¬ (false = true) by decide)] at H; exact H
     clear H
     have H := H1
     clear H1
     have H' := Zs.mk H
     clear H
     go_wp2
     go_meet
     case rel => exact ⟨_, (t227), (by first | rfl | (simp; done) | (simp [*]; done)), H', ⟨by have := HJ3.out; first | omega | exact Nat.le_refl _⟩, bks BK222, bks BK223, bks BK228, blt HB⟩
   case rest =>
    clear HC16
    try clear c1
    try clear c2
    try clear p2
    try clear c7
    try clear c11
    try clear c12
    try clear c14
    try clear c14b0
    try clear c14b1
    try clear c15
    try clear c15b0
    try clear c17
    try clear hcz13_0
    try clear hcz13_1
    try clear hcz8_0
    try clear hcz8_1
    try clear hcz8_2
    try clear hcz8_3
    try clear hfz13_0
    try clear hfz13_1
    try clear hfz8_0
    try clear hfz8_1
    try clear hfz8_2
    try clear hfz8_3
    try clear p2
    obtain ⟨kq, x8_15, rfl, HA, HJ15, BK222, BK223, BK228, HB⟩ := hcut
    cases kq with
    | zero => exact absurd HA.out (by simp [cx_PowerOf.j1])
    | succ kj15 =>
     have H := HA.out
     clear HA
     simp only [cx_PowerOf.j1] at H
     by_cases c18 : x8_15 = 0
     ·rw [if_pos c18] at H
      have c18b0 : (x8_15 == 0) = true := beq_iff_eq.mpr c18
      have c18b1 : (x8_15 != 0) = false := bne_eq_false_iff_eq.mpr c18
      clear c18
      replace H := Option.bind_eq_some_iff.mp H
      obtain ⟨⟨t229, t230⟩, A19, H⟩ := H
      try dsimp only at H
      replace A19 := Zs.mk A19
      replace H := Option.bind_eq_some_iff.mp H
      obtain ⟨⟨t231, t232, t233, t234⟩, A20, H⟩ := H
      try dsimp only at H
      replace A20 := Zs.mk A20
      simp only [Option.some.injEq, Prod.mk.injEq] at H
      obtain ⟨rfl, rfl, rfl, rfl, rfl⟩ := H
      have hnb21 := NB228_222.out
      have hnc21 := NB222_228.out
      have hnb22 := NB228_223.out
      have hnc22 := NB223_228.out
      obtain ⟨hcz23_0, hcz23_1, hfz23_0, hfz23_1⟩ := cf2 BK228
      go_wp2_with (first | ((with_reducible refine gc_ (f := 73) rfl ?_); refine gLc 33 Tryz.func73 (fd_power.calls kj15 t224 t225 t226 a1 t229 t230 _ A19.out) (fun w24 hb => ?_); replace BK222 := bkb BK222 hb; replace BK223 := bkb BK223 hb; replace BK228 := bkb BK228 hb; replace HB := bls HB hb; clear hb) | ((with_reducible refine gc_ (f := 57) rfl ?_); refine gLc 34 Tryz.func57 (fd_value.calls t224 t229 t230 t231 t232 t233 t234 _ A20.out) (fun w25 hb => ?_); replace BK222 := bkb BK222 hb; replace BK223 := bkb BK223 hb; replace BK228 := bkb BK228 hb; replace HB := bls HB hb; clear hb; have hnb26 := NB223_222.out; have hnc26 := NB222_223.out; obtain ⟨hcz27_0, hcz27_1, hcz27_2, hcz27_3, hfz27_0, hfz27_1, hfz27_2, hfz27_3⟩ := cf4 BK223))
      refine bodyPost_ret (results_ct rfl _ _ gb223 24 #[.int .i64 t231, .int .u64 t232, .int .u64 t233, .string t234] (0, 0) _ rfl (by (with_reducible repeat (first | refine zn ?_ _ | refine zd ?_ | refine za ?_ _)); apply bp4; (with_reducible repeat (first | refine zn ?_ _ | refine zd ?_ | refine za ?_ _)); exact BK223.out) Tryz.underlying24 rfl (by kernel_rfl)) rfl ?_
      exact fin_ (blt HB)
     ·rw [if_neg c18] at H
      have c18b0 : (x8_15 == 0) = false := beq_eq_false_iff_ne.mpr c18
      have c18b1 : (x8_15 != 0) = true := bne_iff_ne.mpr c18
      simp only [Option.some.injEq, Prod.mk.injEq] at H
      obtain ⟨rfl, rfl, rfl, rfl, rfl⟩ := H
      have hnb28 := NB223_222.out
      have hnc28 := NB222_223.out
      have hnb29 := NB223_228.out
      have hnc29 := NB228_223.out
      obtain ⟨hcz30_0, hcz30_1, hcz30_2, hcz30_3, hfz30_0, hfz30_1, hfz30_2, hfz30_3⟩ := cf4 BK223
      go_wp2
      refine bodyPost_ret (results_ct rfl _ _ gb223 24 #[.int .i64 0, .int .u64 0, .int .u64 0, .string (⟨#[]⟩ : ByteArray)] (0, 0) _ rfl (by (with_reducible repeat (first | refine zn ?_ _ | refine zd ?_ | refine za ?_ _)); apply bp4; (with_reducible repeat (first | refine zn ?_ _ | refine zd ?_ | refine za ?_ _)); exact BK223.out) Tryz.underlying24 rfl (by kernel_rfl)) rfl ?_
      exact fin_ (blt HB)
def cx_SizeOf.f (k : Nat) (a0_0 : Int) (a0_1 : Int) (a0_2 : Int) (a0_3 : ByteArray) : Option (Int × Int × Int × ByteArray × Int) := (cx_open.f a0_0 a0_1 a0_2 a0_3).bind fun bt237 => (if bt237.2.2.2 = 0 then ((fd_distance.f k bt237.1 bt237.2.1 bt237.2.2.1).bind fun t242 => (some (bt237.1, t242, 0, (⟨#[]⟩ : ByteArray), 0))) else (some (0, 0, 0, (⟨#[]⟩ : ByteArray), bt237.2.2.2)))
set_option maxHeartbeats 8000000 in
set_option maxRecDepth 100000 in
theorem cx_SizeOf.calls (k : Nat) (a0_0 : Int) (a0_1 : Int) (a0_2 : Int) (a0_3 : ByteArray) (r1 : Int) (r2 : Int) (r3 : Int) (r4 : ByteArray) (r5 : Int) (w : World) (h : cx_SizeOf.f k a0_0 a0_1 a0_2 a0_3 = some (r1, r2, r3, r4, r5)) :
  Calls Tryz.prog 26 #[.agg #[.int .i64 a0_0, .int .u64 a0_1, .int .u64 a0_2, .string a0_3]] w fun e w' => e = .returned (.tuple #[.agg #[.int .i64 r1, .int .u64 r2, .int .u64 r3, .string r4], .int .i64 r5]) ∧ Below w.heap.size w w' := by
 have hu24 := Tryz.underlying24
 have hu74 := Tryz.underlying74
 have HB := Zs.mk (Below.refl w.heap.size w)
 have H : ((cx_open.f a0_0 a0_1 a0_2 a0_3).bind fun bt237 => (if bt237.2.2.2 = 0 then ((fd_distance.f k bt237.1 bt237.2.1 bt237.2.2.1).bind fun t242 => (some (bt237.1, t242, 0, (⟨#[]⟩ : ByteArray), 0))) else (some (0, 0, 0, (⟨#[]⟩ : ByteArray), bt237.2.2.2)))) = some (r1, r2, r3, r4, r5) := h
 clear h
 replace H := Option.bind_eq_some_iff.mp H
 obtain ⟨⟨t237, t238, t239, t240⟩, A2, H⟩ := H
 try dsimp only at H
 replace A2 := Zs.mk A2
 by_cases c3 : t240 = 0
 ·rw [if_pos c3] at H
  have c3b0 : (t240 == 0) = true := beq_iff_eq.mpr c3
  have c3b1 : (t240 != 0) = false := bne_eq_false_iff_eq.mpr c3
  clear c3
  replace H := Option.bind_eq_some_iff.mp H
  obtain ⟨t242, A4, H⟩ := H
  try dsimp only at H
  replace A4 := Zs.mk A4
  simp only [Option.some.injEq, Prod.mk.injEq] at H
  obtain ⟨rfl, rfl, rfl, rfl, rfl⟩ := H
  go_enter Tryz.func26, Tryz.ntmps26
  go_wp2_with (first | ((with_reducible refine gd_ (N := 1) rfl ?_); refine bxe 1 (cs := #[.int .i64 a0_0, .int .u64 a0_1, .int .u64 a0_2, .string a0_3]) (t := 24) ?_; intro gb235 hg w5 hbox hb; have BK235 := Zs.mk hbox; have GW235 := bsz HB hg; have GE235 := bsz HB hg; replace HB := bls HB hb; clear hb hbox hg) | ((with_reducible refine gd_ (N := 2) rfl ?_); refine bxe 2 (cs := #[.int .i64 0, .int .u64 0, .int .u64 0, .string (⟨#[]⟩ : ByteArray)]) (t := 24) ?_; intro gb236 hg w6 hbox hb; have BK236 := Zs.mk hbox; have GW236 := bsz HB hg; have GE236 := bsz HB hg; have NB235_236 := bnl BK235 hg; have NB236_235 := bng BK235 hg; replace BK235 := bkb BK235 hb; replace HB := bls HB hb; clear hb hbox hg; have hnb7 := NB235_236.out; have hnc7 := NB236_235.out; obtain ⟨hcz8_0, hcz8_1, hcz8_2, hcz8_3, hfz8_0, hfz8_1, hfz8_2, hfz8_3⟩ := cf4 BK235) | ((with_reducible refine gc_ (f := 72) rfl ?_); refine gLc 9 Tryz.func72 (cx_open.calls a0_0 a0_1 a0_2 a0_3 t237 t238 t239 t240 _ A2.out) (fun w9 hb => ?_); replace BK235 := bkb BK235 hb; replace BK236 := bkb BK236 hb; replace HB := bls HB hb; clear hb) | ((with_reducible refine gd_ (N := 5) rfl ?_); refine bxe 5 (cs := #[.int .u64 0, .int .u64 0]) (t := 74) ?_; intro gb241 hg w10 hbox hb; have BK241 := Zs.mk hbox; have GW241 := bsz HB hg; have GE241 := bsz HB hg; have NB235_241 := bnl BK235 hg; have NB241_235 := bng BK235 hg; have NB236_241 := bnl BK236 hg; have NB241_236 := bng BK236 hg; replace BK235 := bkb BK235 hb; replace BK236 := bkb BK236 hb; replace HB := bls HB hb; clear hb hbox hg; have hnb11 := NB241_235.out; have hnc11 := NB235_241.out; have hnb12 := NB241_236.out; have hnc12 := NB236_241.out; obtain ⟨hcz13_0, hcz13_1, hfz13_0, hfz13_1⟩ := cf2 BK241) | ((with_reducible refine gc_ (f := 79) rfl ?_); refine gLc 20 Tryz.func79 (fd_distance.calls k t237 t238 t239 t242 _ A4.out) (fun w14 hb => ?_); replace BK235 := bkfb BK235 hb; replace BK236 := bkfb BK236 hb; replace BK241 := Zs.mk (blk_below (g := gb241) (o := .cells #[.int .u64 t238, .int .u64 t239] 74 (0, 0)) (by (with_reducible repeat (first | refine zn ?_ _ | refine zd ?_ | refine za ?_ _)); apply bp2; (with_reducible repeat (first | refine zn ?_ _ | refine zd ?_ | refine za ?_ _)); exact BK241.out) hb); replace HB := bls HB hb; clear hb; obtain ⟨hcz15_0, hcz15_1, hcz15_2, hcz15_3, hfz15_0, hfz15_1, hfz15_2, hfz15_3⟩ := cf4 BK236))
  refine bodyPost_ret (results_ct rfl _ _ gb236 24 #[.int .i64 t237, .int .u64 t242, .int .u64 0, .string (⟨#[]⟩ : ByteArray)] (0, 0) _ rfl (by (with_reducible repeat (first | refine zn ?_ _ | refine zd ?_ | refine za ?_ _)); apply bp4; (with_reducible repeat (first | refine zn ?_ _ | refine zd ?_ | refine za ?_ _)); exact BK236.out) Tryz.underlying24 rfl (by kernel_rfl)) rfl ?_
  exact fin_ (blt HB)
 ·rw [if_neg c3] at H
  have c3b0 : (t240 == 0) = false := beq_eq_false_iff_ne.mpr c3
  have c3b1 : (t240 != 0) = true := bne_iff_ne.mpr c3
  simp only [Option.some.injEq, Prod.mk.injEq] at H
  obtain ⟨rfl, rfl, rfl, rfl, rfl⟩ := H
  go_enter Tryz.func26, Tryz.ntmps26
  go_wp2_with (first | ((with_reducible refine gd_ (N := 1) rfl ?_); refine bxe 1 (cs := #[.int .i64 a0_0, .int .u64 a0_1, .int .u64 a0_2, .string a0_3]) (t := 24) ?_; intro gb235 hg w16 hbox hb; have BK235 := Zs.mk hbox; have GW235 := bsz HB hg; have GE235 := bsz HB hg; replace HB := bls HB hb; clear hb hbox hg) | ((with_reducible refine gd_ (N := 2) rfl ?_); refine bxe 2 (cs := #[.int .i64 0, .int .u64 0, .int .u64 0, .string (⟨#[]⟩ : ByteArray)]) (t := 24) ?_; intro gb236 hg w17 hbox hb; have BK236 := Zs.mk hbox; have GW236 := bsz HB hg; have GE236 := bsz HB hg; have NB235_236 := bnl BK235 hg; have NB236_235 := bng BK235 hg; replace BK235 := bkb BK235 hb; replace HB := bls HB hb; clear hb hbox hg; have hnb18 := NB235_236.out; have hnc18 := NB236_235.out; obtain ⟨hcz19_0, hcz19_1, hcz19_2, hcz19_3, hfz19_0, hfz19_1, hfz19_2, hfz19_3⟩ := cf4 BK235) | ((with_reducible refine gc_ (f := 72) rfl ?_); refine gLc 9 Tryz.func72 (cx_open.calls a0_0 a0_1 a0_2 a0_3 t237 t238 t239 t240 _ A2.out) (fun w20 hb => ?_); replace BK235 := bkb BK235 hb; replace BK236 := bkb BK236 hb; replace HB := bls HB hb; clear hb) | ((with_reducible refine gd_ (N := 5) rfl ?_); refine bxe 5 (cs := #[.int .u64 0, .int .u64 0]) (t := 74) ?_; intro gb241 hg w21 hbox hb; have BK241 := Zs.mk hbox; have GW241 := bsz HB hg; have GE241 := bsz HB hg; have NB235_241 := bnl BK235 hg; have NB241_235 := bng BK235 hg; have NB236_241 := bnl BK236 hg; have NB241_236 := bng BK236 hg; replace BK235 := bkb BK235 hb; replace BK236 := bkb BK236 hb; replace HB := bls HB hb; clear hb hbox hg; have hnb22 := NB241_235.out; have hnc22 := NB235_241.out; have hnb23 := NB241_236.out; have hnc23 := NB236_241.out; obtain ⟨hcz24_0, hcz24_1, hfz24_0, hfz24_1⟩ := cf2 BK241; obtain ⟨hcz25_0, hcz25_1, hcz25_2, hcz25_3, hfz25_0, hfz25_1, hfz25_2, hfz25_3⟩ := cf4 BK236))
  refine bodyPost_ret (results_ct rfl _ _ gb236 24 #[.int .i64 0, .int .u64 0, .int .u64 0, .string (⟨#[]⟩ : ByteArray)] (0, 0) _ rfl (by (with_reducible repeat (first | refine zn ?_ _ | refine zd ?_ | refine za ?_ _)); apply bp4; (with_reducible repeat (first | refine zn ?_ _ | refine zd ?_ | refine za ?_ _)); refine blk_far ?_ NB236_241.out _; (with_reducible repeat (first | refine zn ?_ _ | refine zd ?_ | refine za ?_ _)); refine blk_far ?_ NB236_241.out _; (with_reducible repeat (first | refine zn ?_ _ | refine zd ?_ | refine za ?_ _)); exact BK236.out) Tryz.underlying24 rfl (by kernel_rfl)) rfl ?_
  exact fin_ (blt HB)
end Go.Proofs.YtmoimcblmmcffaaGreat.PPC

namespace Go.Proofs.YtmoimcblmmcffaaGreat.PPC
open Go.RowKit Go.Proofs.YtmoimcblmmcffaaGreatW.PrintWords Go.Proofs.YtmoimcblmmcffaaGreatW.PrintLast Go.Proofs.YtmoimcblmmcffaaGreatW.PrintMore Go.Proofs.YtmoimcblmmcffaaGreatW.PrintZ
attribute [local go_sem] max2_int min2_int max_two min_two max_three min_three max_four min_four   -- for this text's walks alone
set_option linter.unusedVariables false
set_option linter.unusedSimpArgs false
def cx_Negated_1.f (a0 : Int) (a1_0 : Int) (a1_1 : Int) : Option (Int × Int) := (fd_negated.f a0 a1_0).bind fun t313 => ((fd_negated.f a0 a1_1).bind fun t314 => (some (t313, t314)))
def cx_Negated_1.T1 : Bool × List (List Nat × List Nat) := (true, [([], []), ([], []), ([1], [1]), ([0, 2], [0, 2]), ([], []), ([], []), ([5], [5]), ([4, 6, 3], [4, 6]), ([3, 7], [3, 7]), ([8, 7, 0, 1, 2, 3, 4, 5, 6, 7, 8], [8])])
def cx_Negated_1.B1 : List Nat := [0, 0, 2, 7, 0, 0, 32, 127, 255, 511]
theorem cx_Negated_1.tab1 : rtab .any (opsOf Tryz.f80 1) = cx_Negated_1.T1 := by kernel_rfl
theorem cx_Negated_1.bits1 : waitsOk cx_Negated_1.T1.2 cx_Negated_1.B1 = true := by kernel_rfl
set_option maxHeartbeats 8000000 in
set_option maxRecDepth 100000 in
theorem cx_Negated_1.calls (a0 : Int) (a1_0 : Int) (a1_1 : Int) (r1 : Int) (r2 : Int) (w : World) (h : cx_Negated_1.f a0 a1_0 a1_1 = some (r1, r2)) :
  Calls Tryz.prog 80 #[.int .i64 a0, .agg #[.int .u64 a1_0, .int .u64 a1_1]] w fun e w' => e = .returned (.agg #[.int .u64 r1, .int .u64 r2]) ∧ Below w.heap.size w w' := by
 have hu74 := Tryz.underlying74
 have HB := Zs.mk (Below.refl w.heap.size w)
 have H : ((fd_negated.f a0 a1_0).bind fun t313 => ((fd_negated.f a0 a1_1).bind fun t314 => (some (t313, t314)))) = some (r1, r2) := h
 clear h
 replace H := Option.bind_eq_some_iff.mp H
 obtain ⟨t313, A3, H⟩ := H
 try dsimp only at H
 replace A3 := Zs.mk A3
 replace H := Option.bind_eq_some_iff.mp H
 obtain ⟨t314, A4, H⟩ := H
 try dsimp only at H
 replace A4 := Zs.mk A4
 simp only [Option.some.injEq, Prod.mk.injEq] at H
 obtain ⟨rfl, rfl⟩ := H
 go_enter Tryz.func80, Tryz.ntmps80
 try go_wp2_with (first | ((with_reducible refine gd_ (N := 3) rfl ?_); refine bxe 3 (cs := #[.int .u64 a1_0, .int .u64 a1_1]) (t := 74) ?_; intro gb311 hg w5 hbox hb; have BK311 := Zs.mk hbox; have GW311 := bsz HB hg; have GE311 := bsz HB hg; replace HB := bls HB hb; clear hb hbox hg) | ((with_reducible refine gd_ (N := 4) rfl ?_); refine bxe 4 (cs := #[.int .u64 0, .int .u64 0]) (t := 74) ?_; intro gb312 hg w6 hbox hb; have BK312 := Zs.mk hbox; have GW312 := bsz HB hg; have GE312 := bsz HB hg; have NB311_312 := bnl BK311 hg; have NB312_311 := bng BK311 hg; replace BK311 := bkb BK311 hb; replace HB := bls HB hb; clear hb hbox hg))
 replace BK311 := Zs.mk (zd BK311.out)
 replace BK312 := Zs.mk (zd BK312.out)
 replace HB := Zs.mk (below_drew1 HB.out)
 refine start_ (n := 10) (S := fun w' => w'.cell? ⟨gb311, 0, none⟩ = some (.int .u64 a1_0) ∧ w'.cell? ⟨gb311, 1, none⟩ = some (.int .u64 a1_1)) (ds := []) #[false, false, false, false, false, false, false, false, false, false] (by kernel_rfl) rfl rfl (cf2c BK311) (fun hHeld => ?_); refine with_tabW cx_Negated_1.tab1 cx_Negated_1.bits1 (fun HT_ HW_ => ?_)
 generalize w6.drew = w7 at BK311 BK312 HB hHeld ⊢
 refine pu 0 5 HT_ ?_
 refine pu 1 6 HT_ ?_
 refine pu 4 9 HT_ ?_
 refine pu 5 10 HT_ ?_
 refine tk 2 7 HT_ HW_ hHeld ?_
 refine tk 6 11 HT_ HW_ hHeld ?_
 refine on 3 8 HT_ (fun K hK => ?_)
 refine gsc Tryz.func81 (fd_negated.calls a0 a1_0 t313 _ A3.out) (fun w8 hb => ?_)
 replace BK311 := bkb BK311 hb
 replace BK312 := bkb BK312 hb
 replace HB := bls HB hb
 (try clear hb)
 (try clear hb2)
 (try clear hk)
 (try clear hi)
 refine hK.out _ _ (cf2c BK311) (fun hHeld => ?_)
 clear hK K
 refine nm 8 ?_
 refine on 7 12 HT_ (fun K hK => ?_)
 refine gsc Tryz.func81 (fd_negated.calls a0 a1_1 t314 _ A4.out) (fun w9 hb => ?_)
 replace BK311 := bkb BK311 hb
 replace BK312 := bkb BK312 hb
 replace HB := bls HB hb
 (try clear hb)
 (try clear hb2)
 (try clear hk)
 (try clear hi)
 refine hK.out _ _ (cf2c BK311) (fun hHeld => ?_)
 clear hK K
 refine nm 12 ?_
 refine pu 8 13 HT_ ?_
 refine one_ (i := 9) (N := none) #[true, true, true, true, true, true, true, true, true, true] rfl rfl (one_of HT_.out (by kernel_rfl)) (by decide) (fun K hK => ?_)
 have hs10 : w9.cell? ⟨gb312, 0, none⟩ = some (.int .u64 0) := (zc BK312.out 0).trans rfl
 have hfs10 := zf BK312.out 0
 have hns10_0 := NB311_312.out
 have hms10_0 := NB312_311.out
 have hs11 : w9.cell? ⟨gb312, 1, none⟩ = some (.int .u64 0) := (zc BK312.out 1).trans rfl
 have hfs11 := zf BK312.out 1
 have hns11_0 := NB311_312.out
 have hms11_0 := NB312_311.out
 refine skip_ (w1 := ?_) (by rfl) rfl ?_ ?_
 rotate_left
 ·go_simp
  rfl
 refine hK.out _ _ ⟨((cell_far (p := ⟨gb312, _, none⟩) NB311_312.out _).trans (((cell_far (p := ⟨gb312, _, none⟩) NB311_312.out _).trans (hHeld.1)))), ((cell_far (p := ⟨gb312, _, none⟩) NB311_312.out _).trans (((cell_far (p := ⟨gb312, _, none⟩) NB311_312.out _).trans (hHeld.2))))⟩ (fun hHeld => ?_)
 clear hK K
 refine done_ (done_of HT_.out (by kernel_rfl)) ?_
 try go_wp2
 refine bodyPost_ret (results_cell_row rfl _ _ gb312 74 #[.int .u64 t313, .int .u64 t314] (0, 0) _ rfl (by (with_reducible repeat (first | refine zn ?_ _ | refine zd ?_ | refine za ?_ _)); apply bp2; (with_reducible repeat (first | refine zn ?_ _ | refine zd ?_ | refine za ?_ _)); exact BK312.out) Tryz.underlying74 rfl (by kernel_rfl)) rfl ?_
 exact fin_ (blt HB)
end Go.Proofs.YtmoimcblmmcffaaGreat.PPC

namespace Go.Proofs.YtmoimcblmmcffaaGreat.PRA
open Go.RowKit Go.Proofs.YtmoimcblmmcffaaGreatW.PrintWords Go.Proofs.YtmoimcblmmcffaaGreatW.PrintLast Go.Proofs.YtmoimcblmmcffaaGreatW.PrintMore
attribute [local go_sem] max2_int min2_int max_two min_two max_three min_three max_four min_four   -- for this text's walks alone
set_option linter.unusedVariables false
set_option linter.unusedSimpArgs false
def errW : Option Int → Value
 | none => .nilIface
 | some c => .iface 0 (.int .i64 c)
theorem errW_none : errW none = .nilIface := rfl
theorem errW_some (c : Int) : errW (some c) = .iface 0 (.int .i64 c) := rfl
end Go.Proofs.YtmoimcblmmcffaaGreat.PRA

namespace Go.Proofs.YtmoimcblmmcffaaGreat.PRA
open Go.RowKit Go.Proofs.YtmoimcblmmcffaaGreatW.PrintWords Go.Proofs.YtmoimcblmmcffaaGreatW.PrintLast Go.Proofs.YtmoimcblmmcffaaGreatW.PrintMore Go.Proofs.YtmoimcblmmcffaaGreatW.PrintZ
attribute [local go_sem] max2_int min2_int max_two min_two max_three min_three max_four min_four   -- for this text's walks alone
set_option linter.unusedVariables false
set_option linter.unusedSimpArgs false
def r10_PartType.f (a0 : Int) : Option (Int) := if a0 = 3 then (some 1) else (some 2)
set_option maxHeartbeats 8000000 in
set_option maxRecDepth 100000 in
theorem r10_PartType.calls (a0 : Int) (r : Int) (w : World) (h : r10_PartType.f a0 = some r) :
  Calls Tryz.prog 16 #[.int .i64 a0] w fun e w' => e = .returned (.int .i64 r) ∧ Drawn0 w w' := by
 have H : (if a0 = 3 then (some 1) else (some 2)) = some r := h
 clear h
 by_cases c2 : a0 = 3
 ·rw [if_pos c2] at H
  have c2b0 : (a0 == 3) = true := beq_iff_eq.mpr c2
  have c2b1 : (a0 != 3) = false := bne_eq_false_iff_eq.mpr c2
  clear c2
  obtain rfl := Option.some.inj H
  go_enter Tryz.func16, Tryz.ntmps16
  go_wp2
  go_ret
  exact ⟨by first | rfl | (simp; done) | (simp [*]; done), by repeat (first | exact Drawn0.refl _ | apply Drawn0.step)⟩
 ·rw [if_neg c2] at H
  have c2b0 : (a0 == 3) = false := beq_eq_false_iff_ne.mpr c2
  have c2b1 : (a0 != 3) = true := bne_iff_ne.mpr c2
  obtain rfl := Option.some.inj H
  go_enter Tryz.func16, Tryz.ntmps16
  go_wp2
  go_ret
  exact ⟨by first | rfl | (simp; done) | (simp [*]; done), by repeat (first | exact Drawn0.refl _ | apply Drawn0.step)⟩
def r10_Made.f (a0 : Int) (a1 : Int) (a2 : Int) : Option (Int × Int × Int × ByteArray) := some (a0, a1, a2, (⟨#[]⟩ : ByteArray))
set_option maxHeartbeats 8000000 in
set_option maxRecDepth 100000 in
theorem r10_Made.calls (a0 : Int) (a1 : Int) (a2 : Int) (r1 : Int) (r2 : Int) (r3 : Int) (r4 : ByteArray) (w : World) (h : r10_Made.f a0 a1 a2 = some (r1, r2, r3, r4)) :
  Calls Tryz.prog 18 #[.int .i64 a0, .int .u64 a1, .int .u64 a2] w fun e w' => e = .returned (.agg #[.int .i64 r1, .int .u64 r2, .int .u64 r3, .string r4]) ∧ Below w.heap.size w w' := by
 have hu24 := Tryz.underlying24
 have HB := Zs.mk (Below.refl w.heap.size w)
 have H : (some (a0, a1, a2, (⟨#[]⟩ : ByteArray))) = some (r1, r2, r3, r4) := h
 clear h
 simp only [Option.some.injEq, Prod.mk.injEq] at H
 obtain ⟨rfl, rfl, rfl, rfl⟩ := H
 go_enter Tryz.func18, Tryz.ntmps18
 go_wp2_with (first | ((with_reducible refine gd_ (N := 6) rfl ?_); refine bxe 6 (cs := #[.int .i64 0, .int .u64 0, .int .u64 0, .string (⟨#[]⟩ : ByteArray)]) (t := 24) ?_; intro gb101 hg w4 hbox hb; have BK101 := Zs.mk hbox; have GW101 := bsz HB hg; have GE101 := bsz HB hg; replace HB := bls HB hb; clear hb hbox hg; obtain ⟨hcz5_0, hcz5_1, hcz5_2, hcz5_3, hfz5_0, hfz5_1, hfz5_2, hfz5_3⟩ := cf4 BK101))
 refine bodyPost_ret (results_cell_row rfl _ _ gb101 24 #[.int .i64 a0, .int .u64 a1, .int .u64 a2, .string (⟨#[]⟩ : ByteArray)] (0, 0) _ rfl (by (with_reducible repeat (first | refine zn ?_ _ | refine zd ?_ | refine za ?_ _)); apply bp4; (with_reducible repeat (first | refine zn ?_ _ | refine zd ?_ | refine za ?_ _)); exact BK101.out) Tryz.underlying24 rfl (by kernel_rfl)) rfl ?_
 exact fin_ (blt HB)
def r10_Add.f (a0_0 : Int) (a0_1 : Int) (a0_2 : Int) (a0_3 : ByteArray) (a1_0 : Int) (a1_1 : Int) (a1_2 : Int) (a1_3 : ByteArray) : Option (Int × Int × Int × ByteArray) := (r10_PartType.f a0_0).bind fun t105 => ((r8_Add.f t105 a0_1 a1_1).bind fun t106 => ((r8_Add.f t105 a0_2 a1_2).bind fun t107 => ((r10_Made.f a0_0 t106 t107).bind fun bt108 => (some (bt108.1, bt108.2.1, bt108.2.2.1, bt108.2.2.2)))))
def r10_Sub.f (a0_0 : Int) (a0_1 : Int) (a0_2 : Int) (a0_3 : ByteArray) (a1_0 : Int) (a1_1 : Int) (a1_2 : Int) (a1_3 : ByteArray) : Option (Int × Int × Int × ByteArray) := (r10_PartType.f a0_0).bind fun t115 => ((r8_Minus2.f t115 a0_1 a1_1).bind fun t116 => ((r8_Minus2.f t115 a0_2 a1_2).bind fun t117 => ((r10_Made.f a0_0 t116 t117).bind fun bt118 => (some (bt118.1, bt118.2.1, bt118.2.2.1, bt118.2.2.2)))))
end Go.Proofs.YtmoimcblmmcffaaGreat.PRA

namespace Go.Proofs.YtmoimcblmmcffaaGreat.PRA
open Go.RowKit Go.Proofs.YtmoimcblmmcffaaGreatW.PrintWords Go.Proofs.YtmoimcblmmcffaaGreatW.PrintLast Go.Proofs.YtmoimcblmmcffaaGreatW.PrintMore Go.Proofs.YtmoimcblmmcffaaGreatW.PrintZ
attribute [local go_sem] max2_int min2_int max_two min_two max_three min_three max_four min_four   -- for this text's walks alone
set_option linter.unusedVariables false
set_option linter.unusedSimpArgs false
def r10_Mul.f (a0_0 : Int) (a0_1 : Int) (a0_2 : Int) (a0_3 : ByteArray) (a1_0 : Int) (a1_1 : Int) (a1_2 : Int) (a1_3 : ByteArray) : Option (Int × Int × Int × ByteArray) := (r10_PartType.f a0_0).bind fun t125 => ((r8_Mul.f t125 a0_1 a1_1).bind fun t126 => ((r8_Mul.f t125 a0_2 a1_2).bind fun t127 => ((r8_Minus2.f t125 t126 t127).bind fun t128 => ((r8_Mul.f t125 a0_1 a1_2).bind fun t129 => ((r8_Mul.f t125 a0_2 a1_1).bind fun t130 => ((r8_Add.f t125 t129 t130).bind fun t131 => ((r10_Made.f a0_0 t128 t131).bind fun bt132 => (some (bt132.1, bt132.2.1, bt132.2.2.1, bt132.2.2.2)))))))))
def r10_Mul.T2 : Bool × List (List Nat × List Nat) := (true, [([], []), ([], []), ([], []), ([2], [2]), ([], []), ([4], [4]), ([1, 3, 5], [1, 3, 5]), ([], []), ([], []), ([8], [8]), ([], []), ([10], [10]), ([7, 9, 11, 6], [7, 9, 11]), ([0, 6, 12, 12], [0, 6, 12]), ([13, 13, 0, 1, 2, 3, 4, 5, 6, 7, 8, 9, 10, 11, 12, 13], [13])])
def r10_Mul.B2 : List Nat := [0, 0, 0, 4, 0, 16, 62, 0, 0, 256, 0, 1024, 4094, 8191, 16383]
theorem r10_Mul.tab2 : rtab .any (opsOf Tryz.f60 2) = r10_Mul.T2 := by kernel_rfl
theorem r10_Mul.bits2 : waitsOk r10_Mul.T2.2 r10_Mul.B2 = true := by kernel_rfl
def r10_Mul.T3 : Bool × List (List Nat × List Nat) := (true, [([], []), ([], []), ([], []), ([2], [2]), ([], []), ([4], [4]), ([1, 3, 5], [1, 3, 5]), ([], []), ([], []), ([8], [8]), ([], []), ([10], [10]), ([7, 9, 11, 6], [7, 9, 11]), ([0, 6, 12, 12], [0, 6, 12]), ([13, 13, 0, 1, 2, 3, 4, 5, 6, 7, 8, 9, 10, 11, 12, 13], [13])])
def r10_Mul.B3 : List Nat := [0, 0, 0, 4, 0, 16, 62, 0, 0, 256, 0, 1024, 4094, 8191, 16383]
theorem r10_Mul.tab3 : rtab .any (opsOf Tryz.f60 3) = r10_Mul.T3 := by kernel_rfl
theorem r10_Mul.bits3 : waitsOk r10_Mul.T3.2 r10_Mul.B3 = true := by kernel_rfl
set_option maxHeartbeats 8000000 in
set_option maxRecDepth 100000 in
theorem r10_Mul.calls (a0_0 : Int) (a0_1 : Int) (a0_2 : Int) (a0_3 : ByteArray) (a1_0 : Int) (a1_1 : Int) (a1_2 : Int) (a1_3 : ByteArray) (r1 : Int) (r2 : Int) (r3 : Int) (r4 : ByteArray) (w : World) (h : r10_Mul.f a0_0 a0_1 a0_2 a0_3 a1_0 a1_1 a1_2 a1_3 = some (r1, r2, r3, r4)) :
  Calls Tryz.prog 60 #[.agg #[.int .i64 a0_0, .int .u64 a0_1, .int .u64 a0_2, .string a0_3], .agg #[.int .i64 a1_0, .int .u64 a1_1, .int .u64 a1_2, .string a1_3]] w fun e w' => e = .returned (.agg #[.int .i64 r1, .int .u64 r2, .int .u64 r3, .string r4]) ∧ Below w.heap.size w w' := by
 have hu24 := Tryz.underlying24
 have HB := Zs.mk (Below.refl w.heap.size w)
 have H : ((r10_PartType.f a0_0).bind fun t125 => ((r8_Mul.f t125 a0_1 a1_1).bind fun t126 => ((r8_Mul.f t125 a0_2 a1_2).bind fun t127 => ((r8_Minus2.f t125 t126 t127).bind fun t128 => ((r8_Mul.f t125 a0_1 a1_2).bind fun t129 => ((r8_Mul.f t125 a0_2 a1_1).bind fun t130 => ((r8_Add.f t125 t129 t130).bind fun t131 => ((r10_Made.f a0_0 t128 t131).bind fun bt132 => (some (bt132.1, bt132.2.1, bt132.2.2.1, bt132.2.2.2)))))))))) = some (r1, r2, r3, r4) := h
 clear h
 replace H := Option.bind_eq_some_iff.mp H
 obtain ⟨t125, A3, H⟩ := H
 try dsimp only at H
 replace A3 := Zs.mk A3
 replace H := Option.bind_eq_some_iff.mp H
 obtain ⟨t126, A4, H⟩ := H
 try dsimp only at H
 replace A4 := Zs.mk A4
 replace H := Option.bind_eq_some_iff.mp H
 obtain ⟨t127, A5, H⟩ := H
 try dsimp only at H
 replace A5 := Zs.mk A5
 replace H := Option.bind_eq_some_iff.mp H
 obtain ⟨t128, A6, H⟩ := H
 try dsimp only at H
 replace A6 := Zs.mk A6
 replace H := Option.bind_eq_some_iff.mp H
 obtain ⟨t129, A7, H⟩ := H
 try dsimp only at H
 replace A7 := Zs.mk A7
 replace H := Option.bind_eq_some_iff.mp H
 obtain ⟨t130, A8, H⟩ := H
 try dsimp only at H
 replace A8 := Zs.mk A8
 replace H := Option.bind_eq_some_iff.mp H
 obtain ⟨t131, A9, H⟩ := H
 try dsimp only at H
 replace A9 := Zs.mk A9
 replace H := Option.bind_eq_some_iff.mp H
 obtain ⟨⟨t132, t133, t134, t135⟩, A10, H⟩ := H
 try dsimp only at H
 replace A10 := Zs.mk A10
 simp only [Option.some.injEq, Prod.mk.injEq] at H
 obtain ⟨rfl, rfl, rfl, rfl⟩ := H
 go_enter Tryz.func60, Tryz.ntmps60
 try go_wp2_with (first | ((with_reducible refine gd_ (N := 2) rfl ?_); refine bxe 2 (cs := #[.int .i64 a0_0, .int .u64 a0_1, .int .u64 a0_2, .string a0_3]) (t := 24) ?_; intro gb122 hg w11 hbox hb; have BK122 := Zs.mk hbox; have GW122 := bsz HB hg; have GE122 := bsz HB hg; replace HB := bls HB hb; clear hb hbox hg) | ((with_reducible refine gd_ (N := 3) rfl ?_); refine bxe 3 (cs := #[.int .i64 a1_0, .int .u64 a1_1, .int .u64 a1_2, .string a1_3]) (t := 24) ?_; intro gb123 hg w12 hbox hb; have BK123 := Zs.mk hbox; have GW123 := bsz HB hg; have GE123 := bsz HB hg; have NB122_123 := bnl BK122 hg; have NB123_122 := bng BK122 hg; replace BK122 := bkb BK122 hb; replace HB := bls HB hb; clear hb hbox hg) | ((with_reducible refine gd_ (N := 4) rfl ?_); refine bxe 4 (cs := #[.int .i64 0, .int .u64 0, .int .u64 0, .string (⟨#[]⟩ : ByteArray)]) (t := 24) ?_; intro gb124 hg w13 hbox hb; have BK124 := Zs.mk hbox; have GW124 := bsz HB hg; have GE124 := bsz HB hg; have NB122_124 := bnl BK122 hg; have NB124_122 := bng BK122 hg; have NB123_124 := bnl BK123 hg; have NB124_123 := bng BK123 hg; replace BK122 := bkb BK122 hb; replace BK123 := bkb BK123 hb; replace HB := bls HB hb; clear hb hbox hg; have hnb14 := NB122_123.out; have hnc14 := NB123_122.out; have hnb15 := NB122_124.out; have hnc15 := NB124_122.out; obtain ⟨hcz16_0, hcz16_1, hcz16_2, hcz16_3, hfz16_0, hfz16_1, hfz16_2, hfz16_3⟩ := cf4 BK122) | ((with_reducible refine gc_ (f := 16) rfl ?_); refine gLc 10 Tryz.func16 (r10_PartType.calls a0_0 t125 _ A3.out) (fun _ h_ => ?_); obtain ⟨nd, rfl⟩ := h_; (try (rw [drewN_self w13]; generalize hq_ : World.drewN w13 _ = w13; have n0_ : Zs (w13.heap[gb122]? = some (.cells #[.int .i64 a0_0, .int .u64 a0_1, .int .u64 a0_2, .string a0_3] 24 (0, 0))) := ⟨by rw [← hq_]; exact (bks BK122).out⟩; have n1_ : Zs (w13.heap[gb123]? = some (.cells #[.int .i64 a1_0, .int .u64 a1_1, .int .u64 a1_2, .string a1_3] 24 (0, 0))) := ⟨by rw [← hq_]; exact (bks BK123).out⟩; have n2_ : Zs (w13.heap[gb124]? = some (.cells #[.int .i64 0, .int .u64 0, .int .u64 0, .string (⟨#[]⟩ : ByteArray)] 24 (0, 0))) := ⟨by rw [← hq_]; exact (bks BK124).out⟩; have n3_ : Zs (Below w.heap.size w w13) := ⟨by rw [← hq_]; exact (blt HB).out⟩; clear BK122 BK123 BK124 HB hq_; have BK122 := n0_; have BK123 := n1_; have BK124 := n2_; have HB := n3_; clear n0_ n1_ n2_ n3_))))
 replace BK122 := Zs.mk (zd BK122.out)
 replace BK123 := Zs.mk (zd BK123.out)
 replace BK124 := Zs.mk (zd BK124.out)
 replace HB := Zs.mk (below_drew1 HB.out)
 refine start_ (n := 15) (S := fun w' => w'.cell? ⟨gb122, 0, none⟩ = some (.int .i64 a0_0) ∧ w'.cell? ⟨gb122, 1, none⟩ = some (.int .u64 a0_1) ∧ w'.cell? ⟨gb122, 2, none⟩ = some (.int .u64 a0_2) ∧ w'.cell? ⟨gb122, 3, none⟩ = some (.string a0_3) ∧ w'.cell? ⟨gb123, 0, none⟩ = some (.int .i64 a1_0) ∧ w'.cell? ⟨gb123, 1, none⟩ = some (.int .u64 a1_1) ∧ w'.cell? ⟨gb123, 2, none⟩ = some (.int .u64 a1_2) ∧ w'.cell? ⟨gb123, 3, none⟩ = some (.string a1_3)) (ds := []) #[false, false, false, false, false, false, false, false, false, false, false, false, false, false, false] (by kernel_rfl) rfl rfl ⟨(zc BK122.out 0).trans rfl, (zc BK122.out 1).trans rfl, (zc BK122.out 2).trans rfl, (zc BK122.out 3).trans rfl, (zc BK123.out 0).trans rfl, (zc BK123.out 1).trans rfl, (zc BK123.out 2).trans rfl, (zc BK123.out 3).trans rfl⟩ (fun hHeld => ?_); refine with_tabW r10_Mul.tab2 r10_Mul.bits2 (fun HT_ HW_ => ?_)
 generalize w13.drew = w17 at BK122 BK123 BK124 HB hHeld ⊢
 refine pu 0 11 HT_ ?_
 refine pu 1 12 HT_ ?_
 refine pu 2 13 HT_ ?_
 refine pu 4 15 HT_ ?_
 refine pu 7 18 HT_ ?_
 refine pu 8 19 HT_ ?_
 refine pu 10 21 HT_ ?_
 refine tk 3 14 HT_ HW_ hHeld ?_
 refine tk 5 16 HT_ HW_ hHeld ?_
 refine tk 9 20 HT_ HW_ hHeld ?_
 refine tk 11 22 HT_ HW_ hHeld ?_
 refine on 6 17 HT_ (fun K hK => ?_)
 refine gsc Tryz.func65 (r8_Mul.calls t125 a0_1 a1_1 t126 _ A4.out) (fun w18 hb => ?_)
 replace BK122 := bkb BK122 hb
 replace BK123 := bkb BK123 hb
 replace BK124 := bkb BK124 hb
 replace HB := bls HB hb
 (try clear hb)
 (try clear hb2)
 (try clear hk)
 (try clear hi)
 refine hK.out _ _ ⟨(zc BK122.out 0).trans rfl, (zc BK122.out 1).trans rfl, (zc BK122.out 2).trans rfl, (zc BK122.out 3).trans rfl, (zc BK123.out 0).trans rfl, (zc BK123.out 1).trans rfl, (zc BK123.out 2).trans rfl, (zc BK123.out 3).trans rfl⟩ (fun hHeld => ?_)
 clear hK K
 refine nm 17 ?_
 refine on 12 23 HT_ (fun K hK => ?_)
 refine gsc Tryz.func65 (r8_Mul.calls t125 a0_2 a1_2 t127 _ A5.out) (fun w19 hb => ?_)
 replace BK122 := bkb BK122 hb
 replace BK123 := bkb BK123 hb
 replace BK124 := bkb BK124 hb
 replace HB := bls HB hb
 (try clear hb)
 (try clear hb2)
 (try clear hk)
 (try clear hi)
 refine hK.out _ _ ⟨(zc BK122.out 0).trans rfl, (zc BK122.out 1).trans rfl, (zc BK122.out 2).trans rfl, (zc BK122.out 3).trans rfl, (zc BK123.out 0).trans rfl, (zc BK123.out 1).trans rfl, (zc BK123.out 2).trans rfl, (zc BK123.out 3).trans rfl⟩ (fun hHeld => ?_)
 clear hK K
 refine nm 23 ?_
 refine on 13 24 HT_ (fun K hK => ?_)
 refine gsc Tryz.func64 (r8_Minus2.calls t125 t126 t127 t128 _ A6.out) (fun w20 hb => ?_)
 replace BK122 := bkb BK122 hb
 replace BK123 := bkb BK123 hb
 replace BK124 := bkb BK124 hb
 replace HB := bls HB hb
 (try clear hb)
 (try clear hb2)
 (try clear hk)
 (try clear hi)
 refine hK.out _ _ ⟨(zc BK122.out 0).trans rfl, (zc BK122.out 1).trans rfl, (zc BK122.out 2).trans rfl, (zc BK122.out 3).trans rfl, (zc BK123.out 0).trans rfl, (zc BK123.out 1).trans rfl, (zc BK123.out 2).trans rfl, (zc BK123.out 3).trans rfl⟩ (fun hHeld => ?_)
 clear hK K
 refine nm 24 ?_
 refine pu 14 6 HT_ ?_
 refine done_ (done_of HT_.out (by kernel_rfl)) ?_
 try go_wp2
 replace BK122 := Zs.mk (zd BK122.out)
 replace BK123 := Zs.mk (zd BK123.out)
 replace BK124 := Zs.mk (zd BK124.out)
 replace HB := Zs.mk (below_drew1 HB.out)
 refine start_ (n := 15) (S := fun w' => w'.cell? ⟨gb122, 0, none⟩ = some (.int .i64 a0_0) ∧ w'.cell? ⟨gb122, 1, none⟩ = some (.int .u64 a0_1) ∧ w'.cell? ⟨gb122, 2, none⟩ = some (.int .u64 a0_2) ∧ w'.cell? ⟨gb122, 3, none⟩ = some (.string a0_3) ∧ w'.cell? ⟨gb123, 0, none⟩ = some (.int .i64 a1_0) ∧ w'.cell? ⟨gb123, 1, none⟩ = some (.int .u64 a1_1) ∧ w'.cell? ⟨gb123, 2, none⟩ = some (.int .u64 a1_2) ∧ w'.cell? ⟨gb123, 3, none⟩ = some (.string a1_3)) (ds := []) #[false, false, false, false, false, false, false, false, false, false, false, false, false, false, false] (by kernel_rfl) rfl rfl ⟨(zc BK122.out 0).trans rfl, (zc BK122.out 1).trans rfl, (zc BK122.out 2).trans rfl, (zc BK122.out 3).trans rfl, (zc BK123.out 0).trans rfl, (zc BK123.out 1).trans rfl, (zc BK123.out 2).trans rfl, (zc BK123.out 3).trans rfl⟩ (fun hHeld => ?_); refine with_tabW r10_Mul.tab3 r10_Mul.bits3 (fun HT_ HW_ => ?_)
 generalize w20.drew = w21 at BK122 BK123 BK124 HB hHeld ⊢
 refine pu 0 25 HT_ ?_
 refine pu 1 26 HT_ ?_
 refine pu 2 27 HT_ ?_
 refine pu 4 29 HT_ ?_
 refine pu 7 32 HT_ ?_
 refine pu 8 33 HT_ ?_
 refine pu 10 35 HT_ ?_
 refine tk 3 28 HT_ HW_ hHeld ?_
 refine tk 5 30 HT_ HW_ hHeld ?_
 refine tk 9 34 HT_ HW_ hHeld ?_
 refine tk 11 36 HT_ HW_ hHeld ?_
 refine on 6 31 HT_ (fun K hK => ?_)
 refine gsc Tryz.func65 (r8_Mul.calls t125 a0_1 a1_2 t129 _ A7.out) (fun w22 hb => ?_)
 replace BK122 := bkb BK122 hb
 replace BK123 := bkb BK123 hb
 replace BK124 := bkb BK124 hb
 replace HB := bls HB hb
 (try clear hb)
 (try clear hb2)
 (try clear hk)
 (try clear hi)
 refine hK.out _ _ ⟨(zc BK122.out 0).trans rfl, (zc BK122.out 1).trans rfl, (zc BK122.out 2).trans rfl, (zc BK122.out 3).trans rfl, (zc BK123.out 0).trans rfl, (zc BK123.out 1).trans rfl, (zc BK123.out 2).trans rfl, (zc BK123.out 3).trans rfl⟩ (fun hHeld => ?_)
 clear hK K
 refine nm 31 ?_
 refine on 12 37 HT_ (fun K hK => ?_)
 refine gsc Tryz.func65 (r8_Mul.calls t125 a0_2 a1_1 t130 _ A8.out) (fun w23 hb => ?_)
 replace BK122 := bkb BK122 hb
 replace BK123 := bkb BK123 hb
 replace BK124 := bkb BK124 hb
 replace HB := bls HB hb
 (try clear hb)
 (try clear hb2)
 (try clear hk)
 (try clear hi)
 refine hK.out _ _ ⟨(zc BK122.out 0).trans rfl, (zc BK122.out 1).trans rfl, (zc BK122.out 2).trans rfl, (zc BK122.out 3).trans rfl, (zc BK123.out 0).trans rfl, (zc BK123.out 1).trans rfl, (zc BK123.out 2).trans rfl, (zc BK123.out 3).trans rfl⟩ (fun hHeld => ?_)
 clear hK K
 refine nm 37 ?_
 refine on 13 38 HT_ (fun K hK => ?_)
 refine gsc Tryz.func63 (r8_Add.calls t125 t129 t130 t131 _ A9.out) (fun w24 hb => ?_)
 replace BK122 := bkb BK122 hb
 replace BK123 := bkb BK123 hb
 replace BK124 := bkb BK124 hb
 replace HB := bls HB hb
 (try clear hb)
 (try clear hb2)
 (try clear hk)
 (try clear hi)
 refine hK.out _ _ ⟨(zc BK122.out 0).trans rfl, (zc BK122.out 1).trans rfl, (zc BK122.out 2).trans rfl, (zc BK122.out 3).trans rfl, (zc BK123.out 0).trans rfl, (zc BK123.out 1).trans rfl, (zc BK123.out 2).trans rfl, (zc BK123.out 3).trans rfl⟩ (fun hHeld => ?_)
 clear hK K
 refine nm 38 ?_
 refine pu 14 7 HT_ ?_
 refine done_ (done_of HT_.out (by kernel_rfl)) ?_
 obtain ⟨hcz25_0, hcz25_1, hcz25_2, hcz25_3, hfz25_0, hfz25_1, hfz25_2, hfz25_3⟩ := cf4 BK122
 try go_wp2_with (first | ((with_reducible refine gc_ (f := 18) rfl ?_); refine gLc 43 Tryz.func18 (r10_Made.calls a0_0 t128 t131 t132 t133 t134 t135 _ A10.out) (fun w26 hb => ?_); replace BK122 := bkb BK122 hb; replace BK123 := bkb BK123 hb; replace BK124 := bkb BK124 hb; replace HB := bls HB hb; clear hb; have hnb27 := NB124_123.out; have hnc27 := NB123_124.out; obtain ⟨hcz28_0, hcz28_1, hcz28_2, hcz28_3, hfz28_0, hfz28_1, hfz28_2, hfz28_3⟩ := cf4 BK124))
 refine bodyPost_ret (results_cell_row rfl _ _ gb124 24 #[.int .i64 t132, .int .u64 t133, .int .u64 t134, .string t135] (0, 0) _ rfl (by (with_reducible repeat (first | refine zn ?_ _ | refine zd ?_ | refine za ?_ _)); apply bp4; (with_reducible repeat (first | refine zn ?_ _ | refine zd ?_ | refine za ?_ _)); exact BK124.out) Tryz.underlying24 rfl (by kernel_rfl)) rfl ?_
 exact fin_ (blt HB)
end Go.Proofs.YtmoimcblmmcffaaGreat.PRA

namespace Go.Proofs.YtmoimcblmmcffaaGreat.PRA
open Go.RowKit Go.Proofs.YtmoimcblmmcffaaGreatW.PrintWords Go.Proofs.YtmoimcblmmcffaaGreatW.PrintLast Go.Proofs.YtmoimcblmmcffaaGreatW.PrintMore Go.Proofs.YtmoimcblmmcffaaGreatW.PrintZ
attribute [local go_sem] max2_int min2_int max_two min_two max_three min_three max_four min_four   -- for this text's walks alone
set_option linter.unusedVariables false
set_option linter.unusedSimpArgs false
def r10_Div.f (a0_0 : Int) (a0_1 : Int) (a0_2 : Int) (a0_3 : ByteArray) (a1_0 : Int) (a1_1 : Int) (a1_2 : Int) (a1_3 : ByteArray) : Option (Int × Int × Int × ByteArray) := (r10_PartType.f a0_0).bind fun t139 => ((r8_Sized.f t139 a1_1).bind fun t140 => ((r8_Sized.f t139 a1_2).bind fun t141 => ((r8_Compare.f t139 t140 t141).bind fun t142 => (if t142 = (-1) then ((r8_Div.f t139 a1_1 a1_2).bind fun t156 => ((r8_Mul.f t139 t156 a1_1).bind fun t157 => ((r8_Add.f t139 a1_2 t157).bind fun t158 => ((r8_Mul.f t139 a0_1 t156).bind fun t159 => ((r8_Add.f t139 t159 a0_2).bind fun t160 => ((r8_Div.f t139 t160 t158).bind fun t161 => ((r8_Mul.f t139 a0_2 t156).bind fun t162 => ((r8_Minus2.f t139 t162 a0_1).bind fun t163 => ((r8_Div.f t139 t163 t158).bind fun t164 => ((r10_Made.f a0_0 t161 t164).bind fun bt165 => (some (bt165.1, bt165.2.1, bt165.2.2.1, bt165.2.2.2)))))))))))) else ((r8_Div.f t139 a1_2 a1_1).bind fun t143 => ((r8_Mul.f t139 t143 a1_2).bind fun t144 => ((r8_Add.f t139 a1_1 t144).bind fun t145 => ((r8_Mul.f t139 a0_2 t143).bind fun t146 => ((r8_Add.f t139 a0_1 t146).bind fun t147 => ((r8_Div.f t139 t147 t145).bind fun t148 => ((r8_Mul.f t139 a0_1 t143).bind fun t149 => ((r8_Minus2.f t139 a0_2 t149).bind fun t150 => ((r8_Div.f t139 t150 t145).bind fun t151 => ((r10_Made.f a0_0 t148 t151).bind fun bt152 => (some (bt152.1, bt152.2.1, bt152.2.2.1, bt152.2.2.2))))))))))))))))
def r10_Div.T2 : Bool × List (List Nat × List Nat) := (true, [([], []), ([0], [0]), ([], []), ([2], [2]), ([], []), ([4], [4]), ([], []), ([6], [6]), ([1, 0, 1], [1]), ([3, 8, 0, 1, 2, 3, 8], [3]), ([5, 9, 0, 1, 2, 3, 4, 5, 8, 9], [5]), ([7, 10, 0, 1, 2, 3, 4, 5, 6, 7, 8, 9, 10], [7])])
def r10_Div.B2 : List Nat := [0, 1, 0, 4, 0, 16, 0, 64, 3, 271, 831, 2047]
theorem r10_Div.tab2 : rtab .any (opsOf Tryz.f61 2) = r10_Div.T2 := by kernel_rfl
theorem r10_Div.bits2 : waitsOk r10_Div.T2.2 r10_Div.B2 = true := by kernel_rfl
def r10_Div.T6 : Bool × List (List Nat × List Nat) := (true, [([], []), ([0], [0]), ([], []), ([], []), ([], []), ([], []), ([], []), ([], []), ([5, 6, 7], [5, 6, 7]), ([3, 4, 8, 8], [3, 4, 8]), ([], []), ([2, 9, 10, 9], [2, 9, 10]), ([], []), ([], []), ([], []), ([], []), ([], []), ([], []), ([15, 16, 17, 11], [15, 16, 17]), ([13, 14, 18, 18], [13, 14, 18]), ([], []), ([12, 19, 20, 19], [12, 19, 20]), ([1, 11, 21, 21], [1, 11, 21]), ([22, 22, 0, 1, 2, 3, 4, 5, 6, 7, 8, 9, 10, 11, 12, 13, 14, 15, 16, 17, 18, 19, 20, 21, 22], [22])])
def r10_Div.B6 : List Nat := [0, 1, 0, 0, 0, 0, 0, 0, 224, 504, 0, 2044, 0, 0, 0, 0, 0, 0, 233468, 520188, 0, 2097148, 4194303, 8388607]
theorem r10_Div.tab6 : rtab .any (opsOf Tryz.f61 6) = r10_Div.T6 := by kernel_rfl
theorem r10_Div.bits6 : waitsOk r10_Div.T6.2 r10_Div.B6 = true := by kernel_rfl
def r10_Div.T9 : Bool × List (List Nat × List Nat) := (true, [([], []), ([0], [0]), ([], []), ([], []), ([], []), ([], []), ([], []), ([4, 5, 6], [4, 5, 6]), ([], []), ([3, 7, 8, 7], [3, 7, 8]), ([], []), ([2, 9, 10, 9], [2, 9, 10]), ([], []), ([], []), ([], []), ([], []), ([], []), ([14, 15, 16, 11], [14, 15, 16]), ([], []), ([13, 17, 18, 17], [13, 17, 18]), ([], []), ([12, 19, 20, 19], [12, 19, 20]), ([1, 11, 21, 21], [1, 11, 21]), ([22, 22, 0, 1, 2, 3, 4, 5, 6, 7, 8, 9, 10, 11, 12, 13, 14, 15, 16, 17, 18, 19, 20, 21, 22], [22])])
def r10_Div.B9 : List Nat := [0, 1, 0, 0, 0, 0, 0, 112, 0, 504, 0, 2044, 0, 0, 0, 0, 0, 118780, 0, 520188, 0, 2097148, 4194303, 8388607]
theorem r10_Div.tab9 : rtab .any (opsOf Tryz.f61 9) = r10_Div.T9 := by kernel_rfl
theorem r10_Div.bits9 : waitsOk r10_Div.T9.2 r10_Div.B9 = true := by kernel_rfl
set_option maxHeartbeats 8000000 in
set_option maxRecDepth 100000 in
theorem r10_Div.calls (a0_0 : Int) (a0_1 : Int) (a0_2 : Int) (a0_3 : ByteArray) (a1_0 : Int) (a1_1 : Int) (a1_2 : Int) (a1_3 : ByteArray) (r1 : Int) (r2 : Int) (r3 : Int) (r4 : ByteArray) (w : World) (h : r10_Div.f a0_0 a0_1 a0_2 a0_3 a1_0 a1_1 a1_2 a1_3 = some (r1, r2, r3, r4)) :
  Calls Tryz.prog 61 #[.agg #[.int .i64 a0_0, .int .u64 a0_1, .int .u64 a0_2, .string a0_3], .agg #[.int .i64 a1_0, .int .u64 a1_1, .int .u64 a1_2, .string a1_3]] w fun e w' => e = .returned (.agg #[.int .i64 r1, .int .u64 r2, .int .u64 r3, .string r4]) ∧ Below w.heap.size w w' := by
 have hu24 := Tryz.underlying24
 have HB := Zs.mk (Below.refl w.heap.size w)
 have H : ((r10_PartType.f a0_0).bind fun t139 => ((r8_Sized.f t139 a1_1).bind fun t140 => ((r8_Sized.f t139 a1_2).bind fun t141 => ((r8_Compare.f t139 t140 t141).bind fun t142 => (if t142 = (-1) then ((r8_Div.f t139 a1_1 a1_2).bind fun t156 => ((r8_Mul.f t139 t156 a1_1).bind fun t157 => ((r8_Add.f t139 a1_2 t157).bind fun t158 => ((r8_Mul.f t139 a0_1 t156).bind fun t159 => ((r8_Add.f t139 t159 a0_2).bind fun t160 => ((r8_Div.f t139 t160 t158).bind fun t161 => ((r8_Mul.f t139 a0_2 t156).bind fun t162 => ((r8_Minus2.f t139 t162 a0_1).bind fun t163 => ((r8_Div.f t139 t163 t158).bind fun t164 => ((r10_Made.f a0_0 t161 t164).bind fun bt165 => (some (bt165.1, bt165.2.1, bt165.2.2.1, bt165.2.2.2)))))))))))) else ((r8_Div.f t139 a1_2 a1_1).bind fun t143 => ((r8_Mul.f t139 t143 a1_2).bind fun t144 => ((r8_Add.f t139 a1_1 t144).bind fun t145 => ((r8_Mul.f t139 a0_2 t143).bind fun t146 => ((r8_Add.f t139 a0_1 t146).bind fun t147 => ((r8_Div.f t139 t147 t145).bind fun t148 => ((r8_Mul.f t139 a0_1 t143).bind fun t149 => ((r8_Minus2.f t139 a0_2 t149).bind fun t150 => ((r8_Div.f t139 t150 t145).bind fun t151 => ((r10_Made.f a0_0 t148 t151).bind fun bt152 => (some (bt152.1, bt152.2.1, bt152.2.2.1, bt152.2.2.2))))))))))))))))) = some (r1, r2, r3, r4) := h
 clear h
 replace H := Option.bind_eq_some_iff.mp H
 obtain ⟨t139, A3, H⟩ := H
 try dsimp only at H
 replace A3 := Zs.mk A3
 replace H := Option.bind_eq_some_iff.mp H
 obtain ⟨t140, A4, H⟩ := H
 try dsimp only at H
 replace A4 := Zs.mk A4
 replace H := Option.bind_eq_some_iff.mp H
 obtain ⟨t141, A5, H⟩ := H
 try dsimp only at H
 replace A5 := Zs.mk A5
 replace H := Option.bind_eq_some_iff.mp H
 obtain ⟨t142, A6, H⟩ := H
 try dsimp only at H
 replace A6 := Zs.mk A6
 by_cases c7 : t142 = (-1)
 ·rw [if_pos c7] at H
  have c7b0 : (t142 == (-1)) = true := beq_iff_eq.mpr c7
  have c7b1 : (t142 != (-1)) = false := bne_eq_false_iff_eq.mpr c7
  clear c7
  replace H := Option.bind_eq_some_iff.mp H
  obtain ⟨t156, A8, H⟩ := H
  try dsimp only at H
  replace A8 := Zs.mk A8
  replace H := Option.bind_eq_some_iff.mp H
  obtain ⟨t157, A9, H⟩ := H
  try dsimp only at H
  replace A9 := Zs.mk A9
  replace H := Option.bind_eq_some_iff.mp H
  obtain ⟨t158, A10, H⟩ := H
  try dsimp only at H
  replace A10 := Zs.mk A10
  replace H := Option.bind_eq_some_iff.mp H
  obtain ⟨t159, A11, H⟩ := H
  try dsimp only at H
  replace A11 := Zs.mk A11
  replace H := Option.bind_eq_some_iff.mp H
  obtain ⟨t160, A12, H⟩ := H
  try dsimp only at H
  replace A12 := Zs.mk A12
  replace H := Option.bind_eq_some_iff.mp H
  obtain ⟨t161, A13, H⟩ := H
  try dsimp only at H
  replace A13 := Zs.mk A13
  replace H := Option.bind_eq_some_iff.mp H
  obtain ⟨t162, A14, H⟩ := H
  try dsimp only at H
  replace A14 := Zs.mk A14
  replace H := Option.bind_eq_some_iff.mp H
  obtain ⟨t163, A15, H⟩ := H
  try dsimp only at H
  replace A15 := Zs.mk A15
  replace H := Option.bind_eq_some_iff.mp H
  obtain ⟨t164, A16, H⟩ := H
  try dsimp only at H
  replace A16 := Zs.mk A16
  replace H := Option.bind_eq_some_iff.mp H
  obtain ⟨⟨t165, t166, t167, t168⟩, A17, H⟩ := H
  try dsimp only at H
  replace A17 := Zs.mk A17
  simp only [Option.some.injEq, Prod.mk.injEq] at H
  obtain ⟨rfl, rfl, rfl, rfl⟩ := H
  go_enter Tryz.func61, Tryz.ntmps61
  try go_wp2_with (first | ((with_reducible refine gd_ (N := 2) rfl ?_); refine bxe 2 (cs := #[.int .i64 a0_0, .int .u64 a0_1, .int .u64 a0_2, .string a0_3]) (t := 24) ?_; intro gb136 hg w18 hbox hb; have BK136 := Zs.mk hbox; have GW136 := bsz HB hg; have GE136 := bsz HB hg; replace HB := bls HB hb; clear hb hbox hg) | ((with_reducible refine gd_ (N := 3) rfl ?_); refine bxe 3 (cs := #[.int .i64 a1_0, .int .u64 a1_1, .int .u64 a1_2, .string a1_3]) (t := 24) ?_; intro gb137 hg w19 hbox hb; have BK137 := Zs.mk hbox; have GW137 := bsz HB hg; have GE137 := bsz HB hg; have NB136_137 := bnl BK136 hg; have NB137_136 := bng BK136 hg; replace BK136 := bkb BK136 hb; replace HB := bls HB hb; clear hb hbox hg) | ((with_reducible refine gd_ (N := 4) rfl ?_); refine bxe 4 (cs := #[.int .i64 0, .int .u64 0, .int .u64 0, .string (⟨#[]⟩ : ByteArray)]) (t := 24) ?_; intro gb138 hg w20 hbox hb; have BK138 := Zs.mk hbox; have GW138 := bsz HB hg; have GE138 := bsz HB hg; have NB136_138 := bnl BK136 hg; have NB138_136 := bng BK136 hg; have NB137_138 := bnl BK137 hg; have NB138_137 := bng BK137 hg; replace BK136 := bkb BK136 hb; replace BK137 := bkb BK137 hb; replace HB := bls HB hb; clear hb hbox hg; have hnb21 := NB136_137.out; have hnc21 := NB137_136.out; have hnb22 := NB136_138.out; have hnc22 := NB138_136.out; obtain ⟨hcz23_0, hcz23_1, hcz23_2, hcz23_3, hfz23_0, hfz23_1, hfz23_2, hfz23_3⟩ := cf4 BK136) | ((with_reducible refine gc_ (f := 16) rfl ?_); refine gLc 16 Tryz.func16 (r10_PartType.calls a0_0 t139 _ A3.out) (fun _ h_ => ?_); obtain ⟨nd, rfl⟩ := h_; (try (rw [drewN_self w20]; generalize hq_ : World.drewN w20 _ = w20; have n0_ : Zs (w20.heap[gb136]? = some (.cells #[.int .i64 a0_0, .int .u64 a0_1, .int .u64 a0_2, .string a0_3] 24 (0, 0))) := ⟨by rw [← hq_]; exact (bks BK136).out⟩; have n1_ : Zs (w20.heap[gb137]? = some (.cells #[.int .i64 a1_0, .int .u64 a1_1, .int .u64 a1_2, .string a1_3] 24 (0, 0))) := ⟨by rw [← hq_]; exact (bks BK137).out⟩; have n2_ : Zs (w20.heap[gb138]? = some (.cells #[.int .i64 0, .int .u64 0, .int .u64 0, .string (⟨#[]⟩ : ByteArray)] 24 (0, 0))) := ⟨by rw [← hq_]; exact (bks BK138).out⟩; have n3_ : Zs (Below w.heap.size w w20) := ⟨by rw [← hq_]; exact (blt HB).out⟩; clear BK136 BK137 BK138 HB hq_; have BK136 := n0_; have BK137 := n1_; have BK138 := n2_; have HB := n3_; clear n0_ n1_ n2_ n3_))))
  replace BK136 := Zs.mk (zd BK136.out)
  replace BK137 := Zs.mk (zd BK137.out)
  replace BK138 := Zs.mk (zd BK138.out)
  replace HB := Zs.mk (below_drew1 HB.out)
  refine start_ (n := 12) (S := fun w' => w'.cell? ⟨gb136, 0, none⟩ = some (.int .i64 a0_0) ∧ w'.cell? ⟨gb136, 1, none⟩ = some (.int .u64 a0_1) ∧ w'.cell? ⟨gb136, 2, none⟩ = some (.int .u64 a0_2) ∧ w'.cell? ⟨gb136, 3, none⟩ = some (.string a0_3) ∧ w'.cell? ⟨gb137, 0, none⟩ = some (.int .i64 a1_0) ∧ w'.cell? ⟨gb137, 1, none⟩ = some (.int .u64 a1_1) ∧ w'.cell? ⟨gb137, 2, none⟩ = some (.int .u64 a1_2) ∧ w'.cell? ⟨gb137, 3, none⟩ = some (.string a1_3)) (ds := []) #[false, false, false, false, false, false, false, false, false, false, false, false] (by kernel_rfl) rfl rfl ⟨(zc BK136.out 0).trans rfl, (zc BK136.out 1).trans rfl, (zc BK136.out 2).trans rfl, (zc BK136.out 3).trans rfl, (zc BK137.out 0).trans rfl, (zc BK137.out 1).trans rfl, (zc BK137.out 2).trans rfl, (zc BK137.out 3).trans rfl⟩ (fun hHeld => ?_); refine with_tabW r10_Div.tab2 r10_Div.bits2 (fun HT_ HW_ => ?_)
  generalize w20.drew = w24 at BK136 BK137 BK138 HB hHeld ⊢
  refine pu 0 17 HT_ ?_
  refine pu 2 19 HT_ ?_
  refine pu 4 21 HT_ ?_
  refine pu 6 23 HT_ ?_
  refine tk 1 18 HT_ HW_ hHeld ?_
  refine pu 8 6 HT_ ?_
  refine tk 3 20 HT_ HW_ hHeld ?_
  refine pu 9 7 HT_ ?_
  refine tk 5 22 HT_ HW_ hHeld ?_
  refine pu 10 8 HT_ ?_
  refine tk 7 24 HT_ HW_ hHeld ?_
  refine pu 11 9 HT_ ?_
  refine done_ (done_of HT_.out (by kernel_rfl)) ?_
  try go_wp2_with (first | ((with_reducible refine gc_ (f := 84) rfl ?_); refine gLc 28 Tryz.func84 (r8_Sized.calls t139 a1_1 t140 _ A4.out) (fun w25 hb => ?_); replace BK136 := bkb BK136 hb; replace BK137 := bkb BK137 hb; replace BK138 := bkb BK138 hb; replace HB := bls HB hb; clear hb) | ((with_reducible refine gc_ (f := 84) rfl ?_); refine gLc 31 Tryz.func84 (r8_Sized.calls t139 a1_2 t141 _ A5.out) (fun w26 hb => ?_); replace BK136 := bkb BK136 hb; replace BK137 := bkb BK137 hb; replace BK138 := bkb BK138 hb; replace HB := bls HB hb; clear hb) | ((with_reducible refine gc_ (f := 62) rfl ?_); refine gLc 32 Tryz.func62 (r8_Compare.calls t139 t140 t141 t142 _ A6.out) (fun w27 hb => ?_); replace BK136 := bkb BK136 hb; replace BK137 := bkb BK137 hb; replace BK138 := bkb BK138 hb; replace HB := bls HB hb; clear hb) | ((with_reducible refine gc_ (f := 66) rfl ?_); refine gLc 71 Tryz.func66 (r8_Div.calls t139 a1_1 a1_2 t156 _ A8.out) (fun w28 hb => ?_); replace BK136 := bkb BK136 hb; replace BK137 := bkb BK137 hb; replace BK138 := bkb BK138 hb; replace HB := bls HB hb; clear hb) | ((with_reducible refine gc_ (f := 65) rfl ?_); refine gLc 77 Tryz.func65 (r8_Mul.calls t139 t156 a1_1 t157 _ A9.out) (fun w29 hb => ?_); replace BK136 := bkb BK136 hb; replace BK137 := bkb BK137 hb; replace BK138 := bkb BK138 hb; replace HB := bls HB hb; clear hb) | ((with_reducible refine gc_ (f := 63) rfl ?_); refine gLc 78 Tryz.func63 (r8_Add.calls t139 a1_2 t157 t158 _ A10.out) (fun w30 hb => ?_); replace BK136 := bkb BK136 hb; replace BK137 := bkb BK137 hb; replace BK138 := bkb BK138 hb; replace HB := bls HB hb; clear hb))
  replace BK136 := Zs.mk (zd BK136.out)
  replace BK137 := Zs.mk (zd BK137.out)
  replace BK138 := Zs.mk (zd BK138.out)
  replace HB := Zs.mk (below_drew1 HB.out)
  refine start_ (n := 24) (S := fun w' => w'.cell? ⟨gb136, 0, none⟩ = some (.int .i64 a0_0) ∧ w'.cell? ⟨gb136, 1, none⟩ = some (.int .u64 a0_1) ∧ w'.cell? ⟨gb136, 2, none⟩ = some (.int .u64 a0_2) ∧ w'.cell? ⟨gb136, 3, none⟩ = some (.string a0_3)) (ds := []) #[false, false, false, false, false, false, false, false, false, false, false, false, false, false, false, false, false, false, false, false, false, false, false, false] (by kernel_rfl) rfl rfl (cf4c BK136) (fun hHeld => ?_); refine with_tabW r10_Div.tab9 r10_Div.bits9 (fun HT_ HW_ => ?_)
  generalize w30.drew = w31 at BK136 BK137 BK138 HB hHeld ⊢
  refine pu 0 79 HT_ ?_
  refine pu 2 81 HT_ ?_
  refine pu 3 82 HT_ ?_
  refine pu 4 83 HT_ ?_
  refine pu 5 84 HT_ ?_
  refine pu 6 85 HT_ ?_
  refine pu 8 87 HT_ ?_
  refine pu 10 89 HT_ ?_
  refine pu 12 91 HT_ ?_
  refine pu 13 92 HT_ ?_
  refine pu 14 93 HT_ ?_
  refine pu 15 94 HT_ ?_
  refine pu 16 95 HT_ ?_
  refine pu 18 97 HT_ ?_
  refine pu 20 99 HT_ ?_
  refine tk 1 80 HT_ HW_ hHeld ?_
  refine on 7 86 HT_ (fun K hK => ?_)
  refine gsc Tryz.func65 (r8_Mul.calls t139 a0_1 t156 t159 _ A11.out) (fun w32 hb => ?_)
  replace BK136 := bkb BK136 hb
  replace BK137 := bkb BK137 hb
  replace BK138 := bkb BK138 hb
  replace HB := bls HB hb
  (try clear hb)
  (try clear hb2)
  (try clear hk)
  (try clear hi)
  refine hK.out _ _ (cf4c BK136) (fun hHeld => ?_)
  clear hK K
  refine nm 86 ?_
  refine on 9 88 HT_ (fun K hK => ?_)
  refine gsc Tryz.func63 (r8_Add.calls t139 t159 a0_2 t160 _ A12.out) (fun w33 hb => ?_)
  replace BK136 := bkb BK136 hb
  replace BK137 := bkb BK137 hb
  replace BK138 := bkb BK138 hb
  replace HB := bls HB hb
  (try clear hb)
  (try clear hb2)
  (try clear hk)
  (try clear hi)
  refine hK.out _ _ (cf4c BK136) (fun hHeld => ?_)
  clear hK K
  refine nm 88 ?_
  refine on 11 90 HT_ (fun K hK => ?_)
  refine gsc Tryz.func66 (r8_Div.calls t139 t160 t158 t161 _ A13.out) (fun w34 hb => ?_)
  replace BK136 := bkb BK136 hb
  replace BK137 := bkb BK137 hb
  replace BK138 := bkb BK138 hb
  replace HB := bls HB hb
  (try clear hb)
  (try clear hb2)
  (try clear hk)
  (try clear hi)
  refine hK.out _ _ (cf4c BK136) (fun hHeld => ?_)
  clear hK K
  refine nm 90 ?_
  refine on 17 96 HT_ (fun K hK => ?_)
  refine gsc Tryz.func65 (r8_Mul.calls t139 a0_2 t156 t162 _ A14.out) (fun w35 hb => ?_)
  replace BK136 := bkb BK136 hb
  replace BK137 := bkb BK137 hb
  replace BK138 := bkb BK138 hb
  replace HB := bls HB hb
  (try clear hb)
  (try clear hb2)
  (try clear hk)
  (try clear hi)
  refine hK.out _ _ (cf4c BK136) (fun hHeld => ?_)
  clear hK K
  refine nm 96 ?_
  refine on 19 98 HT_ (fun K hK => ?_)
  refine gsc Tryz.func64 (r8_Minus2.calls t139 t162 a0_1 t163 _ A15.out) (fun w36 hb => ?_)
  replace BK136 := bkb BK136 hb
  replace BK137 := bkb BK137 hb
  replace BK138 := bkb BK138 hb
  replace HB := bls HB hb
  (try clear hb)
  (try clear hb2)
  (try clear hk)
  (try clear hi)
  refine hK.out _ _ (cf4c BK136) (fun hHeld => ?_)
  clear hK K
  refine nm 98 ?_
  refine on 21 100 HT_ (fun K hK => ?_)
  refine gsc Tryz.func66 (r8_Div.calls t139 t163 t158 t164 _ A16.out) (fun w37 hb => ?_)
  replace BK136 := bkb BK136 hb
  replace BK137 := bkb BK137 hb
  replace BK138 := bkb BK138 hb
  replace HB := bls HB hb
  (try clear hb)
  (try clear hb2)
  (try clear hk)
  (try clear hi)
  refine hK.out _ _ (cf4c BK136) (fun hHeld => ?_)
  clear hK K
  refine nm 100 ?_
  refine on 22 101 HT_ (fun K hK => ?_)
  refine gsc Tryz.func18 (r10_Made.calls a0_0 t161 t164 t165 t166 t167 t168 _ A17.out) (fun w38 hb => ?_)
  replace BK136 := bkb BK136 hb
  replace BK137 := bkb BK137 hb
  replace BK138 := bkb BK138 hb
  replace HB := bls HB hb
  (try clear hb)
  (try clear hb2)
  (try clear hk)
  (try clear hi)
  refine hK.out _ _ (cf4c BK136) (fun hHeld => ?_)
  clear hK K
  refine nm 101 ?_
  refine one_ (i := 23) (N := none) #[true, true, true, true, true, true, true, true, true, true, true, true, true, true, true, true, true, true, true, true, true, true, true, true] rfl rfl (one_of HT_.out (by kernel_rfl)) (by decide) (fun K hK => ?_)
  have hs39 : w38.cell? ⟨gb138, 0, none⟩ = some (.int .i64 0) := (zc BK138.out 0).trans rfl
  have hfs39 := zf BK138.out 0
  have hns39_0 := NB136_138.out
  have hns39_1 := NB137_138.out
  have hms39_0 := NB138_136.out
  have hms39_1 := NB138_137.out
  have hs40 : w38.cell? ⟨gb138, 1, none⟩ = some (.int .u64 0) := (zc BK138.out 1).trans rfl
  have hfs40 := zf BK138.out 1
  have hns40_0 := NB136_138.out
  have hns40_1 := NB137_138.out
  have hms40_0 := NB138_136.out
  have hms40_1 := NB138_137.out
  have hs41 : w38.cell? ⟨gb138, 2, none⟩ = some (.int .u64 0) := (zc BK138.out 2).trans rfl
  have hfs41 := zf BK138.out 2
  have hns41_0 := NB136_138.out
  have hns41_1 := NB137_138.out
  have hms41_0 := NB138_136.out
  have hms41_1 := NB138_137.out
  have hs42 : w38.cell? ⟨gb138, 3, none⟩ = some (.string (⟨#[]⟩ : ByteArray)) := (zc BK138.out 3).trans rfl
  have hfs42 := zf BK138.out 3
  have hns42_0 := NB136_138.out
  have hns42_1 := NB137_138.out
  have hms42_0 := NB138_136.out
  have hms42_1 := NB138_137.out
  refine skip_ (w1 := ?_) (by rfl) rfl ?_ ?_
  rotate_left
  ·go_simp
   rfl
  refine hK.out _ _ ⟨((cell_far (p := ⟨gb138, _, none⟩) NB136_138.out _).trans (((cell_far (p := ⟨gb138, _, none⟩) NB136_138.out _).trans (((cell_far (p := ⟨gb138, _, none⟩) NB136_138.out _).trans (((cell_far (p := ⟨gb138, _, none⟩) NB136_138.out _).trans (hHeld.1)))))))), ((cell_far (p := ⟨gb138, _, none⟩) NB136_138.out _).trans (((cell_far (p := ⟨gb138, _, none⟩) NB136_138.out _).trans (((cell_far (p := ⟨gb138, _, none⟩) NB136_138.out _).trans (((cell_far (p := ⟨gb138, _, none⟩) NB136_138.out _).trans (hHeld.2.1)))))))), ((cell_far (p := ⟨gb138, _, none⟩) NB136_138.out _).trans (((cell_far (p := ⟨gb138, _, none⟩) NB136_138.out _).trans (((cell_far (p := ⟨gb138, _, none⟩) NB136_138.out _).trans (((cell_far (p := ⟨gb138, _, none⟩) NB136_138.out _).trans (hHeld.2.2.1)))))))), ((cell_far (p := ⟨gb138, _, none⟩) NB136_138.out _).trans (((cell_far (p := ⟨gb138, _, none⟩) NB136_138.out _).trans (((cell_far (p := ⟨gb138, _, none⟩) NB136_138.out _).trans (((cell_far (p := ⟨gb138, _, none⟩) NB136_138.out _).trans (hHeld.2.2.2))))))))⟩ (fun hHeld => ?_)
  clear hK K
  refine done_ (done_of HT_.out (by kernel_rfl)) ?_
  try go_wp2
  refine bodyPost_ret (results_cell_row rfl _ _ gb138 24 #[.int .i64 t165, .int .u64 t166, .int .u64 t167, .string t168] (0, 0) _ rfl (by (with_reducible repeat (first | refine zn ?_ _ | refine zd ?_ | refine za ?_ _)); apply bp4; (with_reducible repeat (first | refine zn ?_ _ | refine zd ?_ | refine za ?_ _)); exact BK138.out) Tryz.underlying24 rfl (by kernel_rfl)) rfl ?_
  exact fin_ (blt HB)
 ·rw [if_neg c7] at H
  have c7b0 : (t142 == (-1)) = false := beq_eq_false_iff_ne.mpr c7
  have c7b1 : (t142 != (-1)) = true := bne_iff_ne.mpr c7
  replace H := Option.bind_eq_some_iff.mp H
  obtain ⟨t143, A43, H⟩ := H
  try dsimp only at H
  replace A43 := Zs.mk A43
  replace H := Option.bind_eq_some_iff.mp H
  obtain ⟨t144, A44, H⟩ := H
  try dsimp only at H
  replace A44 := Zs.mk A44
  replace H := Option.bind_eq_some_iff.mp H
  obtain ⟨t145, A45, H⟩ := H
  try dsimp only at H
  replace A45 := Zs.mk A45
  replace H := Option.bind_eq_some_iff.mp H
  obtain ⟨t146, A46, H⟩ := H
  try dsimp only at H
  replace A46 := Zs.mk A46
  replace H := Option.bind_eq_some_iff.mp H
  obtain ⟨t147, A47, H⟩ := H
  try dsimp only at H
  replace A47 := Zs.mk A47
  replace H := Option.bind_eq_some_iff.mp H
  obtain ⟨t148, A48, H⟩ := H
  try dsimp only at H
  replace A48 := Zs.mk A48
  replace H := Option.bind_eq_some_iff.mp H
  obtain ⟨t149, A49, H⟩ := H
  try dsimp only at H
  replace A49 := Zs.mk A49
  replace H := Option.bind_eq_some_iff.mp H
  obtain ⟨t150, A50, H⟩ := H
  try dsimp only at H
  replace A50 := Zs.mk A50
  replace H := Option.bind_eq_some_iff.mp H
  obtain ⟨t151, A51, H⟩ := H
  try dsimp only at H
  replace A51 := Zs.mk A51
  replace H := Option.bind_eq_some_iff.mp H
  obtain ⟨⟨t152, t153, t154, t155⟩, A52, H⟩ := H
  try dsimp only at H
  replace A52 := Zs.mk A52
  simp only [Option.some.injEq, Prod.mk.injEq] at H
  obtain ⟨rfl, rfl, rfl, rfl⟩ := H
  go_enter Tryz.func61, Tryz.ntmps61
  try go_wp2_with (first | ((with_reducible refine gd_ (N := 2) rfl ?_); refine bxe 2 (cs := #[.int .i64 a0_0, .int .u64 a0_1, .int .u64 a0_2, .string a0_3]) (t := 24) ?_; intro gb136 hg w53 hbox hb; have BK136 := Zs.mk hbox; have GW136 := bsz HB hg; have GE136 := bsz HB hg; replace HB := bls HB hb; clear hb hbox hg) | ((with_reducible refine gd_ (N := 3) rfl ?_); refine bxe 3 (cs := #[.int .i64 a1_0, .int .u64 a1_1, .int .u64 a1_2, .string a1_3]) (t := 24) ?_; intro gb137 hg w54 hbox hb; have BK137 := Zs.mk hbox; have GW137 := bsz HB hg; have GE137 := bsz HB hg; have NB136_137 := bnl BK136 hg; have NB137_136 := bng BK136 hg; replace BK136 := bkb BK136 hb; replace HB := bls HB hb; clear hb hbox hg) | ((with_reducible refine gd_ (N := 4) rfl ?_); refine bxe 4 (cs := #[.int .i64 0, .int .u64 0, .int .u64 0, .string (⟨#[]⟩ : ByteArray)]) (t := 24) ?_; intro gb138 hg w55 hbox hb; have BK138 := Zs.mk hbox; have GW138 := bsz HB hg; have GE138 := bsz HB hg; have NB136_138 := bnl BK136 hg; have NB138_136 := bng BK136 hg; have NB137_138 := bnl BK137 hg; have NB138_137 := bng BK137 hg; replace BK136 := bkb BK136 hb; replace BK137 := bkb BK137 hb; replace HB := bls HB hb; clear hb hbox hg; have hnb56 := NB136_137.out; have hnc56 := NB137_136.out; have hnb57 := NB136_138.out; have hnc57 := NB138_136.out; obtain ⟨hcz58_0, hcz58_1, hcz58_2, hcz58_3, hfz58_0, hfz58_1, hfz58_2, hfz58_3⟩ := cf4 BK136) | ((with_reducible refine gc_ (f := 16) rfl ?_); refine gLc 16 Tryz.func16 (r10_PartType.calls a0_0 t139 _ A3.out) (fun _ h_ => ?_); obtain ⟨nd, rfl⟩ := h_; (try (rw [drewN_self w55]; generalize hq_ : World.drewN w55 _ = w55; have n0_ : Zs (w55.heap[gb136]? = some (.cells #[.int .i64 a0_0, .int .u64 a0_1, .int .u64 a0_2, .string a0_3] 24 (0, 0))) := ⟨by rw [← hq_]; exact (bks BK136).out⟩; have n1_ : Zs (w55.heap[gb137]? = some (.cells #[.int .i64 a1_0, .int .u64 a1_1, .int .u64 a1_2, .string a1_3] 24 (0, 0))) := ⟨by rw [← hq_]; exact (bks BK137).out⟩; have n2_ : Zs (w55.heap[gb138]? = some (.cells #[.int .i64 0, .int .u64 0, .int .u64 0, .string (⟨#[]⟩ : ByteArray)] 24 (0, 0))) := ⟨by rw [← hq_]; exact (bks BK138).out⟩; have n3_ : Zs (Below w.heap.size w w55) := ⟨by rw [← hq_]; exact (blt HB).out⟩; clear BK136 BK137 BK138 HB hq_; have BK136 := n0_; have BK137 := n1_; have BK138 := n2_; have HB := n3_; clear n0_ n1_ n2_ n3_))))
  replace BK136 := Zs.mk (zd BK136.out)
  replace BK137 := Zs.mk (zd BK137.out)
  replace BK138 := Zs.mk (zd BK138.out)
  replace HB := Zs.mk (below_drew1 HB.out)
  refine start_ (n := 12) (S := fun w' => w'.cell? ⟨gb136, 0, none⟩ = some (.int .i64 a0_0) ∧ w'.cell? ⟨gb136, 1, none⟩ = some (.int .u64 a0_1) ∧ w'.cell? ⟨gb136, 2, none⟩ = some (.int .u64 a0_2) ∧ w'.cell? ⟨gb136, 3, none⟩ = some (.string a0_3) ∧ w'.cell? ⟨gb137, 0, none⟩ = some (.int .i64 a1_0) ∧ w'.cell? ⟨gb137, 1, none⟩ = some (.int .u64 a1_1) ∧ w'.cell? ⟨gb137, 2, none⟩ = some (.int .u64 a1_2) ∧ w'.cell? ⟨gb137, 3, none⟩ = some (.string a1_3)) (ds := []) #[false, false, false, false, false, false, false, false, false, false, false, false] (by kernel_rfl) rfl rfl ⟨(zc BK136.out 0).trans rfl, (zc BK136.out 1).trans rfl, (zc BK136.out 2).trans rfl, (zc BK136.out 3).trans rfl, (zc BK137.out 0).trans rfl, (zc BK137.out 1).trans rfl, (zc BK137.out 2).trans rfl, (zc BK137.out 3).trans rfl⟩ (fun hHeld => ?_); refine with_tabW r10_Div.tab2 r10_Div.bits2 (fun HT_ HW_ => ?_)
  generalize w55.drew = w59 at BK136 BK137 BK138 HB hHeld ⊢
  refine pu 0 17 HT_ ?_
  refine pu 2 19 HT_ ?_
  refine pu 4 21 HT_ ?_
  refine pu 6 23 HT_ ?_
  refine tk 1 18 HT_ HW_ hHeld ?_
  refine pu 8 6 HT_ ?_
  refine tk 3 20 HT_ HW_ hHeld ?_
  refine pu 9 7 HT_ ?_
  refine tk 5 22 HT_ HW_ hHeld ?_
  refine pu 10 8 HT_ ?_
  refine tk 7 24 HT_ HW_ hHeld ?_
  refine pu 11 9 HT_ ?_
  refine done_ (done_of HT_.out (by kernel_rfl)) ?_
  try go_wp2_with (first | ((with_reducible refine gc_ (f := 84) rfl ?_); refine gLc 28 Tryz.func84 (r8_Sized.calls t139 a1_1 t140 _ A4.out) (fun w60 hb => ?_); replace BK136 := bkb BK136 hb; replace BK137 := bkb BK137 hb; replace BK138 := bkb BK138 hb; replace HB := bls HB hb; clear hb) | ((with_reducible refine gc_ (f := 84) rfl ?_); refine gLc 31 Tryz.func84 (r8_Sized.calls t139 a1_2 t141 _ A5.out) (fun w61 hb => ?_); replace BK136 := bkb BK136 hb; replace BK137 := bkb BK137 hb; replace BK138 := bkb BK138 hb; replace HB := bls HB hb; clear hb) | ((with_reducible refine gc_ (f := 62) rfl ?_); refine gLc 32 Tryz.func62 (r8_Compare.calls t139 t140 t141 t142 _ A6.out) (fun w62 hb => ?_); replace BK136 := bkb BK136 hb; replace BK137 := bkb BK137 hb; replace BK138 := bkb BK138 hb; replace HB := bls HB hb; clear hb) | ((with_reducible refine gc_ (f := 66) rfl ?_); refine gLc 37 Tryz.func66 (r8_Div.calls t139 a1_2 a1_1 t143 _ A43.out) (fun w63 hb => ?_); replace BK136 := bkb BK136 hb; replace BK137 := bkb BK137 hb; replace BK138 := bkb BK138 hb; replace HB := bls HB hb; clear hb) | ((with_reducible refine gc_ (f := 65) rfl ?_); refine gLc 43 Tryz.func65 (r8_Mul.calls t139 t143 a1_2 t144 _ A44.out) (fun w64 hb => ?_); replace BK136 := bkb BK136 hb; replace BK137 := bkb BK137 hb; replace BK138 := bkb BK138 hb; replace HB := bls HB hb; clear hb) | ((with_reducible refine gc_ (f := 63) rfl ?_); refine gLc 44 Tryz.func63 (r8_Add.calls t139 a1_1 t144 t145 _ A45.out) (fun w65 hb => ?_); replace BK136 := bkb BK136 hb; replace BK137 := bkb BK137 hb; replace BK138 := bkb BK138 hb; replace HB := bls HB hb; clear hb))
  replace BK136 := Zs.mk (zd BK136.out)
  replace BK137 := Zs.mk (zd BK137.out)
  replace BK138 := Zs.mk (zd BK138.out)
  replace HB := Zs.mk (below_drew1 HB.out)
  refine start_ (n := 24) (S := fun w' => w'.cell? ⟨gb136, 0, none⟩ = some (.int .i64 a0_0) ∧ w'.cell? ⟨gb136, 1, none⟩ = some (.int .u64 a0_1) ∧ w'.cell? ⟨gb136, 2, none⟩ = some (.int .u64 a0_2) ∧ w'.cell? ⟨gb136, 3, none⟩ = some (.string a0_3)) (ds := []) #[false, false, false, false, false, false, false, false, false, false, false, false, false, false, false, false, false, false, false, false, false, false, false, false] (by kernel_rfl) rfl rfl (cf4c BK136) (fun hHeld => ?_); refine with_tabW r10_Div.tab6 r10_Div.bits6 (fun HT_ HW_ => ?_)
  generalize w65.drew = w66 at BK136 BK137 BK138 HB hHeld ⊢
  refine pu 0 45 HT_ ?_
  refine pu 2 47 HT_ ?_
  refine pu 3 48 HT_ ?_
  refine pu 4 49 HT_ ?_
  refine pu 5 50 HT_ ?_
  refine pu 6 51 HT_ ?_
  refine pu 7 52 HT_ ?_
  refine pu 10 55 HT_ ?_
  refine pu 12 57 HT_ ?_
  refine pu 13 58 HT_ ?_
  refine pu 14 59 HT_ ?_
  refine pu 15 60 HT_ ?_
  refine pu 16 61 HT_ ?_
  refine pu 17 62 HT_ ?_
  refine pu 20 65 HT_ ?_
  refine tk 1 46 HT_ HW_ hHeld ?_
  refine on 8 53 HT_ (fun K hK => ?_)
  refine gsc Tryz.func65 (r8_Mul.calls t139 a0_2 t143 t146 _ A46.out) (fun w67 hb => ?_)
  replace BK136 := bkb BK136 hb
  replace BK137 := bkb BK137 hb
  replace BK138 := bkb BK138 hb
  replace HB := bls HB hb
  (try clear hb)
  (try clear hb2)
  (try clear hk)
  (try clear hi)
  refine hK.out _ _ (cf4c BK136) (fun hHeld => ?_)
  clear hK K
  refine nm 53 ?_
  refine on 9 54 HT_ (fun K hK => ?_)
  refine gsc Tryz.func63 (r8_Add.calls t139 a0_1 t146 t147 _ A47.out) (fun w68 hb => ?_)
  replace BK136 := bkb BK136 hb
  replace BK137 := bkb BK137 hb
  replace BK138 := bkb BK138 hb
  replace HB := bls HB hb
  (try clear hb)
  (try clear hb2)
  (try clear hk)
  (try clear hi)
  refine hK.out _ _ (cf4c BK136) (fun hHeld => ?_)
  clear hK K
  refine nm 54 ?_
  refine on 11 56 HT_ (fun K hK => ?_)
  refine gsc Tryz.func66 (r8_Div.calls t139 t147 t145 t148 _ A48.out) (fun w69 hb => ?_)
  replace BK136 := bkb BK136 hb
  replace BK137 := bkb BK137 hb
  replace BK138 := bkb BK138 hb
  replace HB := bls HB hb
  (try clear hb)
  (try clear hb2)
  (try clear hk)
  (try clear hi)
  refine hK.out _ _ (cf4c BK136) (fun hHeld => ?_)
  clear hK K
  refine nm 56 ?_
  refine on 18 63 HT_ (fun K hK => ?_)
  refine gsc Tryz.func65 (r8_Mul.calls t139 a0_1 t143 t149 _ A49.out) (fun w70 hb => ?_)
  replace BK136 := bkb BK136 hb
  replace BK137 := bkb BK137 hb
  replace BK138 := bkb BK138 hb
  replace HB := bls HB hb
  (try clear hb)
  (try clear hb2)
  (try clear hk)
  (try clear hi)
  refine hK.out _ _ (cf4c BK136) (fun hHeld => ?_)
  clear hK K
  refine nm 63 ?_
  refine on 19 64 HT_ (fun K hK => ?_)
  refine gsc Tryz.func64 (r8_Minus2.calls t139 a0_2 t149 t150 _ A50.out) (fun w71 hb => ?_)
  replace BK136 := bkb BK136 hb
  replace BK137 := bkb BK137 hb
  replace BK138 := bkb BK138 hb
  replace HB := bls HB hb
  (try clear hb)
  (try clear hb2)
  (try clear hk)
  (try clear hi)
  refine hK.out _ _ (cf4c BK136) (fun hHeld => ?_)
  clear hK K
  refine nm 64 ?_
  refine on 21 66 HT_ (fun K hK => ?_)
  refine gsc Tryz.func66 (r8_Div.calls t139 t150 t145 t151 _ A51.out) (fun w72 hb => ?_)
  replace BK136 := bkb BK136 hb
  replace BK137 := bkb BK137 hb
  replace BK138 := bkb BK138 hb
  replace HB := bls HB hb
  (try clear hb)
  (try clear hb2)
  (try clear hk)
  (try clear hi)
  refine hK.out _ _ (cf4c BK136) (fun hHeld => ?_)
  clear hK K
  refine nm 66 ?_
  refine on 22 67 HT_ (fun K hK => ?_)
  refine gsc Tryz.func18 (r10_Made.calls a0_0 t148 t151 t152 t153 t154 t155 _ A52.out) (fun w73 hb => ?_)
  replace BK136 := bkb BK136 hb
  replace BK137 := bkb BK137 hb
  replace BK138 := bkb BK138 hb
  replace HB := bls HB hb
  (try clear hb)
  (try clear hb2)
  (try clear hk)
  (try clear hi)
  refine hK.out _ _ (cf4c BK136) (fun hHeld => ?_)
  clear hK K
  refine nm 67 ?_
  refine one_ (i := 23) (N := none) #[true, true, true, true, true, true, true, true, true, true, true, true, true, true, true, true, true, true, true, true, true, true, true, true] rfl rfl (one_of HT_.out (by kernel_rfl)) (by decide) (fun K hK => ?_)
  have hs74 : w73.cell? ⟨gb138, 0, none⟩ = some (.int .i64 0) := (zc BK138.out 0).trans rfl
  have hfs74 := zf BK138.out 0
  have hns74_0 := NB136_138.out
  have hns74_1 := NB137_138.out
  have hms74_0 := NB138_136.out
  have hms74_1 := NB138_137.out
  have hs75 : w73.cell? ⟨gb138, 1, none⟩ = some (.int .u64 0) := (zc BK138.out 1).trans rfl
  have hfs75 := zf BK138.out 1
  have hns75_0 := NB136_138.out
  have hns75_1 := NB137_138.out
  have hms75_0 := NB138_136.out
  have hms75_1 := NB138_137.out
  have hs76 : w73.cell? ⟨gb138, 2, none⟩ = some (.int .u64 0) := (zc BK138.out 2).trans rfl
  have hfs76 := zf BK138.out 2
  have hns76_0 := NB136_138.out
  have hns76_1 := NB137_138.out
  have hms76_0 := NB138_136.out
  have hms76_1 := NB138_137.out
  have hs77 : w73.cell? ⟨gb138, 3, none⟩ = some (.string (⟨#[]⟩ : ByteArray)) := (zc BK138.out 3).trans rfl
  have hfs77 := zf BK138.out 3
  have hns77_0 := NB136_138.out
  have hns77_1 := NB137_138.out
  have hms77_0 := NB138_136.out
  have hms77_1 := NB138_137.out
  refine skip_ (w1 := ?_) (by rfl) rfl ?_ ?_
  rotate_left
  ·go_simp
   rfl
  refine hK.out _ _ ⟨((cell_far (p := ⟨gb138, _, none⟩) NB136_138.out _).trans (((cell_far (p := ⟨gb138, _, none⟩) NB136_138.out _).trans (((cell_far (p := ⟨gb138, _, none⟩) NB136_138.out _).trans (((cell_far (p := ⟨gb138, _, none⟩) NB136_138.out _).trans (hHeld.1)))))))), ((cell_far (p := ⟨gb138, _, none⟩) NB136_138.out _).trans (((cell_far (p := ⟨gb138, _, none⟩) NB136_138.out _).trans (((cell_far (p := ⟨gb138, _, none⟩) NB136_138.out _).trans (((cell_far (p := ⟨gb138, _, none⟩) NB136_138.out _).trans (hHeld.2.1)))))))), ((cell_far (p := ⟨gb138, _, none⟩) NB136_138.out _).trans (((cell_far (p := ⟨gb138, _, none⟩) NB136_138.out _).trans (((cell_far (p := ⟨gb138, _, none⟩) NB136_138.out _).trans (((cell_far (p := ⟨gb138, _, none⟩) NB136_138.out _).trans (hHeld.2.2.1)))))))), ((cell_far (p := ⟨gb138, _, none⟩) NB136_138.out _).trans (((cell_far (p := ⟨gb138, _, none⟩) NB136_138.out _).trans (((cell_far (p := ⟨gb138, _, none⟩) NB136_138.out _).trans (((cell_far (p := ⟨gb138, _, none⟩) NB136_138.out _).trans (hHeld.2.2.2))))))))⟩ (fun hHeld => ?_)
  clear hK K
  refine done_ (done_of HT_.out (by kernel_rfl)) ?_
  try go_wp2
  refine bodyPost_ret (results_cell_row rfl _ _ gb138 24 #[.int .i64 t152, .int .u64 t153, .int .u64 t154, .string t155] (0, 0) _ rfl (by (with_reducible repeat (first | refine zn ?_ _ | refine zd ?_ | refine za ?_ _)); apply bp4; (with_reducible repeat (first | refine zn ?_ _ | refine zd ?_ | refine za ?_ _)); exact BK138.out) Tryz.underlying24 rfl (by kernel_rfl)) rfl ?_
  exact fin_ (blt HB)
end Go.Proofs.YtmoimcblmmcffaaGreat.PRA

namespace Go.Proofs.YtmoimcblmmcffaaGreat.PRA
open Go.RowKit Go.Proofs.YtmoimcblmmcffaaGreatW.PrintWords Go.Proofs.YtmoimcblmmcffaaGreatW.PrintLast Go.Proofs.YtmoimcblmmcffaaGreatW.PrintMore Go.Proofs.YtmoimcblmmcffaaGreatW.PrintZ
attribute [local go_sem] max2_int min2_int max_two min_two max_three min_three max_four min_four   -- for this text's walks alone
set_option linter.unusedVariables false
set_option linter.unusedSimpArgs false
def r10_Apply.f (a0 : Int) (a1_0 : Int) (a1_1 : Int) (a1_2 : Int) (a1_3 : ByteArray) (a2_0 : Int) (a2_1 : Int) (a2_2 : Int) (a2_3 : ByteArray) : Option (Int × Int × Int × ByteArray) := if a0 = 0 then ((r10_Add.f a1_0 a1_1 a1_2 a1_3 a2_0 a2_1 a2_2 a2_3).bind fun bt172 => (some (bt172.1, bt172.2.1, bt172.2.2.1, bt172.2.2.2))) else (if a0 = 1 then ((r10_Sub.f a1_0 a1_1 a1_2 a1_3 a2_0 a2_1 a2_2 a2_3).bind fun bt176 => (some (bt176.1, bt176.2.1, bt176.2.2.1, bt176.2.2.2))) else (if a0 = 2 then ((r10_Mul.f a1_0 a1_1 a1_2 a1_3 a2_0 a2_1 a2_2 a2_3).bind fun bt180 => (some (bt180.1, bt180.2.1, bt180.2.2.1, bt180.2.2.2))) else ((r10_Div.f a1_0 a1_1 a1_2 a1_3 a2_0 a2_1 a2_2 a2_3).bind fun bt184 => (some (bt184.1, bt184.2.1, bt184.2.2.1, bt184.2.2.2)))))
def r10_TypeErr.f (a0 : Int) : Option (Int) := if a0 = 3 then (some 0) else (if a0 = 4 then (some 0) else (some 27))
set_option maxHeartbeats 8000000 in
set_option maxRecDepth 100000 in
theorem r10_TypeErr.calls (a0 : Int) (r : Int) (w : World) (h : r10_TypeErr.f a0 = some r) :
  Calls Tryz.prog 39 #[.int .i64 a0] w fun e w' => e = .returned (.int .i64 r) ∧ Drawn0 w w' := by
 have H : (if a0 = 3 then (some 0) else (if a0 = 4 then (some 0) else (some 27))) = some r := h
 clear h
 by_cases c2 : a0 = 3
 ·rw [if_pos c2] at H
  have c2b0 : (a0 == 3) = true := beq_iff_eq.mpr c2
  have c2b1 : (a0 != 3) = false := bne_eq_false_iff_eq.mpr c2
  clear c2
  obtain rfl := Option.some.inj H
  go_enter Tryz.func39, Tryz.ntmps39
  go_wp2
  go_ret
  exact ⟨by first | rfl | (simp; done) | (simp [*]; done), by repeat (first | exact Drawn0.refl _ | apply Drawn0.step)⟩
 ·rw [if_neg c2] at H
  have c2b0 : (a0 == 3) = false := beq_eq_false_iff_ne.mpr c2
  have c2b1 : (a0 != 3) = true := bne_iff_ne.mpr c2
  by_cases c3 : a0 = 4
  ·rw [if_pos c3] at H
   have c3b0 : (a0 == 4) = true := beq_iff_eq.mpr c3
   have c3b1 : (a0 != 4) = false := bne_eq_false_iff_eq.mpr c3
   clear c3
   obtain rfl := Option.some.inj H
   go_enter Tryz.func39, Tryz.ntmps39
   go_wp2
   go_ret
   exact ⟨by first | rfl | (simp; done) | (simp [*]; done), by repeat (first | exact Drawn0.refl _ | apply Drawn0.step)⟩
  ·rw [if_neg c3] at H
   have c3b0 : (a0 == 4) = false := beq_eq_false_iff_ne.mpr c3
   have c3b1 : (a0 != 4) = true := bne_iff_ne.mpr c3
   obtain rfl := Option.some.inj H
   go_enter Tryz.func39, Tryz.ntmps39
   go_wp2
   go_ret
   exact ⟨by first | rfl | (simp; done) | (simp [*]; done), by repeat (first | exact Drawn0.refl _ | apply Drawn0.step)⟩
def r10_ValueErr.f (a0_0 : Int) (a0_1 : Int) (a0_2 : Int) (a0_3 : ByteArray) : Option (Int) := (r10_TypeErr.f a0_0).bind fun t189 => (if t189 = 0 then (if a0_3.toList = ([] : List UInt8) then (if a0_0 = 3 then (if a0_1 ≥ 4294967296 then (some 3) else (if a0_2 ≥ 4294967296 then (some 3) else (some 0))) else (some 0)) else (some 3)) else (some t189))
set_option maxHeartbeats 8000000 in
set_option maxRecDepth 100000 in
theorem r10_ValueErr.calls (a0_0 : Int) (a0_1 : Int) (a0_2 : Int) (a0_3 : ByteArray) (r : Int) (w : World) (h : r10_ValueErr.f a0_0 a0_1 a0_2 a0_3 = some r) :
  Calls Tryz.prog 29 #[.agg #[.int .i64 a0_0, .int .u64 a0_1, .int .u64 a0_2, .string a0_3]] w fun e w' => e = .returned (.int .i64 r) ∧ Below w.heap.size w w' := by
 have hu24 := Tryz.underlying24
 have HB := Zs.mk (Below.refl w.heap.size w)
 have H : ((r10_TypeErr.f a0_0).bind fun t189 => (if t189 = 0 then (if a0_3.toList = ([] : List UInt8) then (if a0_0 = 3 then (if a0_1 ≥ 4294967296 then (some 3) else (if a0_2 ≥ 4294967296 then (some 3) else (some 0))) else (some 0)) else (some 3)) else (some t189))) = some r := h
 clear h
 replace H := Option.bind_eq_some_iff.mp H
 obtain ⟨t189, A2, H⟩ := H
 try dsimp only at H
 replace A2 := Zs.mk A2
 by_cases c3 : t189 = 0
 ·rw [if_pos c3] at H
  have c3b0 : (t189 == 0) = true := beq_iff_eq.mpr c3
  have c3b1 : (t189 != 0) = false := bne_eq_false_iff_eq.mpr c3
  clear c3
  by_cases c4 : a0_3.toList = ([] : List UInt8)
  ·rw [if_pos c4] at H
   have c4b0 : (a0_3.toList == ([] : List UInt8)) = true := beq_iff_eq.mpr c4
   have c4b0z := c4b0
   simp only [beqn] at c4b0z
   have c4b1 : (a0_3.toList != ([] : List UInt8)) = false := bne_eq_false_iff_eq.mpr c4
   clear c4
   by_cases c5 : a0_0 = 3
   ·rw [if_pos c5] at H
    have c5b0 : (a0_0 == 3) = true := beq_iff_eq.mpr c5
    have c5b1 : (a0_0 != 3) = false := bne_eq_false_iff_eq.mpr c5
    clear c5
    by_cases c6 : a0_1 ≥ 4294967296
    ·rw [if_pos c6] at H
     have c6b0 : decide (4294967296 ≤ a0_1) = true := decide_eq_true c6
     clear c6
     obtain rfl := Option.some.inj H
     go_enter Tryz.func29, Tryz.ntmps29
     go_wp2_with (first | ((with_reducible refine gd_ (N := 1) rfl ?_); refine bxe 1 (cs := #[.int .i64 a0_0, .int .u64 a0_1, .int .u64 a0_2, .string a0_3]) (t := 24) ?_; intro gb188 hg w7 hbox hb; have BK188 := Zs.mk hbox; have GW188 := bsz HB hg; have GE188 := bsz HB hg; replace HB := bls HB hb; clear hb hbox hg; obtain ⟨hcz8_0, hcz8_1, hcz8_2, hcz8_3, hfz8_0, hfz8_1, hfz8_2, hfz8_3⟩ := cf4 BK188) | ((with_reducible refine gc_ (f := 39) rfl ?_); refine gLc 6 Tryz.func39 (r10_TypeErr.calls a0_0 t189 _ A2.out) (fun _ h_ => ?_); obtain ⟨nd, rfl⟩ := h_))
     go_ret
     exact fin_ (blt HB)
    ·rw [if_neg c6] at H
     have c6b0 : decide (4294967296 ≤ a0_1) = false := decide_eq_false c6
     clear c6
     by_cases c9 : a0_2 ≥ 4294967296
     ·rw [if_pos c9] at H
      have c9b0 : decide (4294967296 ≤ a0_2) = true := decide_eq_true c9
      clear c9
      obtain rfl := Option.some.inj H
      go_enter Tryz.func29, Tryz.ntmps29
      go_wp2_with (first | ((with_reducible refine gd_ (N := 1) rfl ?_); refine bxe 1 (cs := #[.int .i64 a0_0, .int .u64 a0_1, .int .u64 a0_2, .string a0_3]) (t := 24) ?_; intro gb188 hg w10 hbox hb; have BK188 := Zs.mk hbox; have GW188 := bsz HB hg; have GE188 := bsz HB hg; replace HB := bls HB hb; clear hb hbox hg; obtain ⟨hcz11_0, hcz11_1, hcz11_2, hcz11_3, hfz11_0, hfz11_1, hfz11_2, hfz11_3⟩ := cf4 BK188) | ((with_reducible refine gc_ (f := 39) rfl ?_); refine gLc 6 Tryz.func39 (r10_TypeErr.calls a0_0 t189 _ A2.out) (fun _ h_ => ?_); obtain ⟨nd, rfl⟩ := h_))
      go_ret
      exact fin_ (blt HB)
     ·rw [if_neg c9] at H
      have c9b0 : decide (4294967296 ≤ a0_2) = false := decide_eq_false c9
      clear c9
      obtain rfl := Option.some.inj H
      go_enter Tryz.func29, Tryz.ntmps29
      go_wp2_with (first | ((with_reducible refine gd_ (N := 1) rfl ?_); refine bxe 1 (cs := #[.int .i64 a0_0, .int .u64 a0_1, .int .u64 a0_2, .string a0_3]) (t := 24) ?_; intro gb188 hg w12 hbox hb; have BK188 := Zs.mk hbox; have GW188 := bsz HB hg; have GE188 := bsz HB hg; replace HB := bls HB hb; clear hb hbox hg; obtain ⟨hcz13_0, hcz13_1, hcz13_2, hcz13_3, hfz13_0, hfz13_1, hfz13_2, hfz13_3⟩ := cf4 BK188) | ((with_reducible refine gc_ (f := 39) rfl ?_); refine gLc 6 Tryz.func39 (r10_TypeErr.calls a0_0 t189 _ A2.out) (fun _ h_ => ?_); obtain ⟨nd, rfl⟩ := h_))
      go_ret
      exact fin_ (blt HB)
   ·rw [if_neg c5] at H
    have c5b0 : (a0_0 == 3) = false := beq_eq_false_iff_ne.mpr c5
    have c5b1 : (a0_0 != 3) = true := bne_iff_ne.mpr c5
    obtain rfl := Option.some.inj H
    go_enter Tryz.func29, Tryz.ntmps29
    go_wp2_with (first | ((with_reducible refine gd_ (N := 1) rfl ?_); refine bxe 1 (cs := #[.int .i64 a0_0, .int .u64 a0_1, .int .u64 a0_2, .string a0_3]) (t := 24) ?_; intro gb188 hg w14 hbox hb; have BK188 := Zs.mk hbox; have GW188 := bsz HB hg; have GE188 := bsz HB hg; replace HB := bls HB hb; clear hb hbox hg; obtain ⟨hcz15_0, hcz15_1, hcz15_2, hcz15_3, hfz15_0, hfz15_1, hfz15_2, hfz15_3⟩ := cf4 BK188) | ((with_reducible refine gc_ (f := 39) rfl ?_); refine gLc 6 Tryz.func39 (r10_TypeErr.calls a0_0 t189 _ A2.out) (fun _ h_ => ?_); obtain ⟨nd, rfl⟩ := h_))
    go_ret
    exact fin_ (blt HB)
  ·rw [if_neg c4] at H
   have c4b0 : (a0_3.toList == ([] : List UInt8)) = false := beq_eq_false_iff_ne.mpr c4
   have c4b0z := c4b0
   simp only [beqn] at c4b0z
   have c4b1 : (a0_3.toList != ([] : List UInt8)) = true := bne_iff_ne.mpr c4
   obtain rfl := Option.some.inj H
   go_enter Tryz.func29, Tryz.ntmps29
   go_wp2_with (first | ((with_reducible refine gd_ (N := 1) rfl ?_); refine bxe 1 (cs := #[.int .i64 a0_0, .int .u64 a0_1, .int .u64 a0_2, .string a0_3]) (t := 24) ?_; intro gb188 hg w16 hbox hb; have BK188 := Zs.mk hbox; have GW188 := bsz HB hg; have GE188 := bsz HB hg; replace HB := bls HB hb; clear hb hbox hg; obtain ⟨hcz17_0, hcz17_1, hcz17_2, hcz17_3, hfz17_0, hfz17_1, hfz17_2, hfz17_3⟩ := cf4 BK188) | ((with_reducible refine gc_ (f := 39) rfl ?_); refine gLc 6 Tryz.func39 (r10_TypeErr.calls a0_0 t189 _ A2.out) (fun _ h_ => ?_); obtain ⟨nd, rfl⟩ := h_))
   go_ret
   exact fin_ (blt HB)
 ·rw [if_neg c3] at H
  have c3b0 : (t189 == 0) = false := beq_eq_false_iff_ne.mpr c3
  have c3b1 : (t189 != 0) = true := bne_iff_ne.mpr c3
  obtain rfl := Option.some.inj H
  go_enter Tryz.func29, Tryz.ntmps29
  go_wp2_with (first | ((with_reducible refine gd_ (N := 1) rfl ?_); refine bxe 1 (cs := #[.int .i64 a0_0, .int .u64 a0_1, .int .u64 a0_2, .string a0_3]) (t := 24) ?_; intro gb188 hg w18 hbox hb; have BK188 := Zs.mk hbox; have GW188 := bsz HB hg; have GE188 := bsz HB hg; replace HB := bls HB hb; clear hb hbox hg; obtain ⟨hcz19_0, hcz19_1, hcz19_2, hcz19_3, hfz19_0, hfz19_1, hfz19_2, hfz19_3⟩ := cf4 BK188) | ((with_reducible refine gc_ (f := 39) rfl ?_); refine gLc 6 Tryz.func39 (r10_TypeErr.calls a0_0 t189 _ A2.out) (fun _ h_ => ?_); obtain ⟨nd, rfl⟩ := h_))
  go_ret
  exact fin_ (blt HB)
def l10_brief.f (a0_0 : Int) (a0_1 : Int) (a0_2 : Int) (a0_3 : ByteArray) : Option (Bool) := some (decide ((a0_3.size : Int) ≤ 60))
set_option maxHeartbeats 8000000 in
set_option maxRecDepth 100000 in
theorem l10_brief.calls (a0_0 : Int) (a0_1 : Int) (a0_2 : Int) (a0_3 : ByteArray) (r : Bool) (w : World) (h : l10_brief.f a0_0 a0_1 a0_2 a0_3 = some r) :
  Calls Tryz.prog 11 #[.agg #[.int .i64 a0_0, .int .u64 a0_1, .int .u64 a0_2, .string a0_3]] w fun e w' => e = .returned (.bool r) ∧ Below w.heap.size w w' := by
 have hu24 := Tryz.underlying24
 have HB := Zs.mk (Below.refl w.heap.size w)
 have H : (some (decide ((a0_3.size : Int) ≤ 60))) = some r := h
 clear h
 obtain rfl := Option.some.inj H
 go_enter Tryz.func11, Tryz.ntmps11
 go_wp2_with (first | ((with_reducible refine gd_ (N := 1) rfl ?_); refine bxe 1 (cs := #[.int .i64 a0_0, .int .u64 a0_1, .int .u64 a0_2, .string a0_3]) (t := 24) ?_; intro gb194 hg w2 hbox hb; have BK194 := Zs.mk hbox; have GW194 := bsz HB hg; have GE194 := bsz HB hg; replace HB := bls HB hb; clear hb hbox hg; obtain ⟨hcz3_0, hcz3_1, hcz3_2, hcz3_3, hfz3_0, hfz3_1, hfz3_2, hfz3_3⟩ := cf4 BK194))
 go_ret
 exact fin_ (blt HB)
def bs_Within.f (a0 : Int) (a1 : Int) (a2 : Int) : Option (Bool) := if a0 < a1 then (some (!true)) else (some (!(decide (a0 > a2))))
set_option maxHeartbeats 8000000 in
set_option maxRecDepth 100000 in
theorem bs_Within.calls (a0 : Int) (a1 : Int) (a2 : Int) (r : Bool) (w : World) (h : bs_Within.f a0 a1 a2 = some r) :
  Calls Tryz.prog 14 #[.int .i64 a0, .int .i64 a1, .int .i64 a2] w fun e w' => e = .returned (.bool r) ∧ Drawn0 w w' := by
 have H : (if a0 < a1 then (some (!true)) else (some (!(decide (a0 > a2))))) = some r := h
 clear h
 by_cases c4 : a0 < a1
 ·rw [if_pos c4] at H
  have c4b0 : decide (a0 < a1) = true := decide_eq_true c4
  clear c4
  obtain rfl := Option.some.inj H
  go_enter Tryz.func14, Tryz.ntmps14
  go_wp2
  go_ret
  exact ⟨by first | rfl | (simp; done) | (simp [*]; done), by repeat (first | exact Drawn0.refl _ | apply Drawn0.step)⟩
 ·rw [if_neg c4] at H
  have c4b0 : decide (a0 < a1) = false := decide_eq_false c4
  clear c4
  obtain rfl := Option.some.inj H
  go_enter Tryz.func14, Tryz.ntmps14
  go_wp2
  go_ret
  exact ⟨by first | rfl | (simp; done) | (simp [*]; done), by repeat (first | exact Drawn0.refl _ | apply Drawn0.step)⟩
end Go.Proofs.YtmoimcblmmcffaaGreat.PRA

namespace Go.Proofs.YtmoimcblmmcffaaGreat.B
open Go.RowKit NC N PPC PRA
set_option linter.unusedSimpArgs false
set_option linter.unusedVariables false
theorem addR_lt {s : Bool} {a b : Nat} (ha : a < 2 * signN s) (hb : b < 2 * signN s) : addR s a b < 2 * signN s := by
 have h := add_eq ha hb
 exact nat_rg (h ▸ res_rg s .add (a : Int).toNat (b : Int).toNat)
theorem subR_lt {s : Bool} {a b : Nat} (ha : a < 2 * signN s) (hb : b < 2 * signN s) : subR s a b < 2 * signN s := by
 have h := sub_eq ha hb
 exact nat_rg (h ▸ res_rg s .sub (a : Int).toNat (b : Int).toNat)
theorem u64B_nat {s : Bool} {x : Nat} (h : x < 2 * signN s) : u64B (x : Int) = true := by
 have := (rg_nat h).u64
 unfold u64B
 rw [decide_eq_true this.1, decide_eq_true this.2]; rfl
theorem apply_f {op : Int} {s : Bool} {x y : Nat} (h0 : 0 ≤ op) (h6 : op ≤ 6) (hx : x < 2 * signN s) (hy : y < 2 * signN s) : rl_Apply.f op (tv s) (x : Int) (y : Int) = some (((opR op s x y : Nat) : Int), 0) := by
 have he : applyErrV op (tv s) (x : Int) (y : Int) = 0 := by unfold applyErrV; rw [if_pos (kind0 h0 h6)]; exact (rg_nat hx).valid2 (rg_nat hy)
 unfold rl_Apply.f
 rw [u64B_nat hx, u64B_nat hy, if_pos (show (true && true) = true from rfl), he, if_pos rfl, tv_eq, op_eq hx hy h0 h6]
section
variable {s : Bool} {x y : Nat} (hx : x < 2 * signN s) (hy : y < 2 * signN s)
include hx hy
theorem fadd : fd_add.f (tv s) (x : Int) (y : Int) = some ((addR s x y : Nat) : Int) := by
 unfold fd_add.f fd_operation.f; rw [apply_f (by decide) (by decide) hx hy]; rfl
theorem fsub : fd_sub.f (tv s) (x : Int) (y : Int) = some ((subR s x y : Nat) : Int) := by
 unfold fd_sub.f fd_operation.f; rw [apply_f (by decide) (by decide) hx hy]; rfl
theorem fmul : fd_mul.f (tv s) (x : Int) (y : Int) = some ((mulR s x y : Nat) : Int) := by
 unfold fd_mul.f fd_operation.f; rw [apply_f (by decide) (by decide) hx hy]; rfl
theorem fdiv : fd_div.f (tv s) (x : Int) (y : Int) = some ((divR s x y : Nat) : Int) := by
 unfold fd_div.f fd_operation.f; rw [apply_f (by decide) (by decide) hx hy]
 have e : opR 3 s x y = divR s x y := by unfold opR; rw [if_neg (by decide), if_neg (by decide), if_neg (by decide), if_pos rfl]
 rw [Option.bind_some, Option.bind_some, e]
theorem forder : fd_order.f (tv s) (x : Int) (y : Int) = some (cmpR s x y) := by
 unfold fd_order.f rl_Compare.f
 rw [u64B_nat hx, u64B_nat hy, if_pos (show (true && true) = true from rfl), (rg_nat hx).valid2 (rg_nat hy), if_pos rfl, tv_eq, cmp_eq hx hy]; rfl
theorem radd : r8_Add.f (tv s) (x : Int) (y : Int) = some ((addR s x y : Nat) : Int) := on2_tv hx hy
theorem rsub : r8_Minus2.f (tv s) (x : Int) (y : Int) = some ((subR s x y : Nat) : Int) := on2_tv hx hy
theorem rmul : r8_Mul.f (tv s) (x : Int) (y : Int) = some ((mulR s x y : Nat) : Int) := on2_tv hx hy
theorem rdiv : r8_Div.f (tv s) (x : Int) (y : Int) = some ((divR s x y : Nat) : Int) := on2_tv hx hy
theorem rcmp : r8_Compare.f (tv s) (x : Int) (y : Int) = some (cmpR s x y) := on2_tv hx hy
end
theorem fsize {s : Bool} {x : Nat} (hx : x < 2 * signN s) : fd_size.f (tv s) (x : Int) = some ((sizeR s x : Nat) : Int) := by
 unfold fd_size.f rl_SizeOf.f
 rw [u64B_nat hx, if_pos rfl, (rg_nat hx).valid1, if_pos rfl, size_eq hx]; rfl
theorem rsized {s : Bool} {x : Nat} (hx : x < 2 * signN s) : r8_Sized.f (tv s) (x : Int) = some ((sizeR s x : Nat) : Int) := on1_tv hx
theorem sizeR_lt {s : Bool} {x : Nat} (hx : x < 2 * signN s) : sizeR s x < 2 * signN s := by
 have h := size_eq hx
 rcases told_size (told s x hx) with hk | ⟨r, hr, _, _, hb⟩
 ·obtain ⟨hp, _⟩ := told_nan (told s x hx) hk
  unfold sizeR; rw [hp]
  cases s <;> decide
 ·unfold sizeR; rw [hb]; exact word_lt s false (Nat.lt_of_le_of_lt hr (inf_lt s))
def ct (s : Bool) : Int := if s then 3 else 4
theorem rpart (s : Bool) : r10_PartType.f (ct s) = some (tv s) := by cases s <;> rfl
theorem cpart_ct (s : Bool) : cpart (ct s) = tv s := by cases s <;> rfl
theorem fvalue (s : Bool) (x y : Int) : fd_value.f (tv s) x y = some (ct s, x, y, (⟨#[]⟩ : ByteArray)) := by cases s <;> rfl
theorem cmp_ge (s : Bool) (a b : Nat) : (0 ≤ cmpR s a b) = ¬ (cmpR s a b = -1) := by
 unfold cmpR
 by_cases h : (partsR s a).kind = 3 ∨ (partsR s b).kind = 3
 ·rw [if_pos h]; decide
 ·rw [if_neg h]
  by_cases h1 : rankR s a < rankR s b
  ·rw [if_pos h1]; decide
  ·rw [if_neg h1]
   by_cases h2 : rankR s a = rankR s b
   ·rw [if_pos h2]; decide
   ·rw [if_neg h2]; decide
abbrev NB : ByteArray := ⟨#[]⟩
section
variable {s : Bool} {a b c d : Nat} (S S' : ByteArray) (ha : a < 2 * signN s) (hb : b < 2 * signN s) (hc : c < 2 * signN s) (hd : d < 2 * signN s)
include ha hb hc hd
theorem op_over : ∃ p q : Nat, fd_over.f (tv s) (a : Int) (b : Int) (c : Int) (d : Int) = some ((p : Int), (q : Int)) ∧ r10_Apply.f 3 (ct s) (a : Int) (b : Int) S (ct s) (c : Int) (d : Int) S' = some (ct s, (p : Int), (q : Int), NB) := by
 by_cases hk : cmpR s (sizeR s c) (sizeR s d) = -1
 ·obtain ⟨r, er⟩ : ∃ y_, y_ = divR s c d := ⟨_, rfl⟩
  have hr : r < 2 * signN s := er ▸ divR_lt hc hd
  obtain ⟨u, eu⟩ : ∃ y_, y_ = mulR s r c := ⟨_, rfl⟩
  have hu : u < 2 * signN s := eu ▸ mulR_lt hr hc
  obtain ⟨z, ez⟩ : ∃ y_, y_ = addR s d u := ⟨_, rfl⟩
  have hz : z < 2 * signN s := ez ▸ addR_lt hd hu
  obtain ⟨v, ev⟩ : ∃ y_, y_ = mulR s a r := ⟨_, rfl⟩
  have hv : v < 2 * signN s := ev ▸ mulR_lt ha hr
  obtain ⟨e, ee⟩ : ∃ y_, y_ = addR s v b := ⟨_, rfl⟩
  have he : e < 2 * signN s := ee ▸ addR_lt hv hb
  obtain ⟨p, ep⟩ : ∃ y_, y_ = divR s e z := ⟨_, rfl⟩
  have hp : p < 2 * signN s := ep ▸ divR_lt he hz
  obtain ⟨f, ef⟩ : ∃ y_, y_ = mulR s b r := ⟨_, rfl⟩
  have hf : f < 2 * signN s := ef ▸ mulR_lt hb hr
  obtain ⟨g, eg⟩ : ∃ y_, y_ = subR s f a := ⟨_, rfl⟩
  have hg : g < 2 * signN s := eg ▸ subR_lt hf ha
  obtain ⟨q, eq⟩ : ∃ y_, y_ = divR s g z := ⟨_, rfl⟩
  have hq : q < 2 * signN s := eq ▸ divR_lt hg hz
  refine ⟨p, q, ?_, ?_⟩
  ·unfold fd_over.f
   rw [fsize hc, Option.bind_some, fsize hd, Option.bind_some, forder (sizeR_lt hc) (sizeR_lt hd), Option.bind_some, if_neg (show ¬ (cmpR s (sizeR s c) (sizeR s d) ≥ 0) by rw [hk]; decide)]
   rw [fdiv hc hd, Option.bind_some, ← er]
   rw [fmul hr hc, Option.bind_some, ← eu]
   rw [fadd hd hu, Option.bind_some, ← ez]
   rw [fmul ha hr, Option.bind_some, ← ev]
   rw [fadd hv hb, Option.bind_some, ← ee]
   rw [fdiv he hz, Option.bind_some, ← ep]
   rw [fmul hb hr, Option.bind_some, ← ef]
   rw [fsub hf ha, Option.bind_some, ← eg]
   rw [fdiv hg hz, Option.bind_some, ← eq]
  ·unfold r10_Apply.f r10_Div.f
   rw [if_neg (by decide), if_neg (by decide), if_neg (by decide), rpart, Option.bind_some, rsized hc, Option.bind_some, rsized hd, Option.bind_some, rcmp (sizeR_lt hc) (sizeR_lt hd), Option.bind_some, if_pos hk]
   rw [rdiv hc hd, Option.bind_some, ← er]
   rw [rmul hr hc, Option.bind_some, ← eu]
   rw [radd hd hu, Option.bind_some, ← ez]
   rw [rmul ha hr, Option.bind_some, ← ev]
   rw [radd hv hb, Option.bind_some, ← ee]
   rw [rdiv he hz, Option.bind_some, ← ep]
   rw [rmul hb hr, Option.bind_some, ← ef]
   rw [rsub hf ha, Option.bind_some, ← eg]
   rw [rdiv hg hz, Option.bind_some, ← eq]
   rfl
 ·obtain ⟨r, er⟩ : ∃ y_, y_ = divR s d c := ⟨_, rfl⟩
  have hr : r < 2 * signN s := er ▸ divR_lt hd hc
  obtain ⟨u, eu⟩ : ∃ y_, y_ = mulR s r d := ⟨_, rfl⟩
  have hu : u < 2 * signN s := eu ▸ mulR_lt hr hd
  obtain ⟨z, ez⟩ : ∃ y_, y_ = addR s c u := ⟨_, rfl⟩
  have hz : z < 2 * signN s := ez ▸ addR_lt hc hu
  obtain ⟨v, ev⟩ : ∃ y_, y_ = mulR s b r := ⟨_, rfl⟩
  have hv : v < 2 * signN s := ev ▸ mulR_lt hb hr
  obtain ⟨e, ee⟩ : ∃ y_, y_ = addR s a v := ⟨_, rfl⟩
  have he : e < 2 * signN s := ee ▸ addR_lt ha hv
  obtain ⟨p, ep⟩ : ∃ y_, y_ = divR s e z := ⟨_, rfl⟩
  have hp : p < 2 * signN s := ep ▸ divR_lt he hz
  obtain ⟨f, ef⟩ : ∃ y_, y_ = mulR s a r := ⟨_, rfl⟩
  have hf : f < 2 * signN s := ef ▸ mulR_lt ha hr
  obtain ⟨g, eg⟩ : ∃ y_, y_ = subR s b f := ⟨_, rfl⟩
  have hg : g < 2 * signN s := eg ▸ subR_lt hb hf
  obtain ⟨q, eq⟩ : ∃ y_, y_ = divR s g z := ⟨_, rfl⟩
  have hq : q < 2 * signN s := eq ▸ divR_lt hg hz
  refine ⟨p, q, ?_, ?_⟩
  ·unfold fd_over.f
   rw [fsize hc, Option.bind_some, fsize hd, Option.bind_some, forder (sizeR_lt hc) (sizeR_lt hd), Option.bind_some, if_pos (show cmpR s (sizeR s c) (sizeR s d) ≥ 0 from (cmp_ge s _ _).mpr hk)]
   rw [fdiv hd hc, Option.bind_some, ← er]
   rw [fmul hr hd, Option.bind_some, ← eu]
   rw [fadd hc hu, Option.bind_some, ← ez]
   rw [fmul hb hr, Option.bind_some, ← ev]
   rw [fadd ha hv, Option.bind_some, ← ee]
   rw [fdiv he hz, Option.bind_some, ← ep]
   rw [fmul ha hr, Option.bind_some, ← ef]
   rw [fsub hb hf, Option.bind_some, ← eg]
   rw [fdiv hg hz, Option.bind_some, ← eq]
  ·unfold r10_Apply.f r10_Div.f
   rw [if_neg (by decide), if_neg (by decide), if_neg (by decide), rpart, Option.bind_some, rsized hc, Option.bind_some, rsized hd, Option.bind_some, rcmp (sizeR_lt hc) (sizeR_lt hd), Option.bind_some, if_neg hk]
   rw [rdiv hd hc, Option.bind_some, ← er]
   rw [rmul hr hd, Option.bind_some, ← eu]
   rw [radd hc hu, Option.bind_some, ← ez]
   rw [rmul hb hr, Option.bind_some, ← ev]
   rw [radd ha hv, Option.bind_some, ← ee]
   rw [rdiv he hz, Option.bind_some, ← ep]
   rw [rmul ha hr, Option.bind_some, ← ef]
   rw [rsub hb hf, Option.bind_some, ← eg]
   rw [rdiv hg hz, Option.bind_some, ← eq]
   rfl
end
end Go.Proofs.YtmoimcblmmcffaaGreat.B
