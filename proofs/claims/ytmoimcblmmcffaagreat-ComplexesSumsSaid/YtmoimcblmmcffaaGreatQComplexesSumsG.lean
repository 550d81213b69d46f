/- Contracts and plain laws that the law ComplexesSums leans on (texts joined by program; what it does not come to is left out). -/
import Derived.Laws.EntriesVeiled
import Derived.Test.YtmoimcblmmcffaaGreatQComplexesSumsF
import Derived.Test.YtmoimcblmmcffaaGreatProg
import Derived.Below
import Derived.Deep.Draws
import Derived.Deep.AppendLies
import Derived.Maps.AppendAt
import Derived.OwnWalk
import Derived.Laws.BytesArg
import Derived.Laws.MakeOwn
import Derived.Laws.OwnMore
import Derived.Deep.OwnRows
import Derived.Tactics
import Derived.Lib.ConvBytes
import Derived.Laws.Slices
import Derived.WalkKit
import Derived.KernelRfl
import Derived.RowKit3
import Derived.Deep.LoopGhost
import Derived.Deep.QuietTactic
import Derived.BigQuiet
import Derived.WideLaws
import Derived.Deep.DeepCutAuto
import Derived.Deep.CutBlock
import Derived.Deep.RegionHeld3
import Derived.Laws.Rows
import Derived.Lib.AppendStr
import Derived.ArgAppend
import Derived.Laws.IdiomCopy
import Derived.OrdersHeld
import Derived.Laws.BitsLemmas
import Derived.RowKit
import Derived.Test.YtmoimcblmmcffaaGreatQComplexesSumsA

namespace Go.Proofs.YtmoimcblmmcffaaGreat.B
open Go.RowKit
set_option linter.unusedSimpArgs false
set_option linter.unusedVariables false
abbrev ExX (g : Nat) (w0 W w : World) : Prop := (∀ b o, b < W.heap.size → b ≠ g → w.cell? ⟨b, o, none⟩ = W.cell? ⟨b, o, none⟩) ∧ W.heap.size ≤ w.heap.size ∧ Own w g 4 ∧ Below w0.heap.size w0 w ∧ w0.heap.size ≤ g
section
variable {g : Nat} {w0 W w w1 : World}
theorem ExX.call (h : ExX g w0 W w) (hb : Below w.heap.size w w1) : ExX g w0 W w1 :=
 ⟨fun b o hlt hn => ((bcell hb).1 b o (Nat.lt_of_lt_of_le hlt h.2.1)).trans (h.1 b o hlt hn), Nat.le_trans h.2.1 hb.size, h.2.2.1.call hb, h.2.2.2.1.trans (hb.mono h.2.2.2.1.size), h.2.2.2.2⟩
theorem ExX.drew (h : ExX g w0 W w) : ExX g w0 W w.drew := h.call (Below.refl _ _).drew
theorem ExX.put (h : ExX g w0 W w) (j : Nat) (v : Value) : ExX g w0 W (w.setCell ⟨g, j, none⟩ v) :=
 ⟨fun b o hlt hn => (World.cell?_setCell_other w _ _ v (by intro e; injection e with e1 e2; exact hn e1.symm)).trans (h.1 b o hlt hn), by simpa [World.setCell] using h.2.1, h.2.2.1.set _ _, h.2.2.2.1.setCell (p := ⟨g, j, none⟩) h.2.2.2.2 v, h.2.2.2.2⟩
end
theorem hideXY {P : Program} {c : Code} {Q : Exit → Act → World → Prop} {a : Act} {w W w1 : World} {n : Nat} {x0 x1 y0 y1 : Value} {t t' : TypeId} (HO : ExO n w W n 4 w1)
  (h : ∀ V gx, w1.heap.size = gx → V.cell? ⟨gx, 0, none⟩ = some x0 → V.cell? ⟨gx, 1, none⟩ = some x1 → V.cell? ⟨gx + 1, 0, none⟩ = some y0 → V.cell? ⟨gx + 1, 1, none⟩ = some y1 → Own V n 4 → n < gx → gx + 2 = V.heap.size → Below w.heap.size w V → c.wp P Q a V) :
  c.wp P Q a ((w1.alloc (.cells #[x0, x1] t (0, 0))).alloc (.cells #[y0, y1] t' (0, 0))) := by
 have e1 : (w1.alloc (.cells #[x0, x1] t (0, 0))).heap.size = w1.heap.size + 1 := by simp
 have k := heap_alloc_new (w1.alloc (.cells #[x0, x1] t (0, 0))) (.cells #[y0, y1] t' (0, 0))
 rw [e1] at k
 have k2 := (Below.heap_alloc (w1.alloc (.cells #[x0, x1] t (0, 0))) (.cells #[y0, y1] t' (0, 0)) w1.heap.size (by rw [e1]; omega)).trans (heap_alloc_new w1 _)
 exact h _ _ rfl (cell_of_row _ _ 0 _ t (0, 0) k2) (cell_of_row _ _ 1 _ t (0, 0) k2) (cell_of_row _ _ 0 _ t' (0, 0) k) (cell_of_row _ _ 1 _ t' (0, 0) k) ((HO.2.alloc _).alloc _) HO.2.2.2 (by simp) (below_alloc0 (below_alloc0 HO.1.2.2 _) _)
theorem hideFn {P : Program} {c : Code} {Q : Exit → Act → World → Prop} {a : Act} {w V : World} {n gx : Nat} {x0 x1 y0 y1 f0 f1 f2 f3 : Value} {t : TypeId}
  (k0 : V.cell? ⟨gx, 0, none⟩ = some x0) (k1 : V.cell? ⟨gx, 1, none⟩ = some x1) (k2 : V.cell? ⟨gx + 1, 0, none⟩ = some y0) (k3 : V.cell? ⟨gx + 1, 1, none⟩ = some y1) (ho : Own V n 4) (hs : gx + 2 = V.heap.size) (hb : Below w.heap.size w V)
  (h : ∀ X, X.cell? ⟨gx, 0, none⟩ = some x0 → X.cell? ⟨gx, 1, none⟩ = some x1 → X.cell? ⟨gx + 1, 0, none⟩ = some y0 → X.cell? ⟨gx + 1, 1, none⟩ = some y1 → X.cell? ⟨gx + 2, 0, none⟩ = some f0 → X.cell? ⟨gx + 2, 1, none⟩ = some f1 → X.cell? ⟨gx + 2, 2, none⟩ = some f2 → X.cell? ⟨gx + 2, 3, none⟩ = some f3 → Own X n 4 → gx + 3 = X.heap.size → Below w.heap.size w X → c.wp P Q a X) :
  c.wp P Q a (V.alloc (.cells #[f0, f1, f2, f3] t (0, 0))) := by
 have hb2 : Below V.heap.size V (V.alloc (.cells #[f0, f1, f2, f3] t (0, 0))) := below_alloc0 (Below.refl _ _) _
 have k := heap_alloc_new V (.cells #[f0, f1, f2, f3] t (0, 0))
 rw [← hs] at k
 refine h _ (((bcell hb2).1 _ _ (by omega)).trans k0) (((bcell hb2).1 _ _ (by omega)).trans k1) (((bcell hb2).1 _ _ (by omega)).trans k2) (((bcell hb2).1 _ _ (by omega)).trans k3) ?_ ?_ ?_ ?_ (ho.call hb2) (by simp; omega) (below_alloc0 hb _)
 all_goals exact cell_of_row _ _ _ _ t (0, 0) k
set_option maxRecDepth 100000 in
set_option maxHeartbeats 4000000 in
theorem apply_2 (t a b : Int) (s : ByteArray) (t' a' b' : Int) (s' : ByteArray) (p x0 x1 y0 y1 r0 r1 v0 v1 v2 : Int) (v3 : ByteArray) (w : World)
  (c1 : ∀ w, Calls Tryz.prog 52 #[.agg #[.int .i64 t, .int .u64 a, .int .u64 b, .string s], .agg #[.int .i64 t', .int .u64 a', .int .u64 b', .string s']] w (Ret (.tuple #[.int .i64 p, .agg #[.int .u64 x0, .int .u64 x1], .agg #[.int .u64 y0, .int .u64 y1], .int .i64 0]) w))
  (c2 : ∀ w, Calls Tryz.prog 55 #[.int .i64 p, .agg #[.int .u64 x0, .int .u64 x1], .agg #[.int .u64 y0, .int .u64 y1]] w (Ret (.agg #[.int .u64 r0, .int .u64 r1]) w))
  (c3 : ∀ w, Calls Tryz.prog 57 #[.int .i64 p, .agg #[.int .u64 r0, .int .u64 r1]] w (Ret (.agg #[.int .i64 v0, .int .u64 v1, .int .u64 v2, .string v3]) w)) :
  Calls Tryz.prog 12 #[.int .i64 2, .agg #[.int .i64 t, .int .u64 a, .int .u64 b, .string s], .agg #[.int .i64 t', .int .u64 a', .int .u64 b', .string s']] w (Ret (.tuple #[.agg #[.int .i64 v0, .int .u64 v1, .int .u64 v2, .string v3], .int .i64 0]) w) := by
 go_enter Tryz.func12, Tryz.ntmps12
 go_upto_region 1 with (fail)
 refine hide2own w (fun W k0 k1 ho HW => ?_)
 have HO : ExO (w.heap.size + 2) w W (w.heap.size + 2) 4 W := ⟨HW, ho⟩
 go_upto_region 4 with (go_at_call 52; refine (c1 _).mono ?_; rintro e w1 ⟨rfl, hb1⟩; have HO := HO.call hb1)
 refine hideXY HO (fun V gx hgx i0 i1 i2 i3 hown hn hs hbl => ?_)
 rw [hgx]
 clear k0 k1 ho HW HO c1
 go_upto_region 7 with (fail)
 rw [← hs]
 refine hideFn i0 i1 i2 i3 hown hs hbl (fun X j0 j1 j2 j3 f0 f1 f2 f3 hown2 hs2 hbl2 => ?_)
 clear i0 i1 i2 i3 hown hbl
 have q0 : gx < X.heap.size := by omega
 have q1 : gx + 1 < X.heap.size := by omega
 have q2 : gx + 2 < X.heap.size := by omega
 have n0 : gx ≠ w.heap.size + 2 := by omega
 have n1 : gx + 1 ≠ w.heap.size + 2 := by omega
 have n2 : gx + 2 ≠ w.heap.size + 2 := by omega
 have HX : ExX (w.heap.size + 2) w X X := ⟨fun _ _ _ _ => rfl, Nat.le_refl _, hown2, hbl2, by omega⟩
 clear hs hs2 hgx hn
 have hr : w.heap.size + 1 + 1 = w.heap.size + 2 := rfl
 rw [hr]
 generalize gx + 1 = gy at *
 generalize gx + 2 = gz at *
 generalize w.heap.size + 2 = gr at *
 go_region_held3 (fun w' => ExX gr w X w') (first | (with_reducible assumption) | (with_reducible exact ExX.call (by assumption) hb8) | (with_reducible exact ExX.call (by assumption) hb9) | ((with_reducible refine ExX.drew ?_); (with_reducible assumption)) | (with_reducible exact (((ExX.put (by assumption) _ _).put _ _).put _ _).put _ _)) (first | (go_at_call 55; (with_reducible refine (c2 _).mono ?_); rintro e w8 ⟨rfl, hb8⟩) | (go_at_call 57; (with_reducible refine (c3 _).mono ?_); rintro e w9 ⟨rfl, hb9⟩))
 go_wp2
 have h := (by with_reducible assumption : ExX _ _ _ _)
 obtain ⟨e0, e1, e2, e3⟩ := Own.read4 (n := 0) h.2.2.1
 exact bodyPost_ret (v := .tuple #[.agg #[.int .i64 v0, .int .u64 v1, .int .u64 v2, .string v3], .int .i64 0]) (by simp [results, Tryz.results12, go_sem, e0, e1, e2, e3]) rfl ⟨rfl, h.2.2.2.1⟩
set_option maxRecDepth 100000 in
set_option maxHeartbeats 4000000 in
theorem of_SqrtOf_ok (t a b : Int) (s : ByteArray) (p x0 x1 : Int) (r0 r1 v0 v1 v2 : Int) (v3 : ByteArray) (w : World)
  (c1 : ∀ w, Calls Tryz.prog 72 #[.agg #[.int .i64 t, .int .u64 a, .int .u64 b, .string s]] w (Ret (.tuple #[.int .i64 p, .agg #[.int .u64 x0, .int .u64 x1], .int .i64 0]) w))
  (c2 : ∀ w, Calls Tryz.prog 82 #[.int .i64 p, .agg #[.int .u64 x0, .int .u64 x1]] w (Ret (.agg #[.int .u64 r0, .int .u64 r1]) w))
  (c3 : ∀ w, Calls Tryz.prog 57 #[.int .i64 p, .agg #[.int .u64 r0, .int .u64 r1]] w (Ret (.agg #[.int .i64 v0, .int .u64 v1, .int .u64 v2, .string v3]) w)) :
  Calls Tryz.prog 77 #[.agg #[.int .i64 t, .int .u64 a, .int .u64 b, .string s], .func (.func 82) #[] #[]] w (Ret (.tuple #[.agg #[.int .i64 v0, .int .u64 v1, .int .u64 v2, .string v3], .int .i64 0]) w) := by
 go_enter Tryz.func77, Tryz.ntmps77
 go_upto_region 1 with (fail)
 refine hide1own w (fun W k0 ho HW => ?_)
 have HO : ExO (w.heap.size + 1) w W (w.heap.size + 1) 4 W := ⟨HW, ho⟩
 go_wp2_with (first | (go_at_call 72; refine (c1 _).mono ?_; rintro e w1 ⟨rfl, hb1⟩; have HO := HO.call hb1) | (go_at_call 82; refine (c2 _).mono ?_; rintro e w2 ⟨rfl, hb2⟩; have HO := (HO.alloc _).call hb2) | (go_at_call 57; refine (c3 _).mono ?_; rintro e w3 ⟨rfl, hb3⟩; have HO := HO.call hb3))
 have h := ExO.put (ExO.put (ExO.put (ExO.put HO 0 (.int .i64 v0)) 1 (.int .u64 v1)) 2 (.int .u64 v2)) 3 (.string v3)
 obtain ⟨e0, e1, e2, e3⟩ := Own.read4 (n := 0) h.2
 exact bodyPost_ret (v := .tuple #[.agg #[.int .i64 v0, .int .u64 v1, .int .u64 v2, .string v3], .int .i64 0]) (by simp [results, Tryz.results77, go_sem, e0, e1, e2, e3]) rfl ⟨rfl, h.end⟩
set_option maxRecDepth 100000 in
set_option maxHeartbeats 4000000 in
theorem SqrtOf_w (t a b : Int) (s : ByteArray) (v0 v1 v2 : Int) (v3 : ByteArray) (er : Int) (w : World)
  (c1 : ∀ w, Calls Tryz.prog 77 #[.agg #[.int .i64 t, .int .u64 a, .int .u64 b, .string s], .func (.func 82) #[] #[]] w (Ret (.tuple #[.agg #[.int .i64 v0, .int .u64 v1, .int .u64 v2, .string v3], .int .i64 er]) w)) :
  Calls Tryz.prog 28 #[.agg #[.int .i64 t, .int .u64 a, .int .u64 b, .string s]] w (Ret (.tuple #[.agg #[.int .i64 v0, .int .u64 v1, .int .u64 v2, .string v3], .int .i64 er]) w) := by
 go_enter Tryz.func28, Tryz.ntmps28
 go_upto_region 1 with (fail)
 refine hide1own w (fun W k0 ho HW => ?_)
 have HO : ExO (w.heap.size + 1) w W (w.heap.size + 1) 4 W := ⟨HW, ho⟩
 go_wp2_with (go_at_call 77; refine (c1 _).mono ?_; rintro e w1 ⟨rfl, hb1⟩; have HO := HO.call hb1)
 have h := ExO.put (ExO.put (ExO.put (ExO.put HO 0 (.int .i64 v0)) 1 (.int .u64 v1)) 2 (.int .u64 v2)) 3 (.string v3)
 obtain ⟨e0, e1, e2, e3⟩ := Own.read4 (n := 0) h.2
 exact bodyPost_ret (v := .tuple #[.agg #[.int .i64 v0, .int .u64 v1, .int .u64 v2, .string v3], .int .i64 er]) (by simp [results, Tryz.results28, go_sem, e0, e1, e2, e3]) rfl ⟨rfl, h.end⟩
end Go.Proofs.YtmoimcblmmcffaaGreat.B

namespace Go.Proofs.YtmoimcblmmcffaaGreat
open Go.RowKit B N NC
set_option linter.unusedSimpArgs false
set_option linter.unusedVariables false
def cx_partType.f (a0 : Int) : Option (Int × Int) := some (cpart a0, ctypeErrV a0)
theorem cx_partType.calls (a0 r1 r2 : Int) (w : World) (h : cx_partType.f a0 = some (r1, r2)) : Calls Tryz.prog 88 #[.int .i64 a0] w fun e w' => e = .returned (.tuple #[.int .i64 r1, .int .i64 r2]) ∧ Below w.heap.size w w' := by
 injection Option.some.inj h with h1 h2
 subst h1 h2
 exact partType_c a0 w
def cx_open.f (a0 a1 a2 : Int) (a3 : ByteArray) : Option (Int × Int × Int × Int) := if (u64B a1 && u64B a2) = true then some (cpart a0, a1, a2, openErrV a0 a1 a2 a3) else none
theorem cx_open.calls (a0 a1 a2 : Int) (a3 : ByteArray) (r1 r2 r3 r4 : Int) (w : World) (h : cx_open.f a0 a1 a2 a3 = some (r1, r2, r3, r4)) :
  Calls Tryz.prog 72 #[.agg #[.int .i64 a0, .int .u64 a1, .int .u64 a2, .string a3]] w fun e w' => e = .returned (.tuple #[.int .i64 r1, .agg #[.int .u64 r2, .int .u64 r3], .int .i64 r4]) ∧ Below w.heap.size w w' := by
 obtain ⟨hu, h⟩ := of_ite h
 simp only [Bool.and_eq_true] at hu
 simp only [Prod.mk.injEq] at h
 obtain ⟨rfl, rfl, rfl, rfl⟩ := h
 exact open_c a0 a1 a2 a3 w (u64B_spec hu.1) (u64B_spec hu.2)
end Go.Proofs.YtmoimcblmmcffaaGreat

namespace Go.Proofs.YtmoimcblmmcffaaGreat.PPC
open Go.RowKit Go.Proofs.YtmoimcblmmcffaaGreatW.PrintWords Go.Proofs.YtmoimcblmmcffaaGreatW.PrintLast Go.Proofs.YtmoimcblmmcffaaGreatW.PrintMore
attribute [local go_sem] max2_int min2_int max_two min_two max_three min_three max_four min_four   -- for this text's walks alone
set_option linter.unusedVariables false
set_option linter.unusedSimpArgs false
def errW : Option Int → Value
 | none => .nilIface
 | some c => .iface 0 (.int .i64 c)
theorem errW_none : errW none = .nilIface := rfl
theorem errW_some (c : Int) : errW (some c) = .iface 0 (.int .i64 c) := rfl
theorem info74 : (Tryz.prog.info? 74).map (fun i => (i.zero, i.size, i.bytes)) = some (some (.agg #[(.int .u64 0), (.int .u64 0)]), 2, 16) := by kernel_rfl
structure S24 where
 f0 : Int
 f1 : Int
 f2 : Int
 f3 : ByteArray
def z24 : S24 := ⟨(0 : Int), (0 : Int), (0 : Int), (⟨#[]⟩ : ByteArray)⟩
def k24 : Kd S24 := Kd.iso (Kd.pair (Kd.int .i64) (Kd.pair (Kd.int .u64) (Kd.pair (Kd.int .u64) Kd.string))) (fun x : S24 => (x.f0, x.f1, x.f2, x.f3))
theorem k24_open {w : World} {x : S24} {cs : List Value} (h : k24.K w x cs) : cs = [.int .i64 x.f0, .int .u64 x.f1, .int .u64 x.f2, .string x.f3] := by
 obtain ⟨_, _, rfl, rfl, ⟨_, _, rfl, rfl, ⟨_, _, rfl, rfl, rfl⟩⟩⟩ := h
 exact rfl
theorem k24_mk (w : World) (x : S24)  : k24.K w x [.int .i64 x.f0, .int .u64 x.f1, .int .u64 x.f2, .string x.f3] := ⟨[.int .i64 x.f0], [.int .u64 x.f1, .int .u64 x.f2, .string x.f3], rfl, rfl, ⟨[.int .u64 x.f1], [.int .u64 x.f2, .string x.f3], rfl, rfl, ⟨[.int .u64 x.f2], [.string x.f3], rfl, rfl, rfl⟩⟩⟩
def rd_T24 (xs : List S24) (i : Int) : S24 := xs.getD i.toNat z24
theorem at_T24 {w : World} {A : Option Addr} {n : Nat} {xs : List S24} (h : Kd.C k24 w A n xs) (i : Int) (h0 : 0 ≤ i) (h1 : i < n) : ∃ ad , A = some ad ∧ w.cell? (ad.add (i.toNat * 4)) = some (.int .i64 (rd_T24 xs i).f0) ∧ w.cell? ⟨(ad.add (i.toNat * 4)).block, (ad.add (i.toNat * 4)).off + 1, none⟩ = some (.int .u64 (rd_T24 xs i).f1) ∧ w.cell? ⟨(ad.add (i.toNat * 4)).block, (ad.add (i.toNat * 4)).off + 2, none⟩ = some (.int .u64 (rd_T24 xs i).f2) ∧ w.cell? ⟨(ad.add (i.toNat * 4)).block, (ad.add (i.toNat * 4)).off + 3, none⟩ = some (.string (rd_T24 xs i).f3) := by
 obtain ⟨ad, c, e, _, hK, hc0⟩ := Kd.C_get h z24 i h0 h1
 have hc : ∀ j u, c[j]? = some u → w.cell? (ad.add (i.toNat * 4 + j)) = some u := hc0
 obtain rfl := k24_open hK
 exact ⟨ad, e, hc 0 _ rfl, by rw [← add_field _ _ 1 (by omega)]; exact hc 1 _ rfl, by rw [← add_field _ _ 2 (by omega)]; exact hc 2 _ rfl, by rw [← add_field _ _ 3 (by omega)]; exact hc 3 _ rfl⟩
structure S74 where
 f0 : Int
 f1 : Int
def z74 : S74 := ⟨(0 : Int), (0 : Int)⟩
def k74 : Kd S74 := Kd.iso (Kd.pair (Kd.int .u64) (Kd.int .u64)) (fun x : S74 => (x.f0, x.f1))
theorem k74_open {w : World} {x : S74} {cs : List Value} (h : k74.K w x cs) : cs = [.int .u64 x.f0, .int .u64 x.f1] := by
 obtain ⟨_, _, rfl, rfl, rfl⟩ := h
 exact rfl
theorem k74_openM {w : World} {base : Nat} {ok : Nat → Prop} {x : S74} {cs : List Value} (h : k74.M w base ok x cs) : cs = [.int .u64 x.f0, .int .u64 x.f1] := by
 obtain ⟨_, _, rfl, rfl, rfl⟩ := h
 exact rfl
theorem k74_mkM (w : World) (base : Nat) (ok : Nat → Prop) (x : S74)  : k74.M w base ok x [.int .u64 x.f0, .int .u64 x.f1] := ⟨[.int .u64 x.f0], [.int .u64 x.f1], rfl, rfl, rfl⟩
def rd_T74 (xs : List S74) (i : Int) : S74 := xs.getD i.toNat z74
theorem at_T74 {w : World} {A : Option Addr} {n : Nat} {xs : List S74} (h : Kd.C k74 w A n xs) (i : Int) (h0 : 0 ≤ i) (h1 : i < n) : ∃ ad , A = some ad ∧ w.cell? (ad.add (i.toNat * 2)) = some (.int .u64 (rd_T74 xs i).f0) ∧ w.cell? ⟨(ad.add (i.toNat * 2)).block, (ad.add (i.toNat * 2)).off + 1, none⟩ = some (.int .u64 (rd_T74 xs i).f1) := by
 obtain ⟨ad, c, e, _, hK, hc0⟩ := Kd.C_get h z74 i h0 h1
 have hc : ∀ j u, c[j]? = some u → w.cell? (ad.add (i.toNat * 2 + j)) = some u := hc0
 obtain rfl := k74_open hK
 exact ⟨ad, e, hc 0 _ rfl, by rw [← add_field _ _ 1 (by omega)]; exact hc 1 _ rfl⟩
end Go.Proofs.YtmoimcblmmcffaaGreat.PPC

namespace Go.Proofs.YtmoimcblmmcffaaGreat.PPC
open Go.RowKit Go.Proofs.YtmoimcblmmcffaaGreatW.PrintWords Go.Proofs.YtmoimcblmmcffaaGreatW.PrintLast Go.Proofs.YtmoimcblmmcffaaGreatW.PrintMore Go.Proofs.YtmoimcblmmcffaaGreatW.PrintZ
attribute [local go_sem] max2_int min2_int max_two min_two max_three min_three max_four min_four   -- for this text's walks alone
set_option linter.unusedVariables false
set_option linter.unusedSimpArgs false
def fd_operation.f (a0 : Int) (a1 : Int) (a2 : Int) (a3 : Int) : Option (Int) := (rl_Apply.f a1 a0 a2 a3).bind fun bt101 => (some bt101.1)
set_option maxHeartbeats 8000000 in
set_option maxRecDepth 100000 in
theorem fd_operation.calls (a0 : Int) (a1 : Int) (a2 : Int) (a3 : Int) (r : Int) (w : World) (h : fd_operation.f a0 a1 a2 a3 = some r) :
  Calls Tryz.prog 120 #[.int .i64 a0, .int .i64 a1, .int .u64 a2, .int .u64 a3] w fun e w' => e = .returned (.int .u64 r) ∧ Below w.heap.size w w' := by
 have HB := Zs.mk (Below.refl w.heap.size w)
 have H : ((rl_Apply.f a1 a0 a2 a3).bind fun bt101 => (some bt101.1)) = some r := h
 clear h
 replace H := Option.bind_eq_some_iff.mp H
 obtain ⟨⟨t101, t102⟩, A5, H⟩ := H
 try dsimp only at H
 replace A5 := Zs.mk A5
 obtain rfl := Option.some.inj H
 go_enter Tryz.func120, Tryz.ntmps120
 go_wp2_with (first | ((with_reducible refine gc_ (f := 139) rfl ?_); refine gLc 16 Tryz.func139 (rl_Apply.calls a1 a0 a2 a3 t101 t102 _ A5.out) (fun w6 hb => ?_); replace HB := bls HB hb; clear hb))
 go_ret
 exact fin_ (blt HB)
def fd_add.f (a0 : Int) (a1 : Int) (a2 : Int) : Option (Int) := (fd_operation.f a0 0 a1 a2).bind fun t103 => (some t103)
set_option maxHeartbeats 8000000 in
set_option maxRecDepth 100000 in
theorem fd_add.calls (a0 : Int) (a1 : Int) (a2 : Int) (r : Int) (w : World) (h : fd_add.f a0 a1 a2 = some r) :
  Calls Tryz.prog 97 #[.int .i64 a0, .int .u64 a1, .int .u64 a2] w fun e w' => e = .returned (.int .u64 r) ∧ Below w.heap.size w w' := by
 have HB := Zs.mk (Below.refl w.heap.size w)
 have H : ((fd_operation.f a0 0 a1 a2).bind fun t103 => (some t103)) = some r := h
 clear h
 replace H := Option.bind_eq_some_iff.mp H
 obtain ⟨t103, A4, H⟩ := H
 try dsimp only at H
 replace A4 := Zs.mk A4
 obtain rfl := Option.some.inj H
 go_enter Tryz.func97, Tryz.ntmps97
 go_wp2_with (first | ((with_reducible refine gc_ (f := 120) rfl ?_); refine gLc 10 Tryz.func120 (fd_operation.calls a0 0 a1 a2 t103 _ A4.out) (fun w5 hb => ?_); replace HB := bls HB hb; clear hb))
 go_ret
 exact fin_ (blt HB)
def fd_plus.f (a0 : Int) (a1_0 : Int) (a1_1 : Int) (a2_0 : Int) (a2_1 : Int) : Option (Int × Int) := (fd_add.f a0 a1_0 a2_0).bind fun t107 => ((fd_add.f a0 a1_1 a2_1).bind fun t108 => (some (t107, t108)))
def fd_plus.T1 : Bool × List (List Nat × List Nat) := (true, [([], []), ([], []), ([1], [1]), ([], []), ([3], [3]), ([0, 2, 4], [0, 2, 4]), ([], []), ([], []), ([7], [7]), ([], []), ([9], [9]), ([6, 8, 10, 5], [6, 8, 10]), ([5, 11], [5, 11]), ([12, 11, 0, 1, 2, 3, 4, 5, 6, 7, 8, 9, 10, 11, 12], [12])])
def fd_plus.B1 : List Nat := [0, 0, 2, 0, 8, 31, 0, 0, 128, 0, 512, 2047, 4095, 8191]
theorem fd_plus.tab1 : rtab .any (opsOf Tryz.f53 1) = fd_plus.T1 := by kernel_rfl
theorem fd_plus.bits1 : waitsOk fd_plus.T1.2 fd_plus.B1 = true := by kernel_rfl
set_option maxHeartbeats 8000000 in
set_option maxRecDepth 100000 in
theorem fd_plus.calls (a0 : Int) (a1_0 : Int) (a1_1 : Int) (a2_0 : Int) (a2_1 : Int) (r1 : Int) (r2 : Int) (w : World) (h : fd_plus.f a0 a1_0 a1_1 a2_0 a2_1 = some (r1, r2)) :
  Calls Tryz.prog 53 #[.int .i64 a0, .agg #[.int .u64 a1_0, .int .u64 a1_1], .agg #[.int .u64 a2_0, .int .u64 a2_1]] w fun e w' => e = .returned (.agg #[.int .u64 r1, .int .u64 r2]) ∧ Below w.heap.size w w' := by
 have hu74 := Tryz.underlying74
 have HB := Zs.mk (Below.refl w.heap.size w)
 have H : ((fd_add.f a0 a1_0 a2_0).bind fun t107 => ((fd_add.f a0 a1_1 a2_1).bind fun t108 => (some (t107, t108)))) = some (r1, r2) := h
 clear h
 replace H := Option.bind_eq_some_iff.mp H
 obtain ⟨t107, A4, H⟩ := H
 try dsimp only at H
 replace A4 := Zs.mk A4
 replace H := Option.bind_eq_some_iff.mp H
 obtain ⟨t108, A5, H⟩ := H
 try dsimp only at H
 replace A5 := Zs.mk A5
 simp only [Option.some.injEq, Prod.mk.injEq] at H
 obtain ⟨rfl, rfl⟩ := H
 go_enter Tryz.func53, Tryz.ntmps53
 try go_wp2_with (first | ((with_reducible refine gd_ (N := 4) rfl ?_); refine bxe 4 (cs := #[.int .u64 a1_0, .int .u64 a1_1]) (t := 74) ?_; intro gb104 hg w6 hbox hb; have BK104 := Zs.mk hbox; have GW104 := bsz HB hg; have GE104 := bsz HB hg; replace HB := bls HB hb; clear hb hbox hg) | ((with_reducible refine gd_ (N := 5) rfl ?_); refine bxe 5 (cs := #[.int .u64 a2_0, .int .u64 a2_1]) (t := 74) ?_; intro gb105 hg w7 hbox hb; have BK105 := Zs.mk hbox; have GW105 := bsz HB hg; have GE105 := bsz HB hg; have NB104_105 := bnl BK104 hg; have NB105_104 := bng BK104 hg; replace BK104 := bkb BK104 hb; replace HB := bls HB hb; clear hb hbox hg) | ((with_reducible refine gd_ (N := 6) rfl ?_); refine bxe 6 (cs := #[.int .u64 0, .int .u64 0]) (t := 74) ?_; intro gb106 hg w8 hbox hb; have BK106 := Zs.mk hbox; have GW106 := bsz HB hg; have GE106 := bsz HB hg; have NB104_106 := bnl BK104 hg; have NB106_104 := bng BK104 hg; have NB105_106 := bnl BK105 hg; have NB106_105 := bng BK105 hg; replace BK104 := bkb BK104 hb; replace BK105 := bkb BK105 hb; replace HB := bls HB hb; clear hb hbox hg))
 replace BK104 := Zs.mk (zd BK104.out)
 replace BK105 := Zs.mk (zd BK105.out)
 replace BK106 := Zs.mk (zd BK106.out)
 replace HB := Zs.mk (below_drew1 HB.out)
 refine start_ (n := 14) (S := fun w' => w'.cell? ⟨gb104, 0, none⟩ = some (.int .u64 a1_0) ∧ w'.cell? ⟨gb104, 1, none⟩ = some (.int .u64 a1_1) ∧ w'.cell? ⟨gb105, 0, none⟩ = some (.int .u64 a2_0) ∧ w'.cell? ⟨gb105, 1, none⟩ = some (.int .u64 a2_1)) (ds := []) #[false, false, false, false, false, false, false, false, false, false, false, false, false, false] (by kernel_rfl) rfl rfl ⟨(zc BK104.out 0).trans rfl, (zc BK104.out 1).trans rfl, (zc BK105.out 0).trans rfl, (zc BK105.out 1).trans rfl⟩ (fun hHeld => ?_); refine with_tabW fd_plus.tab1 fd_plus.bits1 (fun HT_ HW_ => ?_)
 generalize w8.drew = w9 at BK104 BK105 BK106 HB hHeld ⊢
 refine pu 0 7 HT_ ?_
 refine pu 1 8 HT_ ?_
 refine pu 3 10 HT_ ?_
 refine pu 6 13 HT_ ?_
 refine pu 7 14 HT_ ?_
 refine pu 9 16 HT_ ?_
 refine tk 2 9 HT_ HW_ hHeld ?_
 refine tk 4 11 HT_ HW_ hHeld ?_
 refine tk 8 15 HT_ HW_ hHeld ?_
 refine tk 10 17 HT_ HW_ hHeld ?_
 refine on 5 12 HT_ (fun K hK => ?_)
 refine gsc Tryz.func97 (fd_add.calls a0 a1_0 a2_0 t107 _ A4.out) (fun w10 hb => ?_)
 replace BK104 := bkb BK104 hb
 replace BK105 := bkb BK105 hb
 replace BK106 := bkb BK106 hb
 replace HB := bls HB hb
 (try clear hb)
 (try clear hb2)
 (try clear hk)
 (try clear hi)
 refine hK.out _ _ ⟨(zc BK104.out 0).trans rfl, (zc BK104.out 1).trans rfl, (zc BK105.out 0).trans rfl, (zc BK105.out 1).trans rfl⟩ (fun hHeld => ?_)
 clear hK K
 refine nm 12 ?_
 refine on 11 18 HT_ (fun K hK => ?_)
 refine gsc Tryz.func97 (fd_add.calls a0 a1_1 a2_1 t108 _ A5.out) (fun w11 hb => ?_)
 replace BK104 := bkb BK104 hb
 replace BK105 := bkb BK105 hb
 replace BK106 := bkb BK106 hb
 replace HB := bls HB hb
 (try clear hb)
 (try clear hb2)
 (try clear hk)
 (try clear hi)
 refine hK.out _ _ ⟨(zc BK104.out 0).trans rfl, (zc BK104.out 1).trans rfl, (zc BK105.out 0).trans rfl, (zc BK105.out 1).trans rfl⟩ (fun hHeld => ?_)
 clear hK K
 refine nm 18 ?_
 refine pu 12 19 HT_ ?_
 refine one_ (i := 13) (N := none) #[true, true, true, true, true, true, true, true, true, true, true, true, true, true] rfl rfl (one_of HT_.out (by kernel_rfl)) (by decide) (fun K hK => ?_)
 have hs12 : w11.cell? ⟨gb106, 0, none⟩ = some (.int .u64 0) := (zc BK106.out 0).trans rfl
 have hfs12 := zf BK106.out 0
 have hns12_0 := NB104_106.out
 have hns12_1 := NB105_106.out
 have hms12_0 := NB106_104.out
 have hms12_1 := NB106_105.out
 have hs13 : w11.cell? ⟨gb106, 1, none⟩ = some (.int .u64 0) := (zc BK106.out 1).trans rfl
 have hfs13 := zf BK106.out 1
 have hns13_0 := NB104_106.out
 have hns13_1 := NB105_106.out
 have hms13_0 := NB106_104.out
 have hms13_1 := NB106_105.out
 refine skip_ (w1 := ?_) (by rfl) rfl ?_ ?_
 rotate_left
 ·go_simp
  rfl
 refine hK.out _ _ ⟨((cell_far (p := ⟨gb106, _, none⟩) NB104_106.out _).trans (((cell_far (p := ⟨gb106, _, none⟩) NB104_106.out _).trans (hHeld.1)))), ((cell_far (p := ⟨gb106, _, none⟩) NB104_106.out _).trans (((cell_far (p := ⟨gb106, _, none⟩) NB104_106.out _).trans (hHeld.2.1)))), ((cell_far (p := ⟨gb106, _, none⟩) NB105_106.out _).trans (((cell_far (p := ⟨gb106, _, none⟩) NB105_106.out _).trans (hHeld.2.2.1)))), ((cell_far (p := ⟨gb106, _, none⟩) NB105_106.out _).trans (((cell_far (p := ⟨gb106, _, none⟩) NB105_106.out _).trans (hHeld.2.2.2))))⟩ (fun hHeld => ?_)
 clear hK K
 refine done_ (done_of HT_.out (by kernel_rfl)) ?_
 try go_wp2
 refine bodyPost_ret (results_cell_row rfl _ _ gb106 74 #[.int .u64 t107, .int .u64 t108] (0, 0) _ rfl (by (with_reducible repeat (first | refine zn ?_ _ | refine zd ?_ | refine za ?_ _)); apply bp2; (with_reducible repeat (first | refine zn ?_ _ | refine zd ?_ | refine za ?_ _)); exact BK106.out) Tryz.underlying74 rfl (by kernel_rfl)) rfl ?_
 exact fin_ (blt HB)
def fd_sub.f (a0 : Int) (a1 : Int) (a2 : Int) : Option (Int) := (fd_operation.f a0 1 a1 a2).bind fun t109 => (some t109)
set_option maxHeartbeats 8000000 in
set_option maxRecDepth 100000 in
theorem fd_sub.calls (a0 : Int) (a1 : Int) (a2 : Int) (r : Int) (w : World) (h : fd_sub.f a0 a1 a2 = some r) :
  Calls Tryz.prog 98 #[.int .i64 a0, .int .u64 a1, .int .u64 a2] w fun e w' => e = .returned (.int .u64 r) ∧ Below w.heap.size w w' := by
 have HB := Zs.mk (Below.refl w.heap.size w)
 have H : ((fd_operation.f a0 1 a1 a2).bind fun t109 => (some t109)) = some r := h
 clear h
 replace H := Option.bind_eq_some_iff.mp H
 obtain ⟨t109, A4, H⟩ := H
 try dsimp only at H
 replace A4 := Zs.mk A4
 obtain rfl := Option.some.inj H
 go_enter Tryz.func98, Tryz.ntmps98
 go_wp2_with (first | ((with_reducible refine gc_ (f := 120) rfl ?_); refine gLc 10 Tryz.func120 (fd_operation.calls a0 1 a1 a2 t109 _ A4.out) (fun w5 hb => ?_); replace HB := bls HB hb; clear hb))
 go_ret
 exact fin_ (blt HB)
def fd_mul.f (a0 : Int) (a1 : Int) (a2 : Int) : Option (Int) := (fd_operation.f a0 2 a1 a2).bind fun t115 => (some t115)
set_option maxHeartbeats 8000000 in
set_option maxRecDepth 100000 in
theorem fd_mul.calls (a0 : Int) (a1 : Int) (a2 : Int) (r : Int) (w : World) (h : fd_mul.f a0 a1 a2 = some r) :
  Calls Tryz.prog 99 #[.int .i64 a0, .int .u64 a1, .int .u64 a2] w fun e w' => e = .returned (.int .u64 r) ∧ Below w.heap.size w w' := by
 have HB := Zs.mk (Below.refl w.heap.size w)
 have H : ((fd_operation.f a0 2 a1 a2).bind fun t115 => (some t115)) = some r := h
 clear h
 replace H := Option.bind_eq_some_iff.mp H
 obtain ⟨t115, A4, H⟩ := H
 try dsimp only at H
 replace A4 := Zs.mk A4
 obtain rfl := Option.some.inj H
 go_enter Tryz.func99, Tryz.ntmps99
 go_wp2_with (first | ((with_reducible refine gc_ (f := 120) rfl ?_); refine gLc 10 Tryz.func120 (fd_operation.calls a0 2 a1 a2 t115 _ A4.out) (fun w5 hb => ?_); replace HB := bls HB hb; clear hb))
 go_ret
 exact fin_ (blt HB)
end Go.Proofs.YtmoimcblmmcffaaGreat.PPC

namespace Go.Proofs.YtmoimcblmmcffaaGreat.PPC
open Go.RowKit Go.Proofs.YtmoimcblmmcffaaGreatW.PrintWords Go.Proofs.YtmoimcblmmcffaaGreatW.PrintLast Go.Proofs.YtmoimcblmmcffaaGreatW.PrintMore Go.Proofs.YtmoimcblmmcffaaGreatW.PrintZ
attribute [local go_sem] max2_int min2_int max_two min_two max_three min_three max_four min_four   -- for this text's walks alone
set_option linter.unusedVariables false
set_option linter.unusedSimpArgs false
def fd_times.f (a0 : Int) (a1_0 : Int) (a1_1 : Int) (a2_0 : Int) (a2_1 : Int) : Option (Int × Int) := (fd_mul.f a0 a1_0 a2_0).bind fun t119 => ((fd_mul.f a0 a1_1 a2_1).bind fun t120 => ((fd_sub.f a0 t119 t120).bind fun t121 => ((fd_mul.f a0 a1_0 a2_1).bind fun t122 => ((fd_mul.f a0 a1_1 a2_0).bind fun t123 => ((fd_add.f a0 t122 t123).bind fun t124 => (some (t121, t124)))))))
def fd_times.T1 : Bool × List (List Nat × List Nat) := (true, [([], []), ([], []), ([], []), ([2], [2]), ([], []), ([4], [4]), ([1, 3, 5], [1, 3, 5]), ([], []), ([], []), ([8], [8]), ([], []), ([10], [10]), ([7, 9, 11, 6], [7, 9, 11]), ([0, 6, 12, 12], [0, 6, 12]), ([], []), ([], []), ([], []), ([16], [16]), ([], []), ([18], [18]), ([15, 17, 19, 13], [15, 17, 19]), ([], []), ([], []), ([22], [22]), ([], []), ([24], [24]), ([21, 23, 25, 20], [21, 23, 25]), ([14, 20, 26, 26], [14, 20, 26]), ([13, 27], [13, 27]), ([28, 27, 0, 1, 2, 3, 4, 5, 6, 7, 8, 9, 10, 11, 12, 13, 14, 15, 16, 17, 18, 19, 20, 21, 22, 23, 24, 25, 26, 27, 28], [28])])
def fd_times.B1 : List Nat := [0, 0, 0, 4, 0, 16, 62, 0, 0, 256, 0, 1024, 4094, 8191, 0, 0, 0, 65536, 0, 262144, 1032191, 0, 0, 4194304, 0, 16777216, 67092479, 134217727, 268435455, 536870911]
theorem fd_times.tab1 : rtab .any (opsOf Tryz.f55 1) = fd_times.T1 := by kernel_rfl
theorem fd_times.bits1 : waitsOk fd_times.T1.2 fd_times.B1 = true := by kernel_rfl
set_option maxHeartbeats 8000000 in
set_option maxRecDepth 100000 in
theorem fd_times.calls (a0 : Int) (a1_0 : Int) (a1_1 : Int) (a2_0 : Int) (a2_1 : Int) (r1 : Int) (r2 : Int) (w : World) (h : fd_times.f a0 a1_0 a1_1 a2_0 a2_1 = some (r1, r2)) :
  Calls Tryz.prog 55 #[.int .i64 a0, .agg #[.int .u64 a1_0, .int .u64 a1_1], .agg #[.int .u64 a2_0, .int .u64 a2_1]] w fun e w' => e = .returned (.agg #[.int .u64 r1, .int .u64 r2]) ∧ Below w.heap.size w w' := by
 have hu74 := Tryz.underlying74
 have HB := Zs.mk (Below.refl w.heap.size w)
 have H : ((fd_mul.f a0 a1_0 a2_0).bind fun t119 => ((fd_mul.f a0 a1_1 a2_1).bind fun t120 => ((fd_sub.f a0 t119 t120).bind fun t121 => ((fd_mul.f a0 a1_0 a2_1).bind fun t122 => ((fd_mul.f a0 a1_1 a2_0).bind fun t123 => ((fd_add.f a0 t122 t123).bind fun t124 => (some (t121, t124)))))))) = some (r1, r2) := h
 clear h
 replace H := Option.bind_eq_some_iff.mp H
 obtain ⟨t119, A4, H⟩ := H
 try dsimp only at H
 replace A4 := Zs.mk A4
 replace H := Option.bind_eq_some_iff.mp H
 obtain ⟨t120, A5, H⟩ := H
 try dsimp only at H
 replace A5 := Zs.mk A5
 replace H := Option.bind_eq_some_iff.mp H
 obtain ⟨t121, A6, H⟩ := H
 try dsimp only at H
 replace A6 := Zs.mk A6
 replace H := Option.bind_eq_some_iff.mp H
 obtain ⟨t122, A7, H⟩ := H
 try dsimp only at H
 replace A7 := Zs.mk A7
 replace H := Option.bind_eq_some_iff.mp H
 obtain ⟨t123, A8, H⟩ := H
 try dsimp only at H
 replace A8 := Zs.mk A8
 replace H := Option.bind_eq_some_iff.mp H
 obtain ⟨t124, A9, H⟩ := H
 try dsimp only at H
 replace A9 := Zs.mk A9
 simp only [Option.some.injEq, Prod.mk.injEq] at H
 obtain ⟨rfl, rfl⟩ := H
 go_enter Tryz.func55, Tryz.ntmps55
 try go_wp2_with (first | ((with_reducible refine gd_ (N := 4) rfl ?_); refine bxe 4 (cs := #[.int .u64 a1_0, .int .u64 a1_1]) (t := 74) ?_; intro gb116 hg w10 hbox hb; have BK116 := Zs.mk hbox; have GW116 := bsz HB hg; have GE116 := bsz HB hg; replace HB := bls HB hb; clear hb hbox hg) | ((with_reducible refine gd_ (N := 5) rfl ?_); refine bxe 5 (cs := #[.int .u64 a2_0, .int .u64 a2_1]) (t := 74) ?_; intro gb117 hg w11 hbox hb; have BK117 := Zs.mk hbox; have GW117 := bsz HB hg; have GE117 := bsz HB hg; have NB116_117 := bnl BK116 hg; have NB117_116 := bng BK116 hg; replace BK116 := bkb BK116 hb; replace HB := bls HB hb; clear hb hbox hg) | ((with_reducible refine gd_ (N := 6) rfl ?_); refine bxe 6 (cs := #[.int .u64 0, .int .u64 0]) (t := 74) ?_; intro gb118 hg w12 hbox hb; have BK118 := Zs.mk hbox; have GW118 := bsz HB hg; have GE118 := bsz HB hg; have NB116_118 := bnl BK116 hg; have NB118_116 := bng BK116 hg; have NB117_118 := bnl BK117 hg; have NB118_117 := bng BK117 hg; replace BK116 := bkb BK116 hb; replace BK117 := bkb BK117 hb; replace HB := bls HB hb; clear hb hbox hg))
 replace BK116 := Zs.mk (zd BK116.out)
 replace BK117 := Zs.mk (zd BK117.out)
 replace BK118 := Zs.mk (zd BK118.out)
 replace HB := Zs.mk (below_drew1 HB.out)
 refine start_ (n := 30) (S := fun w' => w'.cell? ⟨gb116, 0, none⟩ = some (.int .u64 a1_0) ∧ w'.cell? ⟨gb116, 1, none⟩ = some (.int .u64 a1_1) ∧ w'.cell? ⟨gb117, 0, none⟩ = some (.int .u64 a2_0) ∧ w'.cell? ⟨gb117, 1, none⟩ = some (.int .u64 a2_1)) (ds := []) #[false, false, false, false, false, false, false, false, false, false, false, false, false, false, false, false, false, false, false, false, false, false, false, false, false, false, false, false, false, false] (by kernel_rfl) rfl rfl ⟨(zc BK116.out 0).trans rfl, (zc BK116.out 1).trans rfl, (zc BK117.out 0).trans rfl, (zc BK117.out 1).trans rfl⟩ (fun hHeld => ?_); refine with_tabW fd_times.tab1 fd_times.bits1 (fun HT_ HW_ => ?_)
 generalize w12.drew = w13 at BK116 BK117 BK118 HB hHeld ⊢
 refine pu 0 7 HT_ ?_
 refine pu 1 8 HT_ ?_
 refine pu 2 9 HT_ ?_
 refine pu 4 11 HT_ ?_
 refine pu 7 14 HT_ ?_
 refine pu 8 15 HT_ ?_
 refine pu 10 17 HT_ ?_
 refine pu 14 21 HT_ ?_
 refine pu 15 22 HT_ ?_
 refine pu 16 23 HT_ ?_
 refine pu 18 25 HT_ ?_
 refine pu 21 28 HT_ ?_
 refine pu 22 29 HT_ ?_
 refine pu 24 31 HT_ ?_
 refine tk 3 10 HT_ HW_ hHeld ?_
 refine tk 5 12 HT_ HW_ hHeld ?_
 refine tk 9 16 HT_ HW_ hHeld ?_
 refine tk 11 18 HT_ HW_ hHeld ?_
 refine tk 17 24 HT_ HW_ hHeld ?_
 refine tk 19 26 HT_ HW_ hHeld ?_
 refine tk 23 30 HT_ HW_ hHeld ?_
 refine tk 25 32 HT_ HW_ hHeld ?_
 refine on 6 13 HT_ (fun K hK => ?_)
 refine gsc Tryz.func99 (fd_mul.calls a0 a1_0 a2_0 t119 _ A4.out) (fun w14 hb => ?_)
 replace BK116 := bkb BK116 hb
 replace BK117 := bkb BK117 hb
 replace BK118 := bkb BK118 hb
 replace HB := bls HB hb
 (try clear hb)
 (try clear hb2)
 (try clear hk)
 (try clear hi)
 refine hK.out _ _ ⟨(zc BK116.out 0).trans rfl, (zc BK116.out 1).trans rfl, (zc BK117.out 0).trans rfl, (zc BK117.out 1).trans rfl⟩ (fun hHeld => ?_)
 clear hK K
 refine nm 13 ?_
 refine on 12 19 HT_ (fun K hK => ?_)
 refine gsc Tryz.func99 (fd_mul.calls a0 a1_1 a2_1 t120 _ A5.out) (fun w15 hb => ?_)
 replace BK116 := bkb BK116 hb
 replace BK117 := bkb BK117 hb
 replace BK118 := bkb BK118 hb
 replace HB := bls HB hb
 (try clear hb)
 (try clear hb2)
 (try clear hk)
 (try clear hi)
 refine hK.out _ _ ⟨(zc BK116.out 0).trans rfl, (zc BK116.out 1).trans rfl, (zc BK117.out 0).trans rfl, (zc BK117.out 1).trans rfl⟩ (fun hHeld => ?_)
 clear hK K
 refine nm 19 ?_
 refine on 13 20 HT_ (fun K hK => ?_)
 refine gsc Tryz.func98 (fd_sub.calls a0 t119 t120 t121 _ A6.out) (fun w16 hb => ?_)
 replace BK116 := bkb BK116 hb
 replace BK117 := bkb BK117 hb
 replace BK118 := bkb BK118 hb
 replace HB := bls HB hb
 (try clear hb)
 (try clear hb2)
 (try clear hk)
 (try clear hi)
 refine hK.out _ _ ⟨(zc BK116.out 0).trans rfl, (zc BK116.out 1).trans rfl, (zc BK117.out 0).trans rfl, (zc BK117.out 1).trans rfl⟩ (fun hHeld => ?_)
 clear hK K
 refine nm 20 ?_
 refine on 20 27 HT_ (fun K hK => ?_)
 refine gsc Tryz.func99 (fd_mul.calls a0 a1_0 a2_1 t122 _ A7.out) (fun w17 hb => ?_)
 replace BK116 := bkb BK116 hb
 replace BK117 := bkb BK117 hb
 replace BK118 := bkb BK118 hb
 replace HB := bls HB hb
 (try clear hb)
 (try clear hb2)
 (try clear hk)
 (try clear hi)
 refine hK.out _ _ ⟨(zc BK116.out 0).trans rfl, (zc BK116.out 1).trans rfl, (zc BK117.out 0).trans rfl, (zc BK117.out 1).trans rfl⟩ (fun hHeld => ?_)
 clear hK K
 refine nm 27 ?_
 refine on 26 33 HT_ (fun K hK => ?_)
 refine gsc Tryz.func99 (fd_mul.calls a0 a1_1 a2_0 t123 _ A8.out) (fun w18 hb => ?_)
 replace BK116 := bkb BK116 hb
 replace BK117 := bkb BK117 hb
 replace BK118 := bkb BK118 hb
 replace HB := bls HB hb
 (try clear hb)
 (try clear hb2)
 (try clear hk)
 (try clear hi)
 refine hK.out _ _ ⟨(zc BK116.out 0).trans rfl, (zc BK116.out 1).trans rfl, (zc BK117.out 0).trans rfl, (zc BK117.out 1).trans rfl⟩ (fun hHeld => ?_)
 clear hK K
 refine nm 33 ?_
 refine on 27 34 HT_ (fun K hK => ?_)
 refine gsc Tryz.func97 (fd_add.calls a0 t122 t123 t124 _ A9.out) (fun w19 hb => ?_)
 replace BK116 := bkb BK116 hb
 replace BK117 := bkb BK117 hb
 replace BK118 := bkb BK118 hb
 replace HB := bls HB hb
 (try clear hb)
 (try clear hb2)
 (try clear hk)
 (try clear hi)
 refine hK.out _ _ ⟨(zc BK116.out 0).trans rfl, (zc BK116.out 1).trans rfl, (zc BK117.out 0).trans rfl, (zc BK117.out 1).trans rfl⟩ (fun hHeld => ?_)
 clear hK K
 refine nm 34 ?_
 refine pu 28 35 HT_ ?_
 refine one_ (i := 29) (N := none) #[true, true, true, true, true, true, true, true, true, true, true, true, true, true, true, true, true, true, true, true, true, true, true, true, true, true, true, true, true, true] rfl rfl (one_of HT_.out (by kernel_rfl)) (by decide) (fun K hK => ?_)
 have hs20 : w19.cell? ⟨gb118, 0, none⟩ = some (.int .u64 0) := (zc BK118.out 0).trans rfl
 have hfs20 := zf BK118.out 0
 have hns20_0 := NB116_118.out
 have hns20_1 := NB117_118.out
 have hms20_0 := NB118_116.out
 have hms20_1 := NB118_117.out
 have hs21 : w19.cell? ⟨gb118, 1, none⟩ = some (.int .u64 0) := (zc BK118.out 1).trans rfl
 have hfs21 := zf BK118.out 1
 have hns21_0 := NB116_118.out
 have hns21_1 := NB117_118.out
 have hms21_0 := NB118_116.out
 have hms21_1 := NB118_117.out
 refine skip_ (w1 := ?_) (by rfl) rfl ?_ ?_
 rotate_left
 ·go_simp
  rfl
 refine hK.out _ _ ⟨((cell_far (p := ⟨gb118, _, none⟩) NB116_118.out _).trans (((cell_far (p := ⟨gb118, _, none⟩) NB116_118.out _).trans (hHeld.1)))), ((cell_far (p := ⟨gb118, _, none⟩) NB116_118.out _).trans (((cell_far (p := ⟨gb118, _, none⟩) NB116_118.out _).trans (hHeld.2.1)))), ((cell_far (p := ⟨gb118, _, none⟩) NB117_118.out _).trans (((cell_far (p := ⟨gb118, _, none⟩) NB117_118.out _).trans (hHeld.2.2.1)))), ((cell_far (p := ⟨gb118, _, none⟩) NB117_118.out _).trans (((cell_far (p := ⟨gb118, _, none⟩) NB117_118.out _).trans (hHeld.2.2.2))))⟩ (fun hHeld => ?_)
 clear hK K
 refine done_ (done_of HT_.out (by kernel_rfl)) ?_
 try go_wp2
 refine bodyPost_ret (results_cell_row rfl _ _ gb118 74 #[.int .u64 t121, .int .u64 t124] (0, 0) _ rfl (by (with_reducible repeat (first | refine zn ?_ _ | refine zd ?_ | refine za ?_ _)); apply bp2; (with_reducible repeat (first | refine zn ?_ _ | refine zd ?_ | refine za ?_ _)); exact BK118.out) Tryz.underlying74 rfl (by kernel_rfl)) rfl ?_
 exact fin_ (blt HB)
def fd_order.f (a0 : Int) (a1 : Int) (a2 : Int) : Option (Int) := (rl_Compare.f a0 a1 a2).bind fun bt125 => (some bt125.1)
set_option maxHeartbeats 8000000 in
set_option maxRecDepth 100000 in
theorem fd_order.calls (a0 : Int) (a1 : Int) (a2 : Int) (r : Int) (w : World) (h : fd_order.f a0 a1 a2 = some r) :
  Calls Tryz.prog 92 #[.int .i64 a0, .int .u64 a1, .int .u64 a2] w fun e w' => e = .returned (.int .i64 r) ∧ Below w.heap.size w w' := by
 have HB := Zs.mk (Below.refl w.heap.size w)
 have H : ((rl_Compare.f a0 a1 a2).bind fun bt125 => (some bt125.1)) = some r := h
 clear h
 replace H := Option.bind_eq_some_iff.mp H
 obtain ⟨⟨t125, t126⟩, A4, H⟩ := H
 try dsimp only at H
 replace A4 := Zs.mk A4
 obtain rfl := Option.some.inj H
 go_enter Tryz.func92, Tryz.ntmps92
 go_wp2_with (first | ((with_reducible refine gc_ (f := 127) rfl ?_); refine gLc 13 Tryz.func127 (rl_Compare.calls a0 a1 a2 t125 t126 _ A4.out) (fun w5 hb => ?_); replace HB := bls HB hb; clear hb))
 go_ret
 exact fin_ (blt HB)
def fd_size.f (a0 : Int) (a1 : Int) : Option (Int) := (rl_SizeOf.f a0 a1).bind fun bt127 => (some bt127.1)
set_option maxHeartbeats 8000000 in
set_option maxRecDepth 100000 in
theorem fd_size.calls (a0 : Int) (a1 : Int) (r : Int) (w : World) (h : fd_size.f a0 a1 = some r) :
  Calls Tryz.prog 100 #[.int .i64 a0, .int .u64 a1] w fun e w' => e = .returned (.int .u64 r) ∧ Below w.heap.size w w' := by
 have HB := Zs.mk (Below.refl w.heap.size w)
 have H : ((rl_SizeOf.f a0 a1).bind fun bt127 => (some bt127.1)) = some r := h
 clear h
 replace H := Option.bind_eq_some_iff.mp H
 obtain ⟨⟨t127, t128⟩, A3, H⟩ := H
 try dsimp only at H
 replace A3 := Zs.mk A3
 obtain rfl := Option.some.inj H
 go_enter Tryz.func100, Tryz.ntmps100
 go_wp2_with (first | ((with_reducible refine gc_ (f := 136) rfl ?_); refine gLc 10 Tryz.func136 (rl_SizeOf.calls a0 a1 t127 t128 _ A3.out) (fun w4 hb => ?_); replace HB := bls HB hb; clear hb))
 go_ret
 exact fin_ (blt HB)
def fd_div.f (a0 : Int) (a1 : Int) (a2 : Int) : Option (Int) := (fd_operation.f a0 3 a1 a2).bind fun t129 => (some t129)
set_option maxHeartbeats 8000000 in
set_option maxRecDepth 100000 in
theorem fd_div.calls (a0 : Int) (a1 : Int) (a2 : Int) (r : Int) (w : World) (h : fd_div.f a0 a1 a2 = some r) :
  Calls Tryz.prog 101 #[.int .i64 a0, .int .u64 a1, .int .u64 a2] w fun e w' => e = .returned (.int .u64 r) ∧ Below w.heap.size w w' := by
 have HB := Zs.mk (Below.refl w.heap.size w)
 have H : ((fd_operation.f a0 3 a1 a2).bind fun t129 => (some t129)) = some r := h
 clear h
 replace H := Option.bind_eq_some_iff.mp H
 obtain ⟨t129, A4, H⟩ := H
 try dsimp only at H
 replace A4 := Zs.mk A4
 obtain rfl := Option.some.inj H
 go_enter Tryz.func101, Tryz.ntmps101
 go_wp2_with (first | ((with_reducible refine gc_ (f := 120) rfl ?_); refine gLc 10 Tryz.func120 (fd_operation.calls a0 3 a1 a2 t129 _ A4.out) (fun w5 hb => ?_); replace HB := bls HB hb; clear hb))
 go_ret
 exact fin_ (blt HB)
def fd_over.f (a0 : Int) (a1_0 : Int) (a1_1 : Int) (a2_0 : Int) (a2_1 : Int) : Option (Int × Int) := (fd_size.f a0 a2_0).bind fun t133 => ((fd_size.f a0 a2_1).bind fun t134 => ((fd_order.f a0 t133 t134).bind fun t135 => (if t135 ≥ 0 then ((fd_div.f a0 a2_1 a2_0).bind fun t136 => ((fd_mul.f a0 t136 a2_1).bind fun t137 => ((fd_add.f a0 a2_0 t137).bind fun t138 => ((fd_mul.f a0 a1_1 t136).bind fun t139 => ((fd_add.f a0 a1_0 t139).bind fun t140 => ((fd_div.f a0 t140 t138).bind fun t141 => ((fd_mul.f a0 a1_0 t136).bind fun t142 => ((fd_sub.f a0 a1_1 t142).bind fun t143 => ((fd_div.f a0 t143 t138).bind fun t144 => (some (t141, t144))))))))))) else ((fd_div.f a0 a2_0 a2_1).bind fun t145 => ((fd_mul.f a0 t145 a2_0).bind fun t146 => ((fd_add.f a0 a2_1 t146).bind fun t147 => ((fd_mul.f a0 a1_0 t145).bind fun t148 => ((fd_add.f a0 t148 a1_1).bind fun t149 => ((fd_div.f a0 t149 t147).bind fun t150 => ((fd_mul.f a0 a1_1 t145).bind fun t151 => ((fd_sub.f a0 t151 a1_0).bind fun t152 => ((fd_div.f a0 t152 t147).bind fun t153 => (some (t150, t153))))))))))))))
set_option maxHeartbeats 8000000 in
set_option maxRecDepth 100000 in
theorem fd_over.calls (a0 : Int) (a1_0 : Int) (a1_1 : Int) (a2_0 : Int) (a2_1 : Int) (r1 : Int) (r2 : Int) (w : World) (h : fd_over.f a0 a1_0 a1_1 a2_0 a2_1 = some (r1, r2)) :
  Calls Tryz.prog 56 #[.int .i64 a0, .agg #[.int .u64 a1_0, .int .u64 a1_1], .agg #[.int .u64 a2_0, .int .u64 a2_1]] w fun e w' => e = .returned (.agg #[.int .u64 r1, .int .u64 r2]) ∧ Below w.heap.size w w' := by
 have hu74 := Tryz.underlying74
 have HB := Zs.mk (Below.refl w.heap.size w)
 have H : ((fd_size.f a0 a2_0).bind fun t133 => ((fd_size.f a0 a2_1).bind fun t134 => ((fd_order.f a0 t133 t134).bind fun t135 => (if t135 ≥ 0 then ((fd_div.f a0 a2_1 a2_0).bind fun t136 => ((fd_mul.f a0 t136 a2_1).bind fun t137 => ((fd_add.f a0 a2_0 t137).bind fun t138 => ((fd_mul.f a0 a1_1 t136).bind fun t139 => ((fd_add.f a0 a1_0 t139).bind fun t140 => ((fd_div.f a0 t140 t138).bind fun t141 => ((fd_mul.f a0 a1_0 t136).bind fun t142 => ((fd_sub.f a0 a1_1 t142).bind fun t143 => ((fd_div.f a0 t143 t138).bind fun t144 => (some (t141, t144))))))))))) else ((fd_div.f a0 a2_0 a2_1).bind fun t145 => ((fd_mul.f a0 t145 a2_0).bind fun t146 => ((fd_add.f a0 a2_1 t146).bind fun t147 => ((fd_mul.f a0 a1_0 t145).bind fun t148 => ((fd_add.f a0 t148 a1_1).bind fun t149 => ((fd_div.f a0 t149 t147).bind fun t150 => ((fd_mul.f a0 a1_1 t145).bind fun t151 => ((fd_sub.f a0 t151 a1_0).bind fun t152 => ((fd_div.f a0 t152 t147).bind fun t153 => (some (t150, t153))))))))))))))) = some (r1, r2) := h
 clear h
 replace H := Option.bind_eq_some_iff.mp H
 obtain ⟨t133, A4, H⟩ := H
 try dsimp only at H
 replace A4 := Zs.mk A4
 replace H := Option.bind_eq_some_iff.mp H
 obtain ⟨t134, A5, H⟩ := H
 try dsimp only at H
 replace A5 := Zs.mk A5
 replace H := Option.bind_eq_some_iff.mp H
 obtain ⟨t135, A6, H⟩ := H
 try dsimp only at H
 replace A6 := Zs.mk A6
 by_cases c7 : t135 ≥ 0
 ·rw [if_pos c7] at H
  have c7b0 : decide (0 ≤ t135) = true := decide_eq_true c7
  clear c7
  replace H := Option.bind_eq_some_iff.mp H
  obtain ⟨t136, A8, H⟩ := H
  try dsimp only at H
  replace A8 := Zs.mk A8
  replace H := Option.bind_eq_some_iff.mp H
  obtain ⟨t137, A9, H⟩ := H
  try dsimp only at H
  replace A9 := Zs.mk A9
  replace H := Option.bind_eq_some_iff.mp H
  obtain ⟨t138, A10, H⟩ := H
  try dsimp only at H
  replace A10 := Zs.mk A10
  replace H := Option.bind_eq_some_iff.mp H
  obtain ⟨t139, A11, H⟩ := H
  try dsimp only at H
  replace A11 := Zs.mk A11
  replace H := Option.bind_eq_some_iff.mp H
  obtain ⟨t140, A12, H⟩ := H
  try dsimp only at H
  replace A12 := Zs.mk A12
  replace H := Option.bind_eq_some_iff.mp H
  obtain ⟨t141, A13, H⟩ := H
  try dsimp only at H
  replace A13 := Zs.mk A13
  replace H := Option.bind_eq_some_iff.mp H
  obtain ⟨t142, A14, H⟩ := H
  try dsimp only at H
  replace A14 := Zs.mk A14
  replace H := Option.bind_eq_some_iff.mp H
  obtain ⟨t143, A15, H⟩ := H
  try dsimp only at H
  replace A15 := Zs.mk A15
  replace H := Option.bind_eq_some_iff.mp H
  obtain ⟨t144, A16, H⟩ := H
  try dsimp only at H
  replace A16 := Zs.mk A16
  simp only [Option.some.injEq, Prod.mk.injEq] at H
  obtain ⟨rfl, rfl⟩ := H
  go_enter Tryz.func56, Tryz.ntmps56
  go_wp2_with (first | ((with_reducible refine gd_ (N := 4) rfl ?_); refine bxe 4 (cs := #[.int .u64 a1_0, .int .u64 a1_1]) (t := 74) ?_; intro gb130 hg w17 hbox hb; have BK130 := Zs.mk hbox; have GW130 := bsz HB hg; have GE130 := bsz HB hg; replace HB := bls HB hb; clear hb hbox hg) | ((with_reducible refine gd_ (N := 5) rfl ?_); refine bxe 5 (cs := #[.int .u64 a2_0, .int .u64 a2_1]) (t := 74) ?_; intro gb131 hg w18 hbox hb; have BK131 := Zs.mk hbox; have GW131 := bsz HB hg; have GE131 := bsz HB hg; have NB130_131 := bnl BK130 hg; have NB131_130 := bng BK130 hg; replace BK130 := bkb BK130 hb; replace HB := bls HB hb; clear hb hbox hg) | ((with_reducible refine gd_ (N := 6) rfl ?_); refine bxe 6 (cs := #[.int .u64 0, .int .u64 0]) (t := 74) ?_; intro gb132 hg w19 hbox hb; have BK132 := Zs.mk hbox; have GW132 := bsz HB hg; have GE132 := bsz HB hg; have NB130_132 := bnl BK130 hg; have NB132_130 := bng BK130 hg; have NB131_132 := bnl BK131 hg; have NB132_131 := bng BK131 hg; replace BK130 := bkb BK130 hb; replace BK131 := bkb BK131 hb; replace HB := bls HB hb; clear hb hbox hg; have hnb20 := NB130_131.out; have hnc20 := NB131_130.out; have hnb21 := NB130_132.out; have hnc21 := NB132_130.out; obtain ⟨hcz22_0, hcz22_1, hfz22_0, hfz22_1⟩ := cf2 BK130; have hnb23 := NB131_132.out; have hnc23 := NB132_131.out; obtain ⟨hcz24_0, hcz24_1, hfz24_0, hfz24_1⟩ := cf2 BK131) | (go_at_call 100; (with_reducible refine (fd_size.calls a0 a2_0 t133 _ A4.out).mono ?_); rintro e w25 ⟨rfl, hb⟩; replace BK130 := bkb BK130 hb; replace BK131 := bkb BK131 hb; replace BK132 := bkb BK132 hb; replace HB := bls HB hb; clear hb) | (go_at_call 100; (with_reducible refine (fd_size.calls a0 a2_1 t134 _ A5.out).mono ?_); rintro e w26 ⟨rfl, hb⟩; replace BK130 := bkb BK130 hb; replace BK131 := bkb BK131 hb; replace BK132 := bkb BK132 hb; replace HB := bls HB hb; clear hb) | (go_at_call 92; (with_reducible refine (fd_order.calls a0 t133 t134 t135 _ A6.out).mono ?_); rintro e w27 ⟨rfl, hb⟩; replace BK130 := bkb BK130 hb; replace BK131 := bkb BK131 hb; replace BK132 := bkb BK132 hb; replace HB := bls HB hb; clear hb) | (go_at_call 101; (with_reducible refine (fd_div.calls a0 a2_1 a2_0 t136 _ A8.out).mono ?_); rintro e w28 ⟨rfl, hb⟩; replace BK130 := bkb BK130 hb; replace BK131 := bkb BK131 hb; replace BK132 := bkb BK132 hb; replace HB := bls HB hb; clear hb) | (go_at_call 99; (with_reducible refine (fd_mul.calls a0 t136 a2_1 t137 _ A9.out).mono ?_); rintro e w29 ⟨rfl, hb⟩; replace BK130 := bkb BK130 hb; replace BK131 := bkb BK131 hb; replace BK132 := bkb BK132 hb; replace HB := bls HB hb; clear hb) | (go_at_call 97; (with_reducible refine (fd_add.calls a0 a2_0 t137 t138 _ A10.out).mono ?_); rintro e w30 ⟨rfl, hb⟩; replace BK130 := bkb BK130 hb; replace BK131 := bkb BK131 hb; replace BK132 := bkb BK132 hb; replace HB := bls HB hb; clear hb) | (go_at_call 99; (with_reducible refine (fd_mul.calls a0 a1_1 t136 t139 _ A11.out).mono ?_); rintro e w31 ⟨rfl, hb⟩; replace BK130 := bkb BK130 hb; replace BK131 := bkb BK131 hb; replace BK132 := bkb BK132 hb; replace HB := bls HB hb; clear hb) | (go_at_call 97; (with_reducible refine (fd_add.calls a0 a1_0 t139 t140 _ A12.out).mono ?_); rintro e w32 ⟨rfl, hb⟩; replace BK130 := bkb BK130 hb; replace BK131 := bkb BK131 hb; replace BK132 := bkb BK132 hb; replace HB := bls HB hb; clear hb) | (go_at_call 101; (with_reducible refine (fd_div.calls a0 t140 t138 t141 _ A13.out).mono ?_); rintro e w33 ⟨rfl, hb⟩; replace BK130 := bkb BK130 hb; replace BK131 := bkb BK131 hb; replace BK132 := bkb BK132 hb; replace HB := bls HB hb; clear hb) | (go_at_call 99; (with_reducible refine (fd_mul.calls a0 a1_0 t136 t142 _ A14.out).mono ?_); rintro e w34 ⟨rfl, hb⟩; replace BK130 := bkb BK130 hb; replace BK131 := bkb BK131 hb; replace BK132 := bkb BK132 hb; replace HB := bls HB hb; clear hb) | (go_at_call 98; (with_reducible refine (fd_sub.calls a0 a1_1 t142 t143 _ A15.out).mono ?_); rintro e w35 ⟨rfl, hb⟩; replace BK130 := bkb BK130 hb; replace BK131 := bkb BK131 hb; replace BK132 := bkb BK132 hb; replace HB := bls HB hb; clear hb) | (go_at_call 101; (with_reducible refine (fd_div.calls a0 t143 t138 t144 _ A16.out).mono ?_); rintro e w36 ⟨rfl, hb⟩; replace BK130 := bkb BK130 hb; replace BK131 := bkb BK131 hb; replace BK132 := bkb BK132 hb; replace HB := bls HB hb; clear hb; obtain ⟨hcz37_0, hcz37_1, hfz37_0, hfz37_1⟩ := cf2 BK132))
  repeat (go_quiet (first | ((with_reducible refine gd_ (N := 4) rfl ?_); refine bxe 4 (cs := #[.int .u64 a1_0, .int .u64 a1_1]) (t := 74) ?_; intro gb130 hg w17 hbox hb; have BK130 := Zs.mk hbox; have GW130 := bsz HB hg; have GE130 := bsz HB hg; replace HB := bls HB hb; clear hb hbox hg) | ((with_reducible refine gd_ (N := 5) rfl ?_); refine bxe 5 (cs := #[.int .u64 a2_0, .int .u64 a2_1]) (t := 74) ?_; intro gb131 hg w18 hbox hb; have BK131 := Zs.mk hbox; have GW131 := bsz HB hg; have GE131 := bsz HB hg; have NB130_131 := bnl BK130 hg; have NB131_130 := bng BK130 hg; replace BK130 := bkb BK130 hb; replace HB := bls HB hb; clear hb hbox hg) | ((with_reducible refine gd_ (N := 6) rfl ?_); refine bxe 6 (cs := #[.int .u64 0, .int .u64 0]) (t := 74) ?_; intro gb132 hg w19 hbox hb; have BK132 := Zs.mk hbox; have GW132 := bsz HB hg; have GE132 := bsz HB hg; have NB130_132 := bnl BK130 hg; have NB132_130 := bng BK130 hg; have NB131_132 := bnl BK131 hg; have NB132_131 := bng BK131 hg; replace BK130 := bkb BK130 hb; replace BK131 := bkb BK131 hb; replace HB := bls HB hb; clear hb hbox hg; have hnb20 := NB130_131.out; have hnc20 := NB131_130.out; have hnb21 := NB130_132.out; have hnc21 := NB132_130.out; obtain ⟨hcz22_0, hcz22_1, hfz22_0, hfz22_1⟩ := cf2 BK130; have hnb23 := NB131_132.out; have hnc23 := NB132_131.out; obtain ⟨hcz24_0, hcz24_1, hfz24_0, hfz24_1⟩ := cf2 BK131) | (go_at_call 100; (with_reducible refine (fd_size.calls a0 a2_0 t133 _ A4.out).mono ?_); rintro e w25 ⟨rfl, hb⟩; replace BK130 := bkb BK130 hb; replace BK131 := bkb BK131 hb; replace BK132 := bkb BK132 hb; replace HB := bls HB hb; clear hb) | (go_at_call 100; (with_reducible refine (fd_size.calls a0 a2_1 t134 _ A5.out).mono ?_); rintro e w26 ⟨rfl, hb⟩; replace BK130 := bkb BK130 hb; replace BK131 := bkb BK131 hb; replace BK132 := bkb BK132 hb; replace HB := bls HB hb; clear hb) | (go_at_call 92; (with_reducible refine (fd_order.calls a0 t133 t134 t135 _ A6.out).mono ?_); rintro e w27 ⟨rfl, hb⟩; replace BK130 := bkb BK130 hb; replace BK131 := bkb BK131 hb; replace BK132 := bkb BK132 hb; replace HB := bls HB hb; clear hb) | (go_at_call 101; (with_reducible refine (fd_div.calls a0 a2_1 a2_0 t136 _ A8.out).mono ?_); rintro e w28 ⟨rfl, hb⟩; replace BK130 := bkb BK130 hb; replace BK131 := bkb BK131 hb; replace BK132 := bkb BK132 hb; replace HB := bls HB hb; clear hb) | (go_at_call 99; (with_reducible refine (fd_mul.calls a0 t136 a2_1 t137 _ A9.out).mono ?_); rintro e w29 ⟨rfl, hb⟩; replace BK130 := bkb BK130 hb; replace BK131 := bkb BK131 hb; replace BK132 := bkb BK132 hb; replace HB := bls HB hb; clear hb) | (go_at_call 97; (with_reducible refine (fd_add.calls a0 a2_0 t137 t138 _ A10.out).mono ?_); rintro e w30 ⟨rfl, hb⟩; replace BK130 := bkb BK130 hb; replace BK131 := bkb BK131 hb; replace BK132 := bkb BK132 hb; replace HB := bls HB hb; clear hb) | (go_at_call 99; (with_reducible refine (fd_mul.calls a0 a1_1 t136 t139 _ A11.out).mono ?_); rintro e w31 ⟨rfl, hb⟩; replace BK130 := bkb BK130 hb; replace BK131 := bkb BK131 hb; replace BK132 := bkb BK132 hb; replace HB := bls HB hb; clear hb) | (go_at_call 97; (with_reducible refine (fd_add.calls a0 a1_0 t139 t140 _ A12.out).mono ?_); rintro e w32 ⟨rfl, hb⟩; replace BK130 := bkb BK130 hb; replace BK131 := bkb BK131 hb; replace BK132 := bkb BK132 hb; replace HB := bls HB hb; clear hb) | (go_at_call 101; (with_reducible refine (fd_div.calls a0 t140 t138 t141 _ A13.out).mono ?_); rintro e w33 ⟨rfl, hb⟩; replace BK130 := bkb BK130 hb; replace BK131 := bkb BK131 hb; replace BK132 := bkb BK132 hb; replace HB := bls HB hb; clear hb) | (go_at_call 99; (with_reducible refine (fd_mul.calls a0 a1_0 t136 t142 _ A14.out).mono ?_); rintro e w34 ⟨rfl, hb⟩; replace BK130 := bkb BK130 hb; replace BK131 := bkb BK131 hb; replace BK132 := bkb BK132 hb; replace HB := bls HB hb; clear hb) | (go_at_call 98; (with_reducible refine (fd_sub.calls a0 a1_1 t142 t143 _ A15.out).mono ?_); rintro e w35 ⟨rfl, hb⟩; replace BK130 := bkb BK130 hb; replace BK131 := bkb BK131 hb; replace BK132 := bkb BK132 hb; replace HB := bls HB hb; clear hb) | (go_at_call 101; (with_reducible refine (fd_div.calls a0 t143 t138 t144 _ A16.out).mono ?_); rintro e w36 ⟨rfl, hb⟩; replace BK130 := bkb BK130 hb; replace BK131 := bkb BK131 hb; replace BK132 := bkb BK132 hb; replace HB := bls HB hb; clear hb; obtain ⟨hcz37_0, hcz37_1, hfz37_0, hfz37_1⟩ := cf2 BK132)); try go_wp2_with (first | ((with_reducible refine gd_ (N := 4) rfl ?_); refine bxe 4 (cs := #[.int .u64 a1_0, .int .u64 a1_1]) (t := 74) ?_; intro gb130 hg w17 hbox hb; have BK130 := Zs.mk hbox; have GW130 := bsz HB hg; have GE130 := bsz HB hg; replace HB := bls HB hb; clear hb hbox hg) | ((with_reducible refine gd_ (N := 5) rfl ?_); refine bxe 5 (cs := #[.int .u64 a2_0, .int .u64 a2_1]) (t := 74) ?_; intro gb131 hg w18 hbox hb; have BK131 := Zs.mk hbox; have GW131 := bsz HB hg; have GE131 := bsz HB hg; have NB130_131 := bnl BK130 hg; have NB131_130 := bng BK130 hg; replace BK130 := bkb BK130 hb; replace HB := bls HB hb; clear hb hbox hg) | ((with_reducible refine gd_ (N := 6) rfl ?_); refine bxe 6 (cs := #[.int .u64 0, .int .u64 0]) (t := 74) ?_; intro gb132 hg w19 hbox hb; have BK132 := Zs.mk hbox; have GW132 := bsz HB hg; have GE132 := bsz HB hg; have NB130_132 := bnl BK130 hg; have NB132_130 := bng BK130 hg; have NB131_132 := bnl BK131 hg; have NB132_131 := bng BK131 hg; replace BK130 := bkb BK130 hb; replace BK131 := bkb BK131 hb; replace HB := bls HB hb; clear hb hbox hg; have hnb20 := NB130_131.out; have hnc20 := NB131_130.out; have hnb21 := NB130_132.out; have hnc21 := NB132_130.out; obtain ⟨hcz22_0, hcz22_1, hfz22_0, hfz22_1⟩ := cf2 BK130; have hnb23 := NB131_132.out; have hnc23 := NB132_131.out; obtain ⟨hcz24_0, hcz24_1, hfz24_0, hfz24_1⟩ := cf2 BK131) | (go_at_call 100; (with_reducible refine (fd_size.calls a0 a2_0 t133 _ A4.out).mono ?_); rintro e w25 ⟨rfl, hb⟩; replace BK130 := bkb BK130 hb; replace BK131 := bkb BK131 hb; replace BK132 := bkb BK132 hb; replace HB := bls HB hb; clear hb) | (go_at_call 100; (with_reducible refine (fd_size.calls a0 a2_1 t134 _ A5.out).mono ?_); rintro e w26 ⟨rfl, hb⟩; replace BK130 := bkb BK130 hb; replace BK131 := bkb BK131 hb; replace BK132 := bkb BK132 hb; replace HB := bls HB hb; clear hb) | (go_at_call 92; (with_reducible refine (fd_order.calls a0 t133 t134 t135 _ A6.out).mono ?_); rintro e w27 ⟨rfl, hb⟩; replace BK130 := bkb BK130 hb; replace BK131 := bkb BK131 hb; replace BK132 := bkb BK132 hb; replace HB := bls HB hb; clear hb) | (go_at_call 101; (with_reducible refine (fd_div.calls a0 a2_1 a2_0 t136 _ A8.out).mono ?_); rintro e w28 ⟨rfl, hb⟩; replace BK130 := bkb BK130 hb; replace BK131 := bkb BK131 hb; replace BK132 := bkb BK132 hb; replace HB := bls HB hb; clear hb) | (go_at_call 99; (with_reducible refine (fd_mul.calls a0 t136 a2_1 t137 _ A9.out).mono ?_); rintro e w29 ⟨rfl, hb⟩; replace BK130 := bkb BK130 hb; replace BK131 := bkb BK131 hb; replace BK132 := bkb BK132 hb; replace HB := bls HB hb; clear hb) | (go_at_call 97; (with_reducible refine (fd_add.calls a0 a2_0 t137 t138 _ A10.out).mono ?_); rintro e w30 ⟨rfl, hb⟩; replace BK130 := bkb BK130 hb; replace BK131 := bkb BK131 hb; replace BK132 := bkb BK132 hb; replace HB := bls HB hb; clear hb) | (go_at_call 99; (with_reducible refine (fd_mul.calls a0 a1_1 t136 t139 _ A11.out).mono ?_); rintro e w31 ⟨rfl, hb⟩; replace BK130 := bkb BK130 hb; replace BK131 := bkb BK131 hb; replace BK132 := bkb BK132 hb; replace HB := bls HB hb; clear hb) | (go_at_call 97; (with_reducible refine (fd_add.calls a0 a1_0 t139 t140 _ A12.out).mono ?_); rintro e w32 ⟨rfl, hb⟩; replace BK130 := bkb BK130 hb; replace BK131 := bkb BK131 hb; replace BK132 := bkb BK132 hb; replace HB := bls HB hb; clear hb) | (go_at_call 101; (with_reducible refine (fd_div.calls a0 t140 t138 t141 _ A13.out).mono ?_); rintro e w33 ⟨rfl, hb⟩; replace BK130 := bkb BK130 hb; replace BK131 := bkb BK131 hb; replace BK132 := bkb BK132 hb; replace HB := bls HB hb; clear hb) | (go_at_call 99; (with_reducible refine (fd_mul.calls a0 a1_0 t136 t142 _ A14.out).mono ?_); rintro e w34 ⟨rfl, hb⟩; replace BK130 := bkb BK130 hb; replace BK131 := bkb BK131 hb; replace BK132 := bkb BK132 hb; replace HB := bls HB hb; clear hb) | (go_at_call 98; (with_reducible refine (fd_sub.calls a0 a1_1 t142 t143 _ A15.out).mono ?_); rintro e w35 ⟨rfl, hb⟩; replace BK130 := bkb BK130 hb; replace BK131 := bkb BK131 hb; replace BK132 := bkb BK132 hb; replace HB := bls HB hb; clear hb) | (go_at_call 101; (with_reducible refine (fd_div.calls a0 t143 t138 t144 _ A16.out).mono ?_); rintro e w36 ⟨rfl, hb⟩; replace BK130 := bkb BK130 hb; replace BK131 := bkb BK131 hb; replace BK132 := bkb BK132 hb; replace HB := bls HB hb; clear hb; obtain ⟨hcz37_0, hcz37_1, hfz37_0, hfz37_1⟩ := cf2 BK132)))
  refine bodyPost_ret (results_cell_row rfl _ _ gb132 74 #[.int .u64 t141, .int .u64 t144] (0, 0) _ rfl (by (with_reducible repeat (first | refine zn ?_ _ | refine zd ?_ | refine za ?_ _)); apply bp2; (with_reducible repeat (first | refine zn ?_ _ | refine zd ?_ | refine za ?_ _)); exact BK132.out) Tryz.underlying74 rfl (by kernel_rfl)) rfl ?_
  exact fin_ (blt HB)
 ·rw [if_neg c7] at H
  have c7b0 : decide (0 ≤ t135) = false := decide_eq_false c7
  clear c7
  replace H := Option.bind_eq_some_iff.mp H
  obtain ⟨t145, A38, H⟩ := H
  try dsimp only at H
  replace A38 := Zs.mk A38
  replace H := Option.bind_eq_some_iff.mp H
  obtain ⟨t146, A39, H⟩ := H
  try dsimp only at H
  replace A39 := Zs.mk A39
  replace H := Option.bind_eq_some_iff.mp H
  obtain ⟨t147, A40, H⟩ := H
  try dsimp only at H
  replace A40 := Zs.mk A40
  replace H := Option.bind_eq_some_iff.mp H
  obtain ⟨t148, A41, H⟩ := H
  try dsimp only at H
  replace A41 := Zs.mk A41
  replace H := Option.bind_eq_some_iff.mp H
  obtain ⟨t149, A42, H⟩ := H
  try dsimp only at H
  replace A42 := Zs.mk A42
  replace H := Option.bind_eq_some_iff.mp H
  obtain ⟨t150, A43, H⟩ := H
  try dsimp only at H
  replace A43 := Zs.mk A43
  replace H := Option.bind_eq_some_iff.mp H
  obtain ⟨t151, A44, H⟩ := H
  try dsimp only at H
  replace A44 := Zs.mk A44
  replace H := Option.bind_eq_some_iff.mp H
  obtain ⟨t152, A45, H⟩ := H
  try dsimp only at H
  replace A45 := Zs.mk A45
  replace H := Option.bind_eq_some_iff.mp H
  obtain ⟨t153, A46, H⟩ := H
  try dsimp only at H
  replace A46 := Zs.mk A46
  simp only [Option.some.injEq, Prod.mk.injEq] at H
  obtain ⟨rfl, rfl⟩ := H
  go_enter Tryz.func56, Tryz.ntmps56
  go_wp2_with (first | ((with_reducible refine gd_ (N := 4) rfl ?_); refine bxe 4 (cs := #[.int .u64 a1_0, .int .u64 a1_1]) (t := 74) ?_; intro gb130 hg w47 hbox hb; have BK130 := Zs.mk hbox; have GW130 := bsz HB hg; have GE130 := bsz HB hg; replace HB := bls HB hb; clear hb hbox hg) | ((with_reducible refine gd_ (N := 5) rfl ?_); refine bxe 5 (cs := #[.int .u64 a2_0, .int .u64 a2_1]) (t := 74) ?_; intro gb131 hg w48 hbox hb; have BK131 := Zs.mk hbox; have GW131 := bsz HB hg; have GE131 := bsz HB hg; have NB130_131 := bnl BK130 hg; have NB131_130 := bng BK130 hg; replace BK130 := bkb BK130 hb; replace HB := bls HB hb; clear hb hbox hg) | ((with_reducible refine gd_ (N := 6) rfl ?_); refine bxe 6 (cs := #[.int .u64 0, .int .u64 0]) (t := 74) ?_; intro gb132 hg w49 hbox hb; have BK132 := Zs.mk hbox; have GW132 := bsz HB hg; have GE132 := bsz HB hg; have NB130_132 := bnl BK130 hg; have NB132_130 := bng BK130 hg; have NB131_132 := bnl BK131 hg; have NB132_131 := bng BK131 hg; replace BK130 := bkb BK130 hb; replace BK131 := bkb BK131 hb; replace HB := bls HB hb; clear hb hbox hg; have hnb50 := NB130_131.out; have hnc50 := NB131_130.out; have hnb51 := NB130_132.out; have hnc51 := NB132_130.out; obtain ⟨hcz52_0, hcz52_1, hfz52_0, hfz52_1⟩ := cf2 BK130; have hnb53 := NB131_132.out; have hnc53 := NB132_131.out; obtain ⟨hcz54_0, hcz54_1, hfz54_0, hfz54_1⟩ := cf2 BK131) | (go_at_call 100; (with_reducible refine (fd_size.calls a0 a2_0 t133 _ A4.out).mono ?_); rintro e w55 ⟨rfl, hb⟩; replace BK130 := bkb BK130 hb; replace BK131 := bkb BK131 hb; replace BK132 := bkb BK132 hb; replace HB := bls HB hb; clear hb) | (go_at_call 100; (with_reducible refine (fd_size.calls a0 a2_1 t134 _ A5.out).mono ?_); rintro e w56 ⟨rfl, hb⟩; replace BK130 := bkb BK130 hb; replace BK131 := bkb BK131 hb; replace BK132 := bkb BK132 hb; replace HB := bls HB hb; clear hb) | (go_at_call 92; (with_reducible refine (fd_order.calls a0 t133 t134 t135 _ A6.out).mono ?_); rintro e w57 ⟨rfl, hb⟩; replace BK130 := bkb BK130 hb; replace BK131 := bkb BK131 hb; replace BK132 := bkb BK132 hb; replace HB := bls HB hb; clear hb) | (go_at_call 101; (with_reducible refine (fd_div.calls a0 a2_0 a2_1 t145 _ A38.out).mono ?_); rintro e w58 ⟨rfl, hb⟩; replace BK130 := bkb BK130 hb; replace BK131 := bkb BK131 hb; replace BK132 := bkb BK132 hb; replace HB := bls HB hb; clear hb) | (go_at_call 99; (with_reducible refine (fd_mul.calls a0 t145 a2_0 t146 _ A39.out).mono ?_); rintro e w59 ⟨rfl, hb⟩; replace BK130 := bkb BK130 hb; replace BK131 := bkb BK131 hb; replace BK132 := bkb BK132 hb; replace HB := bls HB hb; clear hb) | (go_at_call 97; (with_reducible refine (fd_add.calls a0 a2_1 t146 t147 _ A40.out).mono ?_); rintro e w60 ⟨rfl, hb⟩; replace BK130 := bkb BK130 hb; replace BK131 := bkb BK131 hb; replace BK132 := bkb BK132 hb; replace HB := bls HB hb; clear hb) | (go_at_call 99; (with_reducible refine (fd_mul.calls a0 a1_0 t145 t148 _ A41.out).mono ?_); rintro e w61 ⟨rfl, hb⟩; replace BK130 := bkb BK130 hb; replace BK131 := bkb BK131 hb; replace BK132 := bkb BK132 hb; replace HB := bls HB hb; clear hb) | (go_at_call 97; (with_reducible refine (fd_add.calls a0 t148 a1_1 t149 _ A42.out).mono ?_); rintro e w62 ⟨rfl, hb⟩; replace BK130 := bkb BK130 hb; replace BK131 := bkb BK131 hb; replace BK132 := bkb BK132 hb; replace HB := bls HB hb; clear hb) | (go_at_call 101; (with_reducible refine (fd_div.calls a0 t149 t147 t150 _ A43.out).mono ?_); rintro e w63 ⟨rfl, hb⟩; replace BK130 := bkb BK130 hb; replace BK131 := bkb BK131 hb; replace BK132 := bkb BK132 hb; replace HB := bls HB hb; clear hb) | (go_at_call 99; (with_reducible refine (fd_mul.calls a0 a1_1 t145 t151 _ A44.out).mono ?_); rintro e w64 ⟨rfl, hb⟩; replace BK130 := bkb BK130 hb; replace BK131 := bkb BK131 hb; replace BK132 := bkb BK132 hb; replace HB := bls HB hb; clear hb) | (go_at_call 98; (with_reducible refine (fd_sub.calls a0 t151 a1_0 t152 _ A45.out).mono ?_); rintro e w65 ⟨rfl, hb⟩; replace BK130 := bkb BK130 hb; replace BK131 := bkb BK131 hb; replace BK132 := bkb BK132 hb; replace HB := bls HB hb; clear hb) | (go_at_call 101; (with_reducible refine (fd_div.calls a0 t152 t147 t153 _ A46.out).mono ?_); rintro e w66 ⟨rfl, hb⟩; replace BK130 := bkb BK130 hb; replace BK131 := bkb BK131 hb; replace BK132 := bkb BK132 hb; replace HB := bls HB hb; clear hb; obtain ⟨hcz67_0, hcz67_1, hfz67_0, hfz67_1⟩ := cf2 BK132))
  repeat (go_quiet (first | ((with_reducible refine gd_ (N := 4) rfl ?_); refine bxe 4 (cs := #[.int .u64 a1_0, .int .u64 a1_1]) (t := 74) ?_; intro gb130 hg w47 hbox hb; have BK130 := Zs.mk hbox; have GW130 := bsz HB hg; have GE130 := bsz HB hg; replace HB := bls HB hb; clear hb hbox hg) | ((with_reducible refine gd_ (N := 5) rfl ?_); refine bxe 5 (cs := #[.int .u64 a2_0, .int .u64 a2_1]) (t := 74) ?_; intro gb131 hg w48 hbox hb; have BK131 := Zs.mk hbox; have GW131 := bsz HB hg; have GE131 := bsz HB hg; have NB130_131 := bnl BK130 hg; have NB131_130 := bng BK130 hg; replace BK130 := bkb BK130 hb; replace HB := bls HB hb; clear hb hbox hg) | ((with_reducible refine gd_ (N := 6) rfl ?_); refine bxe 6 (cs := #[.int .u64 0, .int .u64 0]) (t := 74) ?_; intro gb132 hg w49 hbox hb; have BK132 := Zs.mk hbox; have GW132 := bsz HB hg; have GE132 := bsz HB hg; have NB130_132 := bnl BK130 hg; have NB132_130 := bng BK130 hg; have NB131_132 := bnl BK131 hg; have NB132_131 := bng BK131 hg; replace BK130 := bkb BK130 hb; replace BK131 := bkb BK131 hb; replace HB := bls HB hb; clear hb hbox hg; have hnb50 := NB130_131.out; have hnc50 := NB131_130.out; have hnb51 := NB130_132.out; have hnc51 := NB132_130.out; obtain ⟨hcz52_0, hcz52_1, hfz52_0, hfz52_1⟩ := cf2 BK130; have hnb53 := NB131_132.out; have hnc53 := NB132_131.out; obtain ⟨hcz54_0, hcz54_1, hfz54_0, hfz54_1⟩ := cf2 BK131) | (go_at_call 100; (with_reducible refine (fd_size.calls a0 a2_0 t133 _ A4.out).mono ?_); rintro e w55 ⟨rfl, hb⟩; replace BK130 := bkb BK130 hb; replace BK131 := bkb BK131 hb; replace BK132 := bkb BK132 hb; replace HB := bls HB hb; clear hb) | (go_at_call 100; (with_reducible refine (fd_size.calls a0 a2_1 t134 _ A5.out).mono ?_); rintro e w56 ⟨rfl, hb⟩; replace BK130 := bkb BK130 hb; replace BK131 := bkb BK131 hb; replace BK132 := bkb BK132 hb; replace HB := bls HB hb; clear hb) | (go_at_call 92; (with_reducible refine (fd_order.calls a0 t133 t134 t135 _ A6.out).mono ?_); rintro e w57 ⟨rfl, hb⟩; replace BK130 := bkb BK130 hb; replace BK131 := bkb BK131 hb; replace BK132 := bkb BK132 hb; replace HB := bls HB hb; clear hb) | (go_at_call 101; (with_reducible refine (fd_div.calls a0 a2_0 a2_1 t145 _ A38.out).mono ?_); rintro e w58 ⟨rfl, hb⟩; replace BK130 := bkb BK130 hb; replace BK131 := bkb BK131 hb; replace BK132 := bkb BK132 hb; replace HB := bls HB hb; clear hb) | (go_at_call 99; (with_reducible refine (fd_mul.calls a0 t145 a2_0 t146 _ A39.out).mono ?_); rintro e w59 ⟨rfl, hb⟩; replace BK130 := bkb BK130 hb; replace BK131 := bkb BK131 hb; replace BK132 := bkb BK132 hb; replace HB := bls HB hb; clear hb) | (go_at_call 97; (with_reducible refine (fd_add.calls a0 a2_1 t146 t147 _ A40.out).mono ?_); rintro e w60 ⟨rfl, hb⟩; replace BK130 := bkb BK130 hb; replace BK131 := bkb BK131 hb; replace BK132 := bkb BK132 hb; replace HB := bls HB hb; clear hb) | (go_at_call 99; (with_reducible refine (fd_mul.calls a0 a1_0 t145 t148 _ A41.out).mono ?_); rintro e w61 ⟨rfl, hb⟩; replace BK130 := bkb BK130 hb; replace BK131 := bkb BK131 hb; replace BK132 := bkb BK132 hb; replace HB := bls HB hb; clear hb) | (go_at_call 97; (with_reducible refine (fd_add.calls a0 t148 a1_1 t149 _ A42.out).mono ?_); rintro e w62 ⟨rfl, hb⟩; replace BK130 := bkb BK130 hb; replace BK131 := bkb BK131 hb; replace BK132 := bkb BK132 hb; replace HB := bls HB hb; clear hb) | (go_at_call 101; (with_reducible refine (fd_div.calls a0 t149 t147 t150 _ A43.out).mono ?_); rintro e w63 ⟨rfl, hb⟩; replace BK130 := bkb BK130 hb; replace BK131 := bkb BK131 hb; replace BK132 := bkb BK132 hb; replace HB := bls HB hb; clear hb) | (go_at_call 99; (with_reducible refine (fd_mul.calls a0 a1_1 t145 t151 _ A44.out).mono ?_); rintro e w64 ⟨rfl, hb⟩; replace BK130 := bkb BK130 hb; replace BK131 := bkb BK131 hb; replace BK132 := bkb BK132 hb; replace HB := bls HB hb; clear hb) | (go_at_call 98; (with_reducible refine (fd_sub.calls a0 t151 a1_0 t152 _ A45.out).mono ?_); rintro e w65 ⟨rfl, hb⟩; replace BK130 := bkb BK130 hb; replace BK131 := bkb BK131 hb; replace BK132 := bkb BK132 hb; replace HB := bls HB hb; clear hb) | (go_at_call 101; (with_reducible refine (fd_div.calls a0 t152 t147 t153 _ A46.out).mono ?_); rintro e w66 ⟨rfl, hb⟩; replace BK130 := bkb BK130 hb; replace BK131 := bkb BK131 hb; replace BK132 := bkb BK132 hb; replace HB := bls HB hb; clear hb; obtain ⟨hcz67_0, hcz67_1, hfz67_0, hfz67_1⟩ := cf2 BK132)); try go_wp2_with (first | ((with_reducible refine gd_ (N := 4) rfl ?_); refine bxe 4 (cs := #[.int .u64 a1_0, .int .u64 a1_1]) (t := 74) ?_; intro gb130 hg w47 hbox hb; have BK130 := Zs.mk hbox; have GW130 := bsz HB hg; have GE130 := bsz HB hg; replace HB := bls HB hb; clear hb hbox hg) | ((with_reducible refine gd_ (N := 5) rfl ?_); refine bxe 5 (cs := #[.int .u64 a2_0, .int .u64 a2_1]) (t := 74) ?_; intro gb131 hg w48 hbox hb; have BK131 := Zs.mk hbox; have GW131 := bsz HB hg; have GE131 := bsz HB hg; have NB130_131 := bnl BK130 hg; have NB131_130 := bng BK130 hg; replace BK130 := bkb BK130 hb; replace HB := bls HB hb; clear hb hbox hg) | ((with_reducible refine gd_ (N := 6) rfl ?_); refine bxe 6 (cs := #[.int .u64 0, .int .u64 0]) (t := 74) ?_; intro gb132 hg w49 hbox hb; have BK132 := Zs.mk hbox; have GW132 := bsz HB hg; have GE132 := bsz HB hg; have NB130_132 := bnl BK130 hg; have NB132_130 := bng BK130 hg; have NB131_132 := bnl BK131 hg; have NB132_131 := bng BK131 hg; replace BK130 := bkb BK130 hb; replace BK131 := bkb BK131 hb; replace HB := bls HB hb; clear hb hbox hg; have hnb50 := NB130_131.out; have hnc50 := NB131_130.out; have hnb51 := NB130_132.out; have hnc51 := NB132_130.out; obtain ⟨hcz52_0, hcz52_1, hfz52_0, hfz52_1⟩ := cf2 BK130; have hnb53 := NB131_132.out; have hnc53 := NB132_131.out; obtain ⟨hcz54_0, hcz54_1, hfz54_0, hfz54_1⟩ := cf2 BK131) | (go_at_call 100; (with_reducible refine (fd_size.calls a0 a2_0 t133 _ A4.out).mono ?_); rintro e w55 ⟨rfl, hb⟩; replace BK130 := bkb BK130 hb; replace BK131 := bkb BK131 hb; replace BK132 := bkb BK132 hb; replace HB := bls HB hb; clear hb) | (go_at_call 100; (with_reducible refine (fd_size.calls a0 a2_1 t134 _ A5.out).mono ?_); rintro e w56 ⟨rfl, hb⟩; replace BK130 := bkb BK130 hb; replace BK131 := bkb BK131 hb; replace BK132 := bkb BK132 hb; replace HB := bls HB hb; clear hb) | (go_at_call 92; (with_reducible refine (fd_order.calls a0 t133 t134 t135 _ A6.out).mono ?_); rintro e w57 ⟨rfl, hb⟩; replace BK130 := bkb BK130 hb; replace BK131 := bkb BK131 hb; replace BK132 := bkb BK132 hb; replace HB := bls HB hb; clear hb) | (go_at_call 101; (with_reducible refine (fd_div.calls a0 a2_0 a2_1 t145 _ A38.out).mono ?_); rintro e w58 ⟨rfl, hb⟩; replace BK130 := bkb BK130 hb; replace BK131 := bkb BK131 hb; replace BK132 := bkb BK132 hb; replace HB := bls HB hb; clear hb) | (go_at_call 99; (with_reducible refine (fd_mul.calls a0 t145 a2_0 t146 _ A39.out).mono ?_); rintro e w59 ⟨rfl, hb⟩; replace BK130 := bkb BK130 hb; replace BK131 := bkb BK131 hb; replace BK132 := bkb BK132 hb; replace HB := bls HB hb; clear hb) | (go_at_call 97; (with_reducible refine (fd_add.calls a0 a2_1 t146 t147 _ A40.out).mono ?_); rintro e w60 ⟨rfl, hb⟩; replace BK130 := bkb BK130 hb; replace BK131 := bkb BK131 hb; replace BK132 := bkb BK132 hb; replace HB := bls HB hb; clear hb) | (go_at_call 99; (with_reducible refine (fd_mul.calls a0 a1_0 t145 t148 _ A41.out).mono ?_); rintro e w61 ⟨rfl, hb⟩; replace BK130 := bkb BK130 hb; replace BK131 := bkb BK131 hb; replace BK132 := bkb BK132 hb; replace HB := bls HB hb; clear hb) | (go_at_call 97; (with_reducible refine (fd_add.calls a0 t148 a1_1 t149 _ A42.out).mono ?_); rintro e w62 ⟨rfl, hb⟩; replace BK130 := bkb BK130 hb; replace BK131 := bkb BK131 hb; replace BK132 := bkb BK132 hb; replace HB := bls HB hb; clear hb) | (go_at_call 101; (with_reducible refine (fd_div.calls a0 t149 t147 t150 _ A43.out).mono ?_); rintro e w63 ⟨rfl, hb⟩; replace BK130 := bkb BK130 hb; replace BK131 := bkb BK131 hb; replace BK132 := bkb BK132 hb; replace HB := bls HB hb; clear hb) | (go_at_call 99; (with_reducible refine (fd_mul.calls a0 a1_1 t145 t151 _ A44.out).mono ?_); rintro e w64 ⟨rfl, hb⟩; replace BK130 := bkb BK130 hb; replace BK131 := bkb BK131 hb; replace BK132 := bkb BK132 hb; replace HB := bls HB hb; clear hb) | (go_at_call 98; (with_reducible refine (fd_sub.calls a0 t151 a1_0 t152 _ A45.out).mono ?_); rintro e w65 ⟨rfl, hb⟩; replace BK130 := bkb BK130 hb; replace BK131 := bkb BK131 hb; replace BK132 := bkb BK132 hb; replace HB := bls HB hb; clear hb) | (go_at_call 101; (with_reducible refine (fd_div.calls a0 t152 t147 t153 _ A46.out).mono ?_); rintro e w66 ⟨rfl, hb⟩; replace BK130 := bkb BK130 hb; replace BK131 := bkb BK131 hb; replace BK132 := bkb BK132 hb; replace HB := bls HB hb; clear hb; obtain ⟨hcz67_0, hcz67_1, hfz67_0, hfz67_1⟩ := cf2 BK132)))
  refine bodyPost_ret (results_cell_row rfl _ _ gb132 74 #[.int .u64 t150, .int .u64 t153] (0, 0) _ rfl (by (with_reducible repeat (first | refine zn ?_ _ | refine zd ?_ | refine za ?_ _)); apply bp2; (with_reducible repeat (first | refine zn ?_ _ | refine zd ?_ | refine za ?_ _)); exact BK132.out) Tryz.underlying74 rfl (by kernel_rfl)) rfl ?_
  exact fin_ (blt HB)
def fd_one.f (a0 : Int) : Option (Int) := (rl_FromInteger.f a0 1).bind fun bt154 => (some bt154.1)
set_option maxHeartbeats 8000000 in
set_option maxRecDepth 100000 in
theorem fd_one.calls (a0 : Int) (r : Int) (w : World) (h : fd_one.f a0 = some r) :
  Calls Tryz.prog 111 #[.int .i64 a0] w fun e w' => e = .returned (.int .u64 r) ∧ Below w.heap.size w w' := by
 have HB := Zs.mk (Below.refl w.heap.size w)
 have H : ((rl_FromInteger.f a0 1).bind fun bt154 => (some bt154.1)) = some r := h
 clear h
 replace H := Option.bind_eq_some_iff.mp H
 obtain ⟨⟨t154, t155⟩, A2, H⟩ := H
 try dsimp only at H
 replace A2 := Zs.mk A2
 obtain rfl := Option.some.inj H
 go_enter Tryz.func111, Tryz.ntmps111
 go_wp2_with (first | ((with_reducible refine gc_ (f := 93) rfl ?_); refine gLc 7 Tryz.func93 (rl_FromInteger.calls a0 1 t154 t155 _ A2.out) (fun w3 hb => ?_); replace HB := bls HB hb; clear hb))
 go_ret
 exact fin_ (blt HB)
def fd_kind.f (a0 : Int) (a1 : Int) : Option (Int) := (rl_PartsOf.f a0 a1).bind fun bt156 => (some bt156.1)
set_option maxHeartbeats 8000000 in
set_option maxRecDepth 100000 in
theorem fd_kind.calls (a0 : Int) (a1 : Int) (r : Int) (w : World) (h : fd_kind.f a0 a1 = some r) :
  Calls Tryz.prog 119 #[.int .i64 a0, .int .u64 a1] w fun e w' => e = .returned (.int .i64 r) ∧ Below w.heap.size w w' := by
 have hu41 := Tryz.underlying41
 have HB := Zs.mk (Below.refl w.heap.size w)
 have H : ((rl_PartsOf.f a0 a1).bind fun bt156 => (some bt156.1)) = some r := h
 clear h
 replace H := Option.bind_eq_some_iff.mp H
 obtain ⟨⟨t156, t157, t158, t159, t160⟩, A3, H⟩ := H
 try dsimp only at H
 replace A3 := Zs.mk A3
 obtain rfl := Option.some.inj H
 go_enter Tryz.func119, Tryz.ntmps119
 go_wp2_with (first | ((with_reducible refine gc_ (f := 138) rfl ?_); refine gLc 10 Tryz.func138 (rl_PartsOf.calls a0 a1 t156 t157 t158 t159 t160 _ A3.out) (fun w4 hb => ?_); replace HB := bls HB hb; clear hb) | ((with_reducible refine gd_ (N := 5) rfl ?_); refine bxe 5 (cs := #[.int .i64 0, .bool false, .int .i64 0, .int .i64 0]) (t := 41) ?_; intro gb161 hg w5 hbox hb; have BK161 := Zs.mk hbox; have GW161 := bsz HB hg; have GE161 := bsz HB hg; replace HB := bls HB hb; clear hb hbox hg; obtain ⟨hcz6_0, hcz6_1, hcz6_2, hcz6_3, hfz6_0, hfz6_1, hfz6_2, hfz6_3⟩ := cf4 BK161))
 go_ret
 exact fin_ (blt HB)
def fd_root.f (a0 : Int) (a1 : Int) : Option (Int) := (rl_SqrtOf.f a0 a1).bind fun bt162 => (some bt162.1)
set_option maxHeartbeats 8000000 in
set_option maxRecDepth 100000 in
theorem fd_root.calls (a0 : Int) (a1 : Int) (r : Int) (w : World) (h : fd_root.f a0 a1 = some r) :
  Calls Tryz.prog 121 #[.int .i64 a0, .int .u64 a1] w fun e w' => e = .returned (.int .u64 r) ∧ Below w.heap.size w w' := by
 have HB := Zs.mk (Below.refl w.heap.size w)
 have H : ((rl_SqrtOf.f a0 a1).bind fun bt162 => (some bt162.1)) = some r := h
 clear h
 replace H := Option.bind_eq_some_iff.mp H
 obtain ⟨⟨t162, t163⟩, A3, H⟩ := H
 try dsimp only at H
 replace A3 := Zs.mk A3
 obtain rfl := Option.some.inj H
 go_enter Tryz.func121, Tryz.ntmps121
 go_wp2_with (first | ((with_reducible refine gc_ (f := 140) rfl ?_); refine gLc 10 Tryz.func140 (rl_SqrtOf.calls a0 a1 t162 t163 _ A3.out) (fun w4 hb => ?_); replace HB := bls HB hb; clear hb))
 go_ret
 exact fin_ (blt HB)
end Go.Proofs.YtmoimcblmmcffaaGreat.PPC

namespace Go.Proofs.YtmoimcblmmcffaaGreat.PPC
open Go.RowKit Go.Proofs.YtmoimcblmmcffaaGreatW.PrintWords Go.Proofs.YtmoimcblmmcffaaGreatW.PrintLast Go.Proofs.YtmoimcblmmcffaaGreatW.PrintMore Go.Proofs.YtmoimcblmmcffaaGreatW.PrintZ
attribute [local go_sem] max2_int min2_int max_two min_two max_three min_three max_four min_four   -- for this text's walks alone
set_option linter.unusedVariables false
set_option linter.unusedSimpArgs false


mutual
def fd_distance.j0 : Nat → Int → Int → Int → Bool → Option (Int)
 | 0, _, _, _, _ => none
 | k + 1, x0, x5, x6, x7 => (fd_operation.f x0 6 x5 x6).bind fun t169 => ((fd_operation.f x0 5 x5 x6).bind fun t170 => (if x7 = true then (fd_distance.j1 k x0 x5 x6 t169 t170 x7) else ((fd_kind.f x0 t169).bind fun t171 => (if t171 = 0 then ((fd_kind.f x0 x5).bind fun t172 => ((fd_kind.f x0 x6).bind fun t173 => (fd_distance.j1 k x0 x5 x6 t169 t170 (t172 == t173)))) else (fd_distance.j1 k x0 x5 x6 t169 t170 false)))))
def fd_distance.j1 : Nat → Int → Int → Int → Int → Int → Bool → Option (Int)
 | 0, _, _, _, _, _, _ => none
 | k + 1, x0, x5, x6, x8, x9, x37 => if x37 = true then (some x8) else ((fd_kind.f x0 x5).bind fun t174 => (if t174 = 3 then (some x5) else ((fd_kind.f x0 x6).bind fun t175 => (if t175 = 3 then (some x6) else ((fd_div.f x0 x9 x8).bind fun t176 => ((fd_one.f x0).bind fun t177 => ((fd_mul.f x0 t176 t176).bind fun t178 => ((fd_add.f x0 t177 t178).bind fun t179 => ((fd_root.f x0 t179).bind fun t180 => ((fd_mul.f x0 x8 t180).bind fun t181 => (some t181)))))))))))
end
def fd_distance.f (k : Nat) (a0 : Int) (a1_0 : Int) (a1_1 : Int) : Option (Int) := (fd_size.f a0 a1_0).bind fun t165 => ((fd_size.f a0 a1_1).bind fun t166 => ((fd_kind.f a0 t165).bind fun t167 => (if t167 = 2 then (fd_distance.j0 k a0 t165 t166 true) else ((fd_kind.f a0 t166).bind fun t168 => (fd_distance.j0 k a0 t165 t166 (t168 == 2))))))
def fd_distance.T1 : Bool × List (List Nat × List Nat) := (true, [([], []), ([], []), ([1], [1]), ([0, 2], [0, 2]), ([], []), ([], []), ([5], [5]), ([4, 6, 3], [4, 6]), ([3, 7, 0, 1, 2, 3], [3]), ([7, 8, 0, 1, 2, 3, 4, 5, 6, 7, 8], [7])])
def fd_distance.B1 : List Nat := [0, 0, 2, 7, 0, 0, 32, 127, 255, 511]
theorem fd_distance.tab1 : rtab .any (opsOf Tryz.f79 1) = fd_distance.T1 := by kernel_rfl
theorem fd_distance.bits1 : waitsOk fd_distance.T1.2 fd_distance.B1 = true := by kernel_rfl
set_option maxHeartbeats 8000000 in
set_option maxRecDepth 100000 in
theorem fd_distance.calls (k : Nat) (a0 : Int) (a1_0 : Int) (a1_1 : Int) (r : Int) (w : World) (h : fd_distance.f k a0 a1_0 a1_1 = some r) :
  Calls Tryz.prog 79 #[.int .i64 a0, .agg #[.int .u64 a1_0, .int .u64 a1_1]] w fun e w' => e = .returned (.int .u64 r) ∧ Below w.heap.size w w' := by
 have hu74 := Tryz.underlying74
 have HB := Zs.mk (Below.refl w.heap.size w)
 have H : ((fd_size.f a0 a1_0).bind fun t165 => ((fd_size.f a0 a1_1).bind fun t166 => ((fd_kind.f a0 t165).bind fun t167 => (if t167 = 2 then (fd_distance.j0 k a0 t165 t166 true) else ((fd_kind.f a0 t166).bind fun t168 => (fd_distance.j0 k a0 t165 t166 (t168 == 2))))))) = some r := h
 clear h
 replace H := Option.bind_eq_some_iff.mp H
 obtain ⟨t165, A3, H⟩ := H
 try dsimp only at H
 replace A3 := Zs.mk A3
 replace H := Option.bind_eq_some_iff.mp H
 obtain ⟨t166, A4, H⟩ := H
 try dsimp only at H
 replace A4 := Zs.mk A4
 have HC5 := Zs.mk H
 clear H
 go_enter Tryz.func79, Tryz.ntmps79
 try go_wp2_with (first | ((with_reducible refine gd_ (N := 3) rfl ?_); refine bxe 3 (cs := #[.int .u64 a1_0, .int .u64 a1_1]) (t := 74) ?_; intro gb164 hg w6 hbox hb; have BK164 := Zs.mk hbox; have GW164 := bsz HB hg; have GE164 := bsz HB hg; replace HB := bls HB hb; clear hb hbox hg))
 replace BK164 := Zs.mk (zd BK164.out)
 replace HB := Zs.mk (below_drew1 HB.out)
 refine start_ (n := 10) (S := fun w' => w'.cell? ⟨gb164, 0, none⟩ = some (.int .u64 a1_0) ∧ w'.cell? ⟨gb164, 1, none⟩ = some (.int .u64 a1_1)) (ds := []) #[false, false, false, false, false, false, false, false, false, false] (by kernel_rfl) rfl rfl (cf2c BK164) (fun hHeld => ?_); refine with_tabW fd_distance.tab1 fd_distance.bits1 (fun HT_ HW_ => ?_)
 generalize w6.drew = w7 at BK164 HB hHeld ⊢
 refine pu 0 11 HT_ ?_
 refine pu 1 12 HT_ ?_
 refine pu 4 15 HT_ ?_
 refine pu 5 16 HT_ ?_
 refine tk 2 13 HT_ HW_ hHeld ?_
 refine tk 6 17 HT_ HW_ hHeld ?_
 refine on 3 14 HT_ (fun K hK => ?_)
 refine gsc Tryz.func100 (fd_size.calls a0 a1_0 t165 _ A3.out) (fun w8 hb => ?_)
 replace BK164 := bkb BK164 hb
 replace HB := bls HB hb
 (try clear hb)
 (try clear hb2)
 (try clear hk)
 (try clear hi)
 refine hK.out _ _ (cf2c BK164) (fun hHeld => ?_)
 clear hK K
 refine nm 14 ?_
 refine on 7 18 HT_ (fun K hK => ?_)
 refine gsc Tryz.func100 (fd_size.calls a0 a1_1 t166 _ A4.out) (fun w9 hb => ?_)
 replace BK164 := bkb BK164 hb
 replace HB := bls HB hb
 (try clear hb)
 (try clear hb2)
 (try clear hk)
 (try clear hi)
 refine hK.out _ _ (cf2c BK164) (fun hHeld => ?_)
 clear hK K
 refine nm 18 ?_
 refine pu 8 5 HT_ ?_
 refine pu 9 6 HT_ ?_
 refine done_ (done_of HT_.out (by kernel_rfl)) ?_
 go_upto_region 2 with (fail)
 go_cut [7] (fun v7 wc => ∃ (kq : Nat) (x7_4 : Bool), v7 = .bool x7_4 ∧ Zs (fd_distance.j0 kq a0 t165 t166 x7_4 = some r) ∧ Zs (kq ≤ k) ∧ Zs (wc.heap[gb164]? = some (.cells #[.int .u64 a1_0, .int .u64 a1_1] 74 (0, 0))) ∧ Zs (Below w.heap.size w wc))
 case first =>
  have H := HC5.out
  clear HC5
  replace H := Option.bind_eq_some_iff.mp H
  obtain ⟨t167, A10, H⟩ := H
  try dsimp only at H
  replace A10 := Zs.mk A10
  by_cases c11 : t167 = 2
  ·rw [if_pos c11] at H
   have c11b0 : (t167 == 2) = true := beq_iff_eq.mpr c11
   have c11b1 : (t167 != 2) = false := bne_eq_false_iff_eq.mpr c11
   clear c11
   (first | rw [c11b0] | (simp only [i64_w, i32_w]; rw [c11b0]) | skip)
   have H' := Zs.mk H
   clear H
   go_wp2_with (first | ((with_reducible refine gc_ (f := 119) rfl ?_); refine gLc 21 Tryz.func119 (fd_kind.calls a0 t165 t167 _ A10.out) (fun w12 hb => ?_); replace BK164 := bkb BK164 hb; replace HB := bls HB hb; clear hb))
   go_meet
   case rel => exact ⟨_, (true), (by first | rfl | (simp; done) | (simp [*]; done)), H', ⟨by first | omega | exact Nat.le_refl _⟩, bks BK164, blt HB⟩
  ·rw [if_neg c11] at H
   have c11b0 : (t167 == 2) = false := beq_eq_false_iff_ne.mpr c11
   have c11b1 : (t167 != 2) = true := bne_iff_ne.mpr c11
   (first | rw [c11b0] | (simp only [i64_w, i32_w]; rw [c11b0]) | skip)
   replace H := Option.bind_eq_some_iff.mp H
   obtain ⟨t168, A13, H⟩ := H
   try dsimp only at H
   replace A13 := Zs.mk A13
   have H' := Zs.mk H
   clear H
   go_wp2_with (first | ((with_reducible refine gc_ (f := 119) rfl ?_); refine gLc 21 Tryz.func119 (fd_kind.calls a0 t165 t167 _ A10.out) (fun w14 hb => ?_); replace BK164 := bkb BK164 hb; replace HB := bls HB hb; clear hb) | (go_at_call 119; (with_reducible refine (fd_kind.calls a0 t166 t168 _ A13.out).mono ?_); rintro e w15 ⟨rfl, hb⟩; replace BK164 := bkb BK164 hb; replace HB := bls HB hb; clear hb))
   go_meet
   case rel => exact ⟨_, ((t168 == 2)), (by first | rfl | (simp; done) | (simp [*]; done)), H', ⟨by first | omega | exact Nat.le_refl _⟩, bks BK164, blt HB⟩
 case rest =>
  clear HC5
  try clear c1
  try clear p2
  try clear c7
  try clear c10
  try clear c11
  try clear c11b0
  try clear c11b1
  obtain ⟨kq, x7_4, rfl, HA, HJ4, BK164, HB⟩ := hcut
  cases kq with
  | zero => exact absurd HA.out (by simp [fd_distance.j0])
  | succ kj4 =>
   have H := HA.out
   clear HA
   simp only [fd_distance.j0] at H
   replace H := Option.bind_eq_some_iff.mp H
   obtain ⟨t169, A16, H⟩ := H
   try dsimp only at H
   replace A16 := Zs.mk A16
   replace H := Option.bind_eq_some_iff.mp H
   obtain ⟨t170, A17, H⟩ := H
   try dsimp only at H
   replace A17 := Zs.mk A17
   have HC18 := Zs.mk H
   clear H
   go_upto_if 37 with (first | ((with_reducible refine gc_ (f := 120) rfl ?_); refine gLc 32 Tryz.func120 (fd_operation.calls a0 6 t165 t166 t169 _ A16.out) (fun w19 hb => ?_); replace BK164 := bkb BK164 hb; replace HB := bls HB hb; clear hb) | ((with_reducible refine gc_ (f := 120) rfl ?_); refine gLc 36 Tryz.func120 (fd_operation.calls a0 5 t165 t166 t170 _ A17.out) (fun w20 hb => ?_); replace BK164 := bkb BK164 hb; replace HB := bls HB hb; clear hb))
   (try simp only [Act.put, List.setIfInBounds_toArray, List.set_cons_zero, List.set_cons_succ])
   go_cut [37] (fun v37 wc => ∃ (kq : Nat) (x37_17 : Bool), v37 = .bool x37_17 ∧ Zs (fd_distance.j1 kq a0 t165 t166 t169 t170 x37_17 = some r) ∧ Zs (kq ≤ kj4) ∧ Zs (wc.heap[gb164]? = some (.cells #[.int .u64 a1_0, .int .u64 a1_1] 74 (0, 0))) ∧ Zs (Below w.heap.size w wc))
   case first =>
    have H := HC18.out
    clear HC18
    by_cases c21 : x7_4 = true
    ·subst c21
     rw [if_pos rfl] at H
     have H' := Zs.mk H
     clear H
     go_wp2
     go_meet
     case rel => exact ⟨_, (true), (by first | rfl | (simp; done) | (simp [*]; done)), H', ⟨by have := HJ4.out; first | omega | exact Nat.le_refl _⟩, bks BK164, blt HB⟩
    ·replace c21 := Bool.eq_false_iff.mpr c21
     subst c21
     rw [if_neg (show ¬ (false = true) by decide)] at H
     replace H := Option.bind_eq_some_iff.mp H
     obtain ⟨t171, A22, H⟩ := H
     try dsimp only at H
     replace A22 := Zs.mk A22
     by_cases c23 : t171 = 0
     ·rw [if_pos c23] at H
      have c23b0 : (t171 == 0) = true := beq_iff_eq.mpr c23
      have c23b1 : (t171 != 0) = false := bne_eq_false_iff_eq.mpr c23
      clear c23
      (first | rw [c23b0] | (simp only [i64_w, i32_w]; rw [c23b0]) | skip)
      replace H := Option.bind_eq_some_iff.mp H
      obtain ⟨t172, A24, H⟩ := H
      try dsimp only at H
      replace A24 := Zs.mk A24
      replace H := Option.bind_eq_some_iff.mp H
      obtain ⟨t173, A25, H⟩ := H
      try dsimp only at H
      replace A25 := Zs.mk A25
      have H' := Zs.mk H
      clear H
      go_wp2_with (first | ((with_reducible refine gc_ (f := 119) rfl ?_); refine gLc 41 Tryz.func119 (fd_kind.calls a0 t169 t171 _ A22.out) (fun w26 hb => ?_); replace BK164 := bkb BK164 hb; replace HB := bls HB hb; clear hb) | (go_at_call 119; (with_reducible refine (fd_kind.calls a0 t165 t172 _ A24.out).mono ?_); rintro e w27 ⟨rfl, hb⟩; replace BK164 := bkb BK164 hb; replace HB := bls HB hb; clear hb) | (go_at_call 119; (with_reducible refine (fd_kind.calls a0 t166 t173 _ A25.out).mono ?_); rintro e w28 ⟨rfl, hb⟩; replace BK164 := bkb BK164 hb; replace HB := bls HB hb; clear hb))
      go_meet
      case rel => exact ⟨_, ((t172 == t173)), (by first | rfl | (simp; done) | (simp [*]; done)), H', ⟨by have := HJ4.out; first | omega | exact Nat.le_refl _⟩, bks BK164, blt HB⟩
     ·rw [if_neg c23] at H
      have c23b0 : (t171 == 0) = false := beq_eq_false_iff_ne.mpr c23
      have c23b1 : (t171 != 0) = true := bne_iff_ne.mpr c23
      (first | rw [c23b0] | (simp only [i64_w, i32_w]; rw [c23b0]) | skip)
      have H' := Zs.mk H
      clear H
      go_wp2_with (first | ((with_reducible refine gc_ (f := 119) rfl ?_); refine gLc 41 Tryz.func119 (fd_kind.calls a0 t169 t171 _ A22.out) (fun w29 hb => ?_); replace BK164 := bkb BK164 hb; replace HB := bls HB hb; clear hb))
      go_meet
      case rel => exact ⟨_, (false), (by first | rfl | (simp; done) | (simp [*]; done)), H', ⟨by have := HJ4.out; first | omega | exact Nat.le_refl _⟩, bks BK164, blt HB⟩
   case rest =>
    clear HC18
    try clear c1
    try clear c2
    try clear p2
    try clear c7
    try clear c10
    try clear c11
    try clear c11b0
    try clear c11b1
    try clear c12
    try clear c21
    try clear c23
    try clear c23b0
    try clear c23b1
    try clear p2
    obtain ⟨kq, x37_17, rfl, HA, HJ17, BK164, HB⟩ := hcut
    cases kq with
    | zero => exact absurd HA.out (by simp [fd_distance.j1])
    | succ kj17 =>
     have H := HA.out
     clear HA
     simp only [fd_distance.j1] at H
     by_cases c30 : x37_17 = true
     ·subst c30
      rw [if_pos rfl] at H
      obtain rfl := Option.some.inj H
      go_wp2
      go_ret
      exact fin_ (blt HB)
     ·replace c30 := Bool.eq_false_iff.mpr c30
      subst c30
      rw [if_neg (show ¬ (false = true) by decide)] at H
      replace H := Option.bind_eq_some_iff.mp H
      obtain ⟨t174, A31, H⟩ := H
      try dsimp only at H
      replace A31 := Zs.mk A31
      by_cases c32 : t174 = 3
      ·rw [if_pos c32] at H
       have c32b0 : (t174 == 3) = true := beq_iff_eq.mpr c32
       have c32b1 : (t174 != 3) = false := bne_eq_false_iff_eq.mpr c32
       clear c32
       obtain rfl := Option.some.inj H
       go_wp2_with (first | ((with_reducible refine gc_ (f := 119) rfl ?_); refine gLc 56 Tryz.func119 (fd_kind.calls a0 t165 t174 _ A31.out) (fun w33 hb => ?_); replace BK164 := bkb BK164 hb; replace HB := bls HB hb; clear hb))
       go_ret
       exact fin_ (blt HB)
      ·rw [if_neg c32] at H
       have c32b0 : (t174 == 3) = false := beq_eq_false_iff_ne.mpr c32
       have c32b1 : (t174 != 3) = true := bne_iff_ne.mpr c32
       replace H := Option.bind_eq_some_iff.mp H
       obtain ⟨t175, A34, H⟩ := H
       try dsimp only at H
       replace A34 := Zs.mk A34
       by_cases c35 : t175 = 3
       ·rw [if_pos c35] at H
        have c35b0 : (t175 == 3) = true := beq_iff_eq.mpr c35
        have c35b1 : (t175 != 3) = false := bne_eq_false_iff_eq.mpr c35
        clear c35
        obtain rfl := Option.some.inj H
        go_wp2_with (first | ((with_reducible refine gc_ (f := 119) rfl ?_); refine gLc 56 Tryz.func119 (fd_kind.calls a0 t165 t174 _ A31.out) (fun w36 hb => ?_); replace BK164 := bkb BK164 hb; replace HB := bls HB hb; clear hb) | ((with_reducible refine gc_ (f := 119) rfl ?_); refine gLc 62 Tryz.func119 (fd_kind.calls a0 t166 t175 _ A34.out) (fun w37 hb => ?_); replace BK164 := bkb BK164 hb; replace HB := bls HB hb; clear hb))
        go_ret
        exact fin_ (blt HB)
       ·rw [if_neg c35] at H
        have c35b0 : (t175 == 3) = false := beq_eq_false_iff_ne.mpr c35
        have c35b1 : (t175 != 3) = true := bne_iff_ne.mpr c35
        replace H := Option.bind_eq_some_iff.mp H
        obtain ⟨t176, A38, H⟩ := H
        try dsimp only at H
        replace A38 := Zs.mk A38
        replace H := Option.bind_eq_some_iff.mp H
        obtain ⟨t177, A39, H⟩ := H
        try dsimp only at H
        replace A39 := Zs.mk A39
        replace H := Option.bind_eq_some_iff.mp H
        obtain ⟨t178, A40, H⟩ := H
        try dsimp only at H
        replace A40 := Zs.mk A40
        replace H := Option.bind_eq_some_iff.mp H
        obtain ⟨t179, A41, H⟩ := H
        try dsimp only at H
        replace A41 := Zs.mk A41
        replace H := Option.bind_eq_some_iff.mp H
        obtain ⟨t180, A42, H⟩ := H
        try dsimp only at H
        replace A42 := Zs.mk A42
        replace H := Option.bind_eq_some_iff.mp H
        obtain ⟨t181, A43, H⟩ := H
        try dsimp only at H
        replace A43 := Zs.mk A43
        obtain rfl := Option.some.inj H
        go_wp2_with (first | ((with_reducible refine gc_ (f := 119) rfl ?_); refine gLc 56 Tryz.func119 (fd_kind.calls a0 t165 t174 _ A31.out) (fun w44 hb => ?_); replace BK164 := bkb BK164 hb; replace HB := bls HB hb; clear hb) | ((with_reducible refine gc_ (f := 119) rfl ?_); refine gLc 62 Tryz.func119 (fd_kind.calls a0 t166 t175 _ A34.out) (fun w45 hb => ?_); replace BK164 := bkb BK164 hb; replace HB := bls HB hb; clear hb) | ((with_reducible refine gc_ (f := 101) rfl ?_); refine gLc 68 Tryz.func101 (fd_div.calls a0 t170 t169 t176 _ A38.out) (fun w46 hb => ?_); replace BK164 := bkb BK164 hb; replace HB := bls HB hb; clear hb) | ((with_reducible refine gc_ (f := 111) rfl ?_); refine gLc 74 Tryz.func111 (fd_one.calls a0 t177 _ A39.out) (fun w47 hb => ?_); replace BK164 := bkb BK164 hb; replace HB := bls HB hb; clear hb) | ((with_reducible refine gc_ (f := 99) rfl ?_); refine gLc 78 Tryz.func99 (fd_mul.calls a0 t176 t176 t178 _ A40.out) (fun w48 hb => ?_); replace BK164 := bkb BK164 hb; replace HB := bls HB hb; clear hb) | ((with_reducible refine gc_ (f := 97) rfl ?_); refine gLc 79 Tryz.func97 (fd_add.calls a0 t177 t178 t179 _ A41.out) (fun w49 hb => ?_); replace BK164 := bkb BK164 hb; replace HB := bls HB hb; clear hb) | ((with_reducible refine gc_ (f := 121) rfl ?_); refine gLc 80 Tryz.func121 (fd_root.calls a0 t179 t180 _ A42.out) (fun w50 hb => ?_); replace BK164 := bkb BK164 hb; replace HB := bls HB hb; clear hb) | ((with_reducible refine gc_ (f := 99) rfl ?_); refine gLc 81 Tryz.func99 (fd_mul.calls a0 t169 t180 t181 _ A43.out) (fun w51 hb => ?_); replace BK164 := bkb BK164 hb; replace HB := bls HB hb; clear hb))
        go_ret
        exact fin_ (blt HB)
def fd_half.f (a0 : Int) : Option (Int) := (fd_one.f a0).bind fun t182 => ((rl_ScaledBy.f a0 t182 (-1)).bind fun bt183 => (some bt183.1))
set_option maxHeartbeats 8000000 in
set_option maxRecDepth 100000 in
theorem fd_half.calls (a0 : Int) (r : Int) (w : World) (h : fd_half.f a0 = some r) :
  Calls Tryz.prog 123 #[.int .i64 a0] w fun e w' => e = .returned (.int .u64 r) ∧ Below w.heap.size w w' := by
 have HB := Zs.mk (Below.refl w.heap.size w)
 have H : ((fd_one.f a0).bind fun t182 => ((rl_ScaledBy.f a0 t182 (-1)).bind fun bt183 => (some bt183.1))) = some r := h
 clear h
 replace H := Option.bind_eq_some_iff.mp H
 obtain ⟨t182, A2, H⟩ := H
 try dsimp only at H
 replace A2 := Zs.mk A2
 replace H := Option.bind_eq_some_iff.mp H
 obtain ⟨⟨t183, t184⟩, A3, H⟩ := H
 try dsimp only at H
 replace A3 := Zs.mk A3
 obtain rfl := Option.some.inj H
 go_enter Tryz.func123, Tryz.ntmps123
 go_wp2_with (first | ((with_reducible refine gc_ (f := 111) rfl ?_); refine gLc 8 Tryz.func111 (fd_one.calls a0 t182 _ A2.out) (fun w4 hb => ?_); replace HB := bls HB hb; clear hb) | ((with_reducible refine gc_ (f := 145) rfl ?_); refine gLc 9 Tryz.func145 (rl_ScaledBy.calls a0 t182 (-1) t183 t184 _ A3.out) (fun w5 hb => ?_); replace HB := bls HB hb; clear hb))
 go_ret
 exact fin_ (blt HB)
end Go.Proofs.YtmoimcblmmcffaaGreat.PPC
