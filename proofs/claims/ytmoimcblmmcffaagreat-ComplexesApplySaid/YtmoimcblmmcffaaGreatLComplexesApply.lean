/- PROVED: formularylaw10.ComplexesApply returns true for every input, and leaves its arguments as they were: the result of an operation is as specified, or the errors. CONDITIONS: the row's own; nothing else. -/
import Derived.Laws.EntriesVeiled
import Derived.Test.YtmoimcblmmcffaaGreatQComplexesApplyG
import Derived.Test.YtmoimcblmmcffaaGreatQComplexesApplyH
import Derived.Test.YtmoimcblmmcffaaGreatQComplexesApplyK
import Derived.Test.YtmoimcblmmcffaaGreatQComplexesApplyI
import Derived.Test.YtmoimcblmmcffaaGreatRows
import Derived.WalkKit
import Derived.ProofKit
import Derived.OpenShut
import Derived.ShutString
import Derived.ChangeOld
import Derived.Below
import Derived.SizedLaws
import Derived.Lib.SmallJoins

namespace Go.Proofs.YtmoimcblmmcffaaGreat.B
open Go.RowKit
set_option linter.unusedSimpArgs false
set_option linter.unusedVariables false
abbrev ExX (g : Nat) (w0 W w : World) : Prop := (∀ b o, b < W.heap.size → b ≠ g → w.cell? ⟨b, o, none⟩ = W.cell? ⟨b, o, none⟩) ∧ W.heap.size ≤ w.heap.size ∧ Own w g 4 ∧ Below w0.heap.size w0 w ∧ w0.heap.size ≤ g
section
variable {g : Nat} {w0 W w w1 : World}
theorem ExX.call (h : ExX g w0 W w) (hb : Below w.heap.size w w1) : ExX g w0 W w1 :=
 ⟨fun b o hlt hn => ((bcell hb).1 b o (Nat.lt_of_lt_of_le hlt h.2.1)).trans (h.1 b o hlt hn), Nat.le_trans h.2.1 hb.size, h.2.2.1.call hb, h.2.2.2.1.trans (hb.mono h.2.2.2.1.size), h.2.2.2.2⟩
theorem ExX.drew (h : ExX g w0 W w) : ExX g w0 W w.drew := h.call (Below.refl _ _).drew
theorem ExX.put (h : ExX g w0 W w) (j : Nat) (v : Value) : ExX g w0 W (w.setCell ⟨g, j, none⟩ v) :=
 ⟨fun b o hlt hn => (World.cell?_setCell_other w _ _ v (by intro e; injection e with e1 e2; exact hn e1.symm)).trans (h.1 b o hlt hn), by simpa [World.setCell] using h.2.1, h.2.2.1.set _ _, h.2.2.2.1.setCell (p := ⟨g, j, none⟩) h.2.2.2.2 v, h.2.2.2.2⟩
end
theorem hideXY {P : Program} {c : Code} {Q : Exit → Act → World → Prop} {a : Act} {w W w1 : World} {n : Nat} {x0 x1 y0 y1 : Value} {t t' : TypeId} (HO : ExO n w W n 4 w1)
  (h : ∀ V gx, w1.heap.size = gx → V.cell? ⟨gx, 0, none⟩ = some x0 → V.cell? ⟨gx, 1, none⟩ = some x1 → V.cell? ⟨gx + 1, 0, none⟩ = some y0 → V.cell? ⟨gx + 1, 1, none⟩ = some y1 → Own V n 4 → n < gx → gx + 2 = V.heap.size → Below w.heap.size w V → c.wp P Q a V) :
  c.wp P Q a ((w1.alloc (.cells #[x0, x1] t (0, 0))).alloc (.cells #[y0, y1] t' (0, 0))) := by
 have e1 : (w1.alloc (.cells #[x0, x1] t (0, 0))).heap.size = w1.heap.size + 1 := by simp
 have k := heap_alloc_new (w1.alloc (.cells #[x0, x1] t (0, 0))) (.cells #[y0, y1] t' (0, 0))
 rw [e1] at k
 have k2 := (Below.heap_alloc (w1.alloc (.cells #[x0, x1] t (0, 0))) (.cells #[y0, y1] t' (0, 0)) w1.heap.size (by rw [e1]; omega)).trans (heap_alloc_new w1 _)
 exact h _ _ rfl (cell_of_row _ _ 0 _ t (0, 0) k2) (cell_of_row _ _ 1 _ t (0, 0) k2) (cell_of_row _ _ 0 _ t' (0, 0) k) (cell_of_row _ _ 1 _ t' (0, 0) k) ((HO.2.alloc _).alloc _) HO.2.2.2 (by simp) (below_alloc0 (below_alloc0 HO.1.2.2 _) _)
theorem hideFn {P : Program} {c : Code} {Q : Exit → Act → World → Prop} {a : Act} {w V : World} {n gx : Nat} {x0 x1 y0 y1 f0 f1 f2 f3 : Value} {t : TypeId}
  (k0 : V.cell? ⟨gx, 0, none⟩ = some x0) (k1 : V.cell? ⟨gx, 1, none⟩ = some x1) (k2 : V.cell? ⟨gx + 1, 0, none⟩ = some y0) (k3 : V.cell? ⟨gx + 1, 1, none⟩ = some y1) (ho : Own V n 4) (hs : gx + 2 = V.heap.size) (hb : Below w.heap.size w V)
  (h : ∀ X, X.cell? ⟨gx, 0, none⟩ = some x0 → X.cell? ⟨gx, 1, none⟩ = some x1 → X.cell? ⟨gx + 1, 0, none⟩ = some y0 → X.cell? ⟨gx + 1, 1, none⟩ = some y1 → X.cell? ⟨gx + 2, 0, none⟩ = some f0 → X.cell? ⟨gx + 2, 1, none⟩ = some f1 → X.cell? ⟨gx + 2, 2, none⟩ = some f2 → X.cell? ⟨gx + 2, 3, none⟩ = some f3 → Own X n 4 → gx + 3 = X.heap.size → Below w.heap.size w X → c.wp P Q a X) :
  c.wp P Q a (V.alloc (.cells #[f0, f1, f2, f3] t (0, 0))) := by
 have hb2 : Below V.heap.size V (V.alloc (.cells #[f0, f1, f2, f3] t (0, 0))) := below_alloc0 (Below.refl _ _) _
 have k := heap_alloc_new V (.cells #[f0, f1, f2, f3] t (0, 0))
 rw [← hs] at k
 refine h _ (((bcell hb2).1 _ _ (by omega)).trans k0) (((bcell hb2).1 _ _ (by omega)).trans k1) (((bcell hb2).1 _ _ (by omega)).trans k2) (((bcell hb2).1 _ _ (by omega)).trans k3) ?_ ?_ ?_ ?_ (ho.call hb2) (by simp; omega) (below_alloc0 hb _)
 all_goals exact cell_of_row _ _ _ _ t (0, 0) k
set_option maxRecDepth 100000 in
set_option maxHeartbeats 4000000 in
theorem apply_0 (t a b : Int) (s : ByteArray) (t' a' b' : Int) (s' : ByteArray) (p x0 x1 y0 y1 r0 r1 v0 v1 v2 : Int) (v3 : ByteArray) (w : World)
  (c1 : ∀ w, Calls Tryz.prog 52 #[.agg #[.int .i64 t, .int .u64 a, .int .u64 b, .string s], .agg #[.int .i64 t', .int .u64 a', .int .u64 b', .string s']] w (Ret (.tuple #[.int .i64 p, .agg #[.int .u64 x0, .int .u64 x1], .agg #[.int .u64 y0, .int .u64 y1], .int .i64 0]) w))
  (c2 : ∀ w, Calls Tryz.prog 53 #[.int .i64 p, .agg #[.int .u64 x0, .int .u64 x1], .agg #[.int .u64 y0, .int .u64 y1]] w (Ret (.agg #[.int .u64 r0, .int .u64 r1]) w))
  (c3 : ∀ w, Calls Tryz.prog 57 #[.int .i64 p, .agg #[.int .u64 r0, .int .u64 r1]] w (Ret (.agg #[.int .i64 v0, .int .u64 v1, .int .u64 v2, .string v3]) w)) :
  Calls Tryz.prog 12 #[.int .i64 0, .agg #[.int .i64 t, .int .u64 a, .int .u64 b, .string s], .agg #[.int .i64 t', .int .u64 a', .int .u64 b', .string s']] w (Ret (.tuple #[.agg #[.int .i64 v0, .int .u64 v1, .int .u64 v2, .string v3], .int .i64 0]) w) := by
 go_enter Tryz.func12, Tryz.ntmps12
 go_upto_region 1 with (fail)
 refine hide2own w (fun W k0 k1 ho HW => ?_)
 have HO : ExO (w.heap.size + 2) w W (w.heap.size + 2) 4 W := ⟨HW, ho⟩
 go_upto_region 4 with (go_at_call 52; refine (c1 _).mono ?_; rintro e w1 ⟨rfl, hb1⟩; have HO := HO.call hb1)
 refine hideXY HO (fun V gx hgx i0 i1 i2 i3 hown hn hs hbl => ?_)
 rw [hgx]
 clear k0 k1 ho HW HO c1
 go_upto_region 7 with (fail)
 rw [← hs]
 refine hideFn i0 i1 i2 i3 hown hs hbl (fun X j0 j1 j2 j3 f0 f1 f2 f3 hown2 hs2 hbl2 => ?_)
 clear i0 i1 i2 i3 hown hbl
 have q0 : gx < X.heap.size := by omega
 have q1 : gx + 1 < X.heap.size := by omega
 have q2 : gx + 2 < X.heap.size := by omega
 have n0 : gx ≠ w.heap.size + 2 := by omega
 have n1 : gx + 1 ≠ w.heap.size + 2 := by omega
 have n2 : gx + 2 ≠ w.heap.size + 2 := by omega
 have HX : ExX (w.heap.size + 2) w X X := ⟨fun _ _ _ _ => rfl, Nat.le_refl _, hown2, hbl2, by omega⟩
 clear hs hs2 hgx hn
 have hr : w.heap.size + 1 + 1 = w.heap.size + 2 := rfl
 rw [hr]
 generalize gx + 1 = gy at *
 generalize gx + 2 = gz at *
 generalize w.heap.size + 2 = gr at *
 go_region_held3 (fun w' => ExX gr w X w') (first | (with_reducible assumption) | (with_reducible exact ExX.call (by assumption) hb8) | (with_reducible exact ExX.call (by assumption) hb9) | ((with_reducible refine ExX.drew ?_); (with_reducible assumption)) | (with_reducible exact (((ExX.put (by assumption) _ _).put _ _).put _ _).put _ _)) (first | (go_at_call 53; (with_reducible refine (c2 _).mono ?_); rintro e w8 ⟨rfl, hb8⟩) | (go_at_call 57; (with_reducible refine (c3 _).mono ?_); rintro e w9 ⟨rfl, hb9⟩))
 go_wp2
 have h := (by with_reducible assumption : ExX _ _ _ _)
 obtain ⟨e0, e1, e2, e3⟩ := Own.read4 (n := 0) h.2.2.1
 exact bodyPost_ret (v := .tuple #[.agg #[.int .i64 v0, .int .u64 v1, .int .u64 v2, .string v3], .int .i64 0]) (by simp [results, Tryz.results12, go_sem, e0, e1, e2, e3]) rfl ⟨rfl, h.2.2.2.1⟩
set_option maxRecDepth 100000 in
set_option maxHeartbeats 4000000 in
theorem apply_1 (t a b : Int) (s : ByteArray) (t' a' b' : Int) (s' : ByteArray) (p x0 x1 y0 y1 r0 r1 v0 v1 v2 : Int) (v3 : ByteArray) (w : World)
  (c1 : ∀ w, Calls Tryz.prog 52 #[.agg #[.int .i64 t, .int .u64 a, .int .u64 b, .string s], .agg #[.int .i64 t', .int .u64 a', .int .u64 b', .string s']] w (Ret (.tuple #[.int .i64 p, .agg #[.int .u64 x0, .int .u64 x1], .agg #[.int .u64 y0, .int .u64 y1], .int .i64 0]) w))
  (c2 : ∀ w, Calls Tryz.prog 54 #[.int .i64 p, .agg #[.int .u64 x0, .int .u64 x1], .agg #[.int .u64 y0, .int .u64 y1]] w (Ret (.agg #[.int .u64 r0, .int .u64 r1]) w))
  (c3 : ∀ w, Calls Tryz.prog 57 #[.int .i64 p, .agg #[.int .u64 r0, .int .u64 r1]] w (Ret (.agg #[.int .i64 v0, .int .u64 v1, .int .u64 v2, .string v3]) w)) :
  Calls Tryz.prog 12 #[.int .i64 1, .agg #[.int .i64 t, .int .u64 a, .int .u64 b, .string s], .agg #[.int .i64 t', .int .u64 a', .int .u64 b', .string s']] w (Ret (.tuple #[.agg #[.int .i64 v0, .int .u64 v1, .int .u64 v2, .string v3], .int .i64 0]) w) := by
 go_enter Tryz.func12, Tryz.ntmps12
 go_upto_region 1 with (fail)
 refine hide2own w (fun W k0 k1 ho HW => ?_)
 have HO : ExO (w.heap.size + 2) w W (w.heap.size + 2) 4 W := ⟨HW, ho⟩
 go_upto_region 4 with (go_at_call 52; refine (c1 _).mono ?_; rintro e w1 ⟨rfl, hb1⟩; have HO := HO.call hb1)
 refine hideXY HO (fun V gx hgx i0 i1 i2 i3 hown hn hs hbl => ?_)
 rw [hgx]
 clear k0 k1 ho HW HO c1
 go_upto_region 7 with (fail)
 rw [← hs]
 refine hideFn i0 i1 i2 i3 hown hs hbl (fun X j0 j1 j2 j3 f0 f1 f2 f3 hown2 hs2 hbl2 => ?_)
 clear i0 i1 i2 i3 hown hbl
 have q0 : gx < X.heap.size := by omega
 have q1 : gx + 1 < X.heap.size := by omega
 have q2 : gx + 2 < X.heap.size := by omega
 have n0 : gx ≠ w.heap.size + 2 := by omega
 have n1 : gx + 1 ≠ w.heap.size + 2 := by omega
 have n2 : gx + 2 ≠ w.heap.size + 2 := by omega
 have HX : ExX (w.heap.size + 2) w X X := ⟨fun _ _ _ _ => rfl, Nat.le_refl _, hown2, hbl2, by omega⟩
 clear hs hs2 hgx hn
 have hr : w.heap.size + 1 + 1 = w.heap.size + 2 := rfl
 rw [hr]
 generalize gx + 1 = gy at *
 generalize gx + 2 = gz at *
 generalize w.heap.size + 2 = gr at *
 go_region_held3 (fun w' => ExX gr w X w') (first | (with_reducible assumption) | (with_reducible exact ExX.call (by assumption) hb8) | (with_reducible exact ExX.call (by assumption) hb9) | ((with_reducible refine ExX.drew ?_); (with_reducible assumption)) | (with_reducible exact (((ExX.put (by assumption) _ _).put _ _).put _ _).put _ _)) (first | (go_at_call 54; (with_reducible refine (c2 _).mono ?_); rintro e w8 ⟨rfl, hb8⟩) | (go_at_call 57; (with_reducible refine (c3 _).mono ?_); rintro e w9 ⟨rfl, hb9⟩))
 go_wp2
 have h := (by with_reducible assumption : ExX _ _ _ _)
 obtain ⟨e0, e1, e2, e3⟩ := Own.read4 (n := 0) h.2.2.1
 exact bodyPost_ret (v := .tuple #[.agg #[.int .i64 v0, .int .u64 v1, .int .u64 v2, .string v3], .int .i64 0]) (by simp [results, Tryz.results12, go_sem, e0, e1, e2, e3]) rfl ⟨rfl, h.2.2.2.1⟩
set_option maxRecDepth 100000 in
set_option maxHeartbeats 4000000 in
theorem apply_2 (t a b : Int) (s : ByteArray) (t' a' b' : Int) (s' : ByteArray) (p x0 x1 y0 y1 r0 r1 v0 v1 v2 : Int) (v3 : ByteArray) (w : World)
  (c1 : ∀ w, Calls Tryz.prog 52 #[.agg #[.int .i64 t, .int .u64 a, .int .u64 b, .string s], .agg #[.int .i64 t', .int .u64 a', .int .u64 b', .string s']] w (Ret (.tuple #[.int .i64 p, .agg #[.int .u64 x0, .int .u64 x1], .agg #[.int .u64 y0, .int .u64 y1], .int .i64 0]) w))
  (c2 : ∀ w, Calls Tryz.prog 55 #[.int .i64 p, .agg #[.int .u64 x0, .int .u64 x1], .agg #[.int .u64 y0, .int .u64 y1]] w (Ret (.agg #[.int .u64 r0, .int .u64 r1]) w))
  (c3 : ∀ w, Calls Tryz.prog 57 #[.int .i64 p, .agg #[.int .u64 r0, .int .u64 r1]] w (Ret (.agg #[.int .i64 v0, .int .u64 v1, .int .u64 v2, .string v3]) w)) :
  Calls Tryz.prog 12 #[.int .i64 2, .agg #[.int .i64 t, .int .u64 a, .int .u64 b, .string s], .agg #[.int .i64 t', .int .u64 a', .int .u64 b', .string s']] w (Ret (.tuple #[.agg #[.int .i64 v0, .int .u64 v1, .int .u64 v2, .string v3], .int .i64 0]) w) := by
 go_enter Tryz.func12, Tryz.ntmps12
 go_upto_region 1 with (fail)
 refine hide2own w (fun W k0 k1 ho HW => ?_)
 have HO : ExO (w.heap.size + 2) w W (w.heap.size + 2) 4 W := ⟨HW, ho⟩
 go_upto_region 4 with (go_at_call 52; refine (c1 _).mono ?_; rintro e w1 ⟨rfl, hb1⟩; have HO := HO.call hb1)
 refine hideXY HO (fun V gx hgx i0 i1 i2 i3 hown hn hs hbl => ?_)
 rw [hgx]
 clear k0 k1 ho HW HO c1
 go_upto_region 7 with (fail)
 rw [← hs]
 refine hideFn i0 i1 i2 i3 hown hs hbl (fun X j0 j1 j2 j3 f0 f1 f2 f3 hown2 hs2 hbl2 => ?_)
 clear i0 i1 i2 i3 hown hbl
 have q0 : gx < X.heap.size := by omega
 have q1 : gx + 1 < X.heap.size := by omega
 have q2 : gx + 2 < X.heap.size := by omega
 have n0 : gx ≠ w.heap.size + 2 := by omega
 have n1 : gx + 1 ≠ w.heap.size + 2 := by omega
 have n2 : gx + 2 ≠ w.heap.size + 2 := by omega
 have HX : ExX (w.heap.size + 2) w X X := ⟨fun _ _ _ _ => rfl, Nat.le_refl _, hown2, hbl2, by omega⟩
 clear hs hs2 hgx hn
 have hr : w.heap.size + 1 + 1 = w.heap.size + 2 := rfl
 rw [hr]
 generalize gx + 1 = gy at *
 generalize gx + 2 = gz at *
 generalize w.heap.size + 2 = gr at *
 go_region_held3 (fun w' => ExX gr w X w') (first | (with_reducible assumption) | (with_reducible exact ExX.call (by assumption) hb8) | (with_reducible exact ExX.call (by assumption) hb9) | ((with_reducible refine ExX.drew ?_); (with_reducible assumption)) | (with_reducible exact (((ExX.put (by assumption) _ _).put _ _).put _ _).put _ _)) (first | (go_at_call 55; (with_reducible refine (c2 _).mono ?_); rintro e w8 ⟨rfl, hb8⟩) | (go_at_call 57; (with_reducible refine (c3 _).mono ?_); rintro e w9 ⟨rfl, hb9⟩))
 go_wp2
 have h := (by with_reducible assumption : ExX _ _ _ _)
 obtain ⟨e0, e1, e2, e3⟩ := Own.read4 (n := 0) h.2.2.1
 exact bodyPost_ret (v := .tuple #[.agg #[.int .i64 v0, .int .u64 v1, .int .u64 v2, .string v3], .int .i64 0]) (by simp [results, Tryz.results12, go_sem, e0, e1, e2, e3]) rfl ⟨rfl, h.2.2.2.1⟩
set_option maxRecDepth 100000 in
set_option maxHeartbeats 4000000 in
theorem apply_3 (t a b : Int) (s : ByteArray) (t' a' b' : Int) (s' : ByteArray) (p x0 x1 y0 y1 r0 r1 v0 v1 v2 : Int) (v3 : ByteArray) (w : World)
  (c1 : ∀ w, Calls Tryz.prog 52 #[.agg #[.int .i64 t, .int .u64 a, .int .u64 b, .string s], .agg #[.int .i64 t', .int .u64 a', .int .u64 b', .string s']] w (Ret (.tuple #[.int .i64 p, .agg #[.int .u64 x0, .int .u64 x1], .agg #[.int .u64 y0, .int .u64 y1], .int .i64 0]) w))
  (c2 : ∀ w, Calls Tryz.prog 56 #[.int .i64 p, .agg #[.int .u64 x0, .int .u64 x1], .agg #[.int .u64 y0, .int .u64 y1]] w (Ret (.agg #[.int .u64 r0, .int .u64 r1]) w))
  (c3 : ∀ w, Calls Tryz.prog 57 #[.int .i64 p, .agg #[.int .u64 r0, .int .u64 r1]] w (Ret (.agg #[.int .i64 v0, .int .u64 v1, .int .u64 v2, .string v3]) w)) :
  Calls Tryz.prog 12 #[.int .i64 3, .agg #[.int .i64 t, .int .u64 a, .int .u64 b, .string s], .agg #[.int .i64 t', .int .u64 a', .int .u64 b', .string s']] w (Ret (.tuple #[.agg #[.int .i64 v0, .int .u64 v1, .int .u64 v2, .string v3], .int .i64 0]) w) := by
 go_enter Tryz.func12, Tryz.ntmps12
 go_upto_region 1 with (fail)
 refine hide2own w (fun W k0 k1 ho HW => ?_)
 have HO : ExO (w.heap.size + 2) w W (w.heap.size + 2) 4 W := ⟨HW, ho⟩
 go_upto_region 4 with (go_at_call 52; refine (c1 _).mono ?_; rintro e w1 ⟨rfl, hb1⟩; have HO := HO.call hb1)
 refine hideXY HO (fun V gx hgx i0 i1 i2 i3 hown hn hs hbl => ?_)
 rw [hgx]
 clear k0 k1 ho HW HO c1
 go_upto_region 7 with (fail)
 rw [← hs]
 refine hideFn i0 i1 i2 i3 hown hs hbl (fun X j0 j1 j2 j3 f0 f1 f2 f3 hown2 hs2 hbl2 => ?_)
 clear i0 i1 i2 i3 hown hbl
 have q0 : gx < X.heap.size := by omega
 have q1 : gx + 1 < X.heap.size := by omega
 have q2 : gx + 2 < X.heap.size := by omega
 have n0 : gx ≠ w.heap.size + 2 := by omega
 have n1 : gx + 1 ≠ w.heap.size + 2 := by omega
 have n2 : gx + 2 ≠ w.heap.size + 2 := by omega
 have HX : ExX (w.heap.size + 2) w X X := ⟨fun _ _ _ _ => rfl, Nat.le_refl _, hown2, hbl2, by omega⟩
 clear hs hs2 hgx hn
 have hr : w.heap.size + 1 + 1 = w.heap.size + 2 := rfl
 rw [hr]
 generalize gx + 1 = gy at *
 generalize gx + 2 = gz at *
 generalize w.heap.size + 2 = gr at *
 go_region_held3 (fun w' => ExX gr w X w') (first | (with_reducible assumption) | (with_reducible exact ExX.call (by assumption) hb8) | (with_reducible exact ExX.call (by assumption) hb9) | ((with_reducible refine ExX.drew ?_); (with_reducible assumption)) | (with_reducible exact (((ExX.put (by assumption) _ _).put _ _).put _ _).put _ _)) (first | (go_at_call 56; (with_reducible refine (c2 _).mono ?_); rintro e w8 ⟨rfl, hb8⟩) | (go_at_call 57; (with_reducible refine (c3 _).mono ?_); rintro e w9 ⟨rfl, hb9⟩))
 go_wp2
 have h := (by with_reducible assumption : ExX _ _ _ _)
 obtain ⟨e0, e1, e2, e3⟩ := Own.read4 (n := 0) h.2.2.1
 exact bodyPost_ret (v := .tuple #[.agg #[.int .i64 v0, .int .u64 v1, .int .u64 v2, .string v3], .int .i64 0]) (by simp [results, Tryz.results12, go_sem, e0, e1, e2, e3]) rfl ⟨rfl, h.2.2.2.1⟩
set_option maxRecDepth 100000 in
set_option maxHeartbeats 4000000 in
theorem apply_kind (op t a b : Int) (s : ByteArray) (t' a' b' : Int) (s' : ByteArray) (w : World) (h : ¬ (0 ≤ op ∧ op < 4)) :
  Calls Tryz.prog 12 #[.int .i64 op, .agg #[.int .i64 t, .int .u64 a, .int .u64 b, .string s], .agg #[.int .i64 t', .int .u64 a', .int .u64 b', .string s']] w (Ret (.tuple #[.agg #[.int .i64 0, .int .u64 0, .int .u64 0, .string { data := #[] }], .int .i64 15]) w) := by
 by_cases h1 : op < 0
 ·have d1 : decide (op < 0) = true := decide_eq_true h1
  clear h
  go_enter Tryz.func12, Tryz.ntmps12
  go_upto_region 1 with (fail)
  refine hide2own w (fun W k0 k1 ho HW => ?_)
  have HO : ExO (w.heap.size + 2) w W (w.heap.size + 2) 4 W := ⟨HW, ho⟩
  go_wp2
  have h := ExO.put (ExO.put (ExO.put (ExO.put HO 0 (.int .i64 0)) 1 (.int .u64 0)) 2 (.int .u64 0)) 3 (.string { data := #[] })
  obtain ⟨e0, e1, e2, e3⟩ := Own.read4 (n := 0) h.2
  exact bodyPost_ret (v := .tuple #[.agg #[.int .i64 0, .int .u64 0, .int .u64 0, .string { data := #[] }], .int .i64 15]) (by simp [results, Tryz.results12, go_sem, e0, e1, e2, e3]) rfl ⟨rfl, h.end⟩
 ·have d1 : decide (op < 0) = false := decide_eq_false h1
  have d2 : decide (4 ≤ op) = true := decide_eq_true (by omega)
  clear h
  go_enter Tryz.func12, Tryz.ntmps12
  go_upto_region 1 with (fail)
  refine hide2own w (fun W k0 k1 ho HW => ?_)
  have HO : ExO (w.heap.size + 2) w W (w.heap.size + 2) 4 W := ⟨HW, ho⟩
  go_wp2
  have h := ExO.put (ExO.put (ExO.put (ExO.put HO 0 (.int .i64 0)) 1 (.int .u64 0)) 2 (.int .u64 0)) 3 (.string { data := #[] })
  obtain ⟨e0, e1, e2, e3⟩ := Own.read4 (n := 0) h.2
  exact bodyPost_ret (v := .tuple #[.agg #[.int .i64 0, .int .u64 0, .int .u64 0, .string { data := #[] }], .int .i64 15]) (by simp [results, Tryz.results12, go_sem, e0, e1, e2, e3]) rfl ⟨rfl, h.end⟩
set_option maxRecDepth 100000 in
set_option maxHeartbeats 4000000 in
theorem apply_err (op t a b : Int) (s : ByteArray) (t' a' b' : Int) (s' : ByteArray) (p x0 x1 y0 y1 er : Int) (w : World) (h0 : 0 ≤ op) (h4 : op < 4) (he : er ≠ 0)
  (c1 : ∀ w, Calls Tryz.prog 52 #[.agg #[.int .i64 t, .int .u64 a, .int .u64 b, .string s], .agg #[.int .i64 t', .int .u64 a', .int .u64 b', .string s']] w (Ret (.tuple #[.int .i64 p, .agg #[.int .u64 x0, .int .u64 x1], .agg #[.int .u64 y0, .int .u64 y1], .int .i64 er]) w)) :
  Calls Tryz.prog 12 #[.int .i64 op, .agg #[.int .i64 t, .int .u64 a, .int .u64 b, .string s], .agg #[.int .i64 t', .int .u64 a', .int .u64 b', .string s']] w (Ret (.tuple #[.agg #[.int .i64 0, .int .u64 0, .int .u64 0, .string { data := #[] }], .int .i64 er]) w) := by
 have d1 : decide (op < 0) = false := decide_eq_false (by omega)
 have d2 : decide (4 ≤ op) = false := decide_eq_false (by omega)
 have d3 : (er != 0) = true := by simpa using he
 clear he h0 h4
 go_enter Tryz.func12, Tryz.ntmps12
 go_upto_region 1 with (fail)
 refine hide2own w (fun W k0 k1 ho HW => ?_)
 have HO : ExO (w.heap.size + 2) w W (w.heap.size + 2) 4 W := ⟨HW, ho⟩
 go_upto_region 4 with (go_at_call 52; refine (c1 _).mono ?_; rintro e w1 ⟨rfl, hb1⟩; have HO := HO.call hb1)
 refine hideXY HO (fun V gx hgx i0 i1 i2 i3 hown hn hs hbl => ?_)
 clear k0 k1 ho HW HO c1
 have HO : ExO (w.heap.size + 2) w V (w.heap.size + 2) 4 V := ⟨ExtN.refl (by omega) hbl, hown⟩
 go_wp2
 have h := ExO.put (ExO.put (ExO.put (ExO.put HO 0 (.int .i64 0)) 1 (.int .u64 0)) 2 (.int .u64 0)) 3 (.string { data := #[] })
 obtain ⟨e0, e1, e2, e3⟩ := Own.read4 (n := 0) h.2
 exact bodyPost_ret (v := .tuple #[.agg #[.int .i64 0, .int .u64 0, .int .u64 0, .string { data := #[] }], .int .i64 er]) (by simp [results, Tryz.results12, go_sem, e0, e1, e2, e3]) rfl ⟨rfl, h.end⟩
set_option maxRecDepth 100000 in
set_option maxHeartbeats 4000000 in
theorem of_SqrtOf_ok (t a b : Int) (s : ByteArray) (p x0 x1 : Int) (r0 r1 v0 v1 v2 : Int) (v3 : ByteArray) (w : World)
  (c1 : ∀ w, Calls Tryz.prog 72 #[.agg #[.int .i64 t, .int .u64 a, .int .u64 b, .string s]] w (Ret (.tuple #[.int .i64 p, .agg #[.int .u64 x0, .int .u64 x1], .int .i64 0]) w))
  (c2 : ∀ w, Calls Tryz.prog 82 #[.int .i64 p, .agg #[.int .u64 x0, .int .u64 x1]] w (Ret (.agg #[.int .u64 r0, .int .u64 r1]) w))
  (c3 : ∀ w, Calls Tryz.prog 57 #[.int .i64 p, .agg #[.int .u64 r0, .int .u64 r1]] w (Ret (.agg #[.int .i64 v0, .int .u64 v1, .int .u64 v2, .string v3]) w)) :
  Calls Tryz.prog 77 #[.agg #[.int .i64 t, .int .u64 a, .int .u64 b, .string s], .func (.func 82) #[] #[]] w (Ret (.tuple #[.agg #[.int .i64 v0, .int .u64 v1, .int .u64 v2, .string v3], .int .i64 0]) w) := by
 go_enter Tryz.func77, Tryz.ntmps77
 go_upto_region 1 with (fail)
 refine hide1own w (fun W k0 ho HW => ?_)
 have HO : ExO (w.heap.size + 1) w W (w.heap.size + 1) 4 W := ⟨HW, ho⟩
 go_wp2_with (first | (go_at_call 72; refine (c1 _).mono ?_; rintro e w1 ⟨rfl, hb1⟩; have HO := HO.call hb1) | (go_at_call 82; refine (c2 _).mono ?_; rintro e w2 ⟨rfl, hb2⟩; have HO := (HO.alloc _).call hb2) | (go_at_call 57; refine (c3 _).mono ?_; rintro e w3 ⟨rfl, hb3⟩; have HO := HO.call hb3))
 have h := ExO.put (ExO.put (ExO.put (ExO.put HO 0 (.int .i64 v0)) 1 (.int .u64 v1)) 2 (.int .u64 v2)) 3 (.string v3)
 obtain ⟨e0, e1, e2, e3⟩ := Own.read4 (n := 0) h.2
 exact bodyPost_ret (v := .tuple #[.agg #[.int .i64 v0, .int .u64 v1, .int .u64 v2, .string v3], .int .i64 0]) (by simp [results, Tryz.results77, go_sem, e0, e1, e2, e3]) rfl ⟨rfl, h.end⟩
set_option maxRecDepth 100000 in
set_option maxHeartbeats 4000000 in
theorem SqrtOf_w (t a b : Int) (s : ByteArray) (v0 v1 v2 : Int) (v3 : ByteArray) (er : Int) (w : World)
  (c1 : ∀ w, Calls Tryz.prog 77 #[.agg #[.int .i64 t, .int .u64 a, .int .u64 b, .string s], .func (.func 82) #[] #[]] w (Ret (.tuple #[.agg #[.int .i64 v0, .int .u64 v1, .int .u64 v2, .string v3], .int .i64 er]) w)) :
  Calls Tryz.prog 28 #[.agg #[.int .i64 t, .int .u64 a, .int .u64 b, .string s]] w (Ret (.tuple #[.agg #[.int .i64 v0, .int .u64 v1, .int .u64 v2, .string v3], .int .i64 er]) w) := by
 go_enter Tryz.func28, Tryz.ntmps28
 go_upto_region 1 with (fail)
 refine hide1own w (fun W k0 ho HW => ?_)
 have HO : ExO (w.heap.size + 1) w W (w.heap.size + 1) 4 W := ⟨HW, ho⟩
 go_wp2_with (go_at_call 77; refine (c1 _).mono ?_; rintro e w1 ⟨rfl, hb1⟩; have HO := HO.call hb1)
 have h := ExO.put (ExO.put (ExO.put (ExO.put HO 0 (.int .i64 v0)) 1 (.int .u64 v1)) 2 (.int .u64 v2)) 3 (.string v3)
 obtain ⟨e0, e1, e2, e3⟩ := Own.read4 (n := 0) h.2
 exact bodyPost_ret (v := .tuple #[.agg #[.int .i64 v0, .int .u64 v1, .int .u64 v2, .string v3], .int .i64 er]) (by simp [results, Tryz.results28, go_sem, e0, e1, e2, e3]) rfl ⟨rfl, h.end⟩
end Go.Proofs.YtmoimcblmmcffaaGreat.B

namespace Go.Proofs.YtmoimcblmmcffaaGreat.B
open Go.RowKit NC N PPC Go.Proofs.YtmoimcblmmcffaaGreatW.PrintWords
set_option linter.unusedSimpArgs false
set_option linter.unusedVariables false
def Blks (V : World) (L : List (Nat × Array Value)) : Prop := ∀ p ∈ L, (∀ i, V.cell? ⟨p.1, i, none⟩ = p.2[i]?) ∧ p.1 < V.heap.size
theorem Blks.call {V V' : World} {L : List (Nat × Array Value)} (h : Blks V L) (hb : Below V.heap.size V V') : Blks V' L := fun p hp =>
 ⟨fun i => ((bcell hb).1 _ i (h p hp).2).trans ((h p hp).1 i), Nat.lt_of_lt_of_le (h p hp).2 hb.size⟩
theorem blk_new' (W : World) (cs : Array Value) (t : TypeId) : Blks (W.alloc (.cells cs t (0, 0))) [(W.heap.size, cs)] := fun p hp => by
 obtain rfl := List.mem_singleton.1 hp
 exact ⟨fun i => cell_of_row _ _ i cs t (0, 0) (heap_alloc_new W _), by simp⟩
theorem hideB {P : Program} {c : Code} {Q : Exit → Act → World → Prop} {a : Act} {w W w1 : World} {cs : Array Value} {t : TypeId} {L : List (Nat × Array Value)} (hL : Blks W L) (hW : Below w.heap.size w W) (hb : Below W.heap.size W w1)
  (h : ∀ V g, w1.heap.size = g → Blks V ((g, cs) :: L) → Below w.heap.size w V → c.wp P Q a V) : c.wp P Q a (w1.alloc (.cells cs t (0, 0))) := by
 have hb2 : Below W.heap.size W (w1.alloc (.cells cs t (0, 0))) := below_alloc0 hb _
 refine h _ _ rfl (fun p hp => ?_) (hW.trans (hb2.mono hW.size))
 rcases List.mem_cons.1 hp with rfl | hp
 ·exact ⟨fun i => cell_of_row _ _ i cs t (0, 0) (heap_alloc_new w1 _), by simp⟩
 ·exact (hL.call hb2) p hp
set_option maxRecDepth 100000 in
set_option maxHeartbeats 1000000 in
theorem whole_c (re im x y : Int) (w : World) (h : formularyref08_FromInteger.f 1 re = some x) (h' : formularyref08_FromInteger.f 1 im = some y) :
  Calls Tryz.prog 51 #[.int .i64 re, .int .i64 im] w (Ret (.agg #[.int .i64 3, .int .u64 x, .int .u64 y, .string { data := #[] }]) w) := by
 have c1 : ∀ w, Calls Tryz.prog 23 #[.int .i64 1, .int .i64 re] w (Ret (.int .u64 x) w) := fun w => formularyref08_FromInteger.calls 1 re x w h
 have c2 : ∀ w, Calls Tryz.prog 23 #[.int .i64 1, .int .i64 im] w (Ret (.int .u64 y) w) := fun w => formularyref08_FromInteger.calls 1 im y w h'
 clear h h'
 go_enter Tryz.func51, Tryz.ntmps51
 go_upto_region 1 with (fail)
 refine hide0own (fun W n hn ho hlt hB => ?_)
 rw [hn]
 have HO : ExO n w W n 4 W := ⟨ExtN.refl (Nat.le_of_lt hlt) hB, ho⟩
 go_wp2_with (go_at_call 23; (first | ((with_reducible refine (c1 _).mono ?_); rintro e w1 ⟨rfl, hb1⟩; have HO := HO.call hb1) | ((with_reducible refine (c2 _).mono ?_); rintro e w1 ⟨rfl, hb1⟩; have HO := HO.call hb1)))
 have hr := Own.read4 (n := 0) ((((HO.2.set ⟨n, 0, none⟩ (.int .i64 3)).set ⟨n, 1, none⟩ (.int .u64 x)).set ⟨n, 2, none⟩ (.int .u64 y)).set ⟨n, 3, none⟩ (.string { data := #[] }))
 exact bodyPost_ret (v := .agg #[.int .i64 3, .int .u64 x, .int .u64 y, .string { data := #[] }]) (by simp [results, Tryz.results51, go_sem, hr.1, hr.2.1, hr.2.2.1, hr.2.2.2]) rfl ⟨rfl, by have hz := below_row HO.1.2.2 (.int .i64 3) (.int .u64 x) (.int .u64 y) (.string { data := #[] }) (g := n) (Nat.le_of_eq hn); exact hz⟩
theorem wh_12 (w : World) : Calls Tryz.prog 51 #[.int .i64 1, .int .i64 2] w (Ret (.agg #[.int .i64 3, .int .u64 1065353216, .int .u64 1073741824, .string { data := #[] }]) w) := whole_c 1 2 1065353216 1073741824 w (by decide +kernel) (by decide +kernel)
theorem wh_34 (w : World) : Calls Tryz.prog 51 #[.int .i64 3, .int .i64 4] w (Ret (.agg #[.int .i64 3, .int .u64 1077936128, .int .u64 1082130432, .string { data := #[] }]) w) := whole_c 3 4 1077936128 1082130432 w (by decide +kernel) (by decide +kernel)
theorem wh_m34 (w : World) : Calls Tryz.prog 51 #[.int .i64 (-3), .int .i64 4] w (Ret (.agg #[.int .i64 3, .int .u64 3225419776, .int .u64 1082130432, .string { data := #[] }]) w) := whole_c (-3) 4 3225419776 1082130432 w (by decide +kernel) (by decide +kernel)
theorem wh_11 (w : World) : Calls Tryz.prog 51 #[.int .i64 1, .int .i64 1] w (Ret (.agg #[.int .i64 3, .int .u64 1065353216, .int .u64 1065353216, .string { data := #[] }]) w) := whole_c 1 1 1065353216 1065353216 w (by decide +kernel) (by decide +kernel)
theorem wh_m510 (w : World) : Calls Tryz.prog 51 #[.int .i64 (-5), .int .i64 10] w (Ret (.agg #[.int .i64 3, .int .u64 3231711232, .int .u64 1092616192, .string { data := #[] }]) w) := whole_c (-5) 10 3231711232 1092616192 w (by decide +kernel) (by decide +kernel)
theorem both_k (w : World) : Calls Tryz.prog 52 #[.agg #[.int .i64 3, .int .u64 1065353216, .int .u64 1073741824, .string { data := #[] }], .agg #[.int .i64 3, .int .u64 1077936128, .int .u64 1082130432, .string { data := #[] }]] w (Ret (.tuple #[.int .i64 1, .agg #[.int .u64 1065353216, .int .u64 1073741824], .agg #[.int .u64 1077936128, .int .u64 1082130432], .int .i64 0]) w) := by
 have h := both_c 3 1065353216 1073741824 { data := #[] } 3 1077936128 1082130432 { data := #[] } w (by decide) (by decide) (by decide) (by decide)
 rw [show bothV 3 1065353216 1073741824 { data := #[] } 3 1077936128 1082130432 { data := #[] } = (1, 1065353216, 1073741824, 1077936128, 1082130432, 0) by decide +kernel] at h
 exact h
theorem apply_k (w : World) : Calls Tryz.prog 12 #[.int .i64 2, .agg #[.int .i64 3, .int .u64 1065353216, .int .u64 1073741824, .string { data := #[] }], .agg #[.int .i64 3, .int .u64 1077936128, .int .u64 1082130432, .string { data := #[] }]] w (Ret (.tuple #[.agg #[.int .i64 3, .int .u64 3231711232, .int .u64 1092616192, .string { data := #[] }], .int .i64 0]) w) :=
 apply_2 3 1065353216 1073741824 { data := #[] } 3 1077936128 1082130432 { data := #[] } 1 1065353216 1073741824 1077936128 1082130432 3231711232 1092616192 3 3231711232 1092616192 { data := #[] } w both_k (fun w => complexes_field_times.calls 1 1065353216 1073741824 1077936128 1082130432 3231711232 1092616192 w (by decide +kernel)) (fun w => complexes_field_value.calls 1 3231711232 1092616192 3 3231711232 1092616192 { data := #[] } w (by decide +kernel))
theorem size_k (w : World) : Calls Tryz.prog 26 #[.agg #[.int .i64 3, .int .u64 1077936128, .int .u64 1082130432, .string { data := #[] }]] w (Ret (.tuple #[.agg #[.int .i64 1, .int .u64 1084227584, .int .u64 0, .string { data := #[] }], .int .i64 0]) w) :=
 complexes_SizeOf.calls 9 3 1077936128 1082130432 { data := #[] } 1 1084227584 0 { data := #[] } 0 w (by decide +kernel)
theorem sqrt_k (w : World) : Calls Tryz.prog 28 #[.agg #[.int .i64 3, .int .u64 3225419776, .int .u64 1082130432, .string { data := #[] }]] w (Ret (.tuple #[.agg #[.int .i64 3, .int .u64 1065353216, .int .u64 1073741824, .string { data := #[] }], .int .i64 0]) w) :=
 SqrtOf_w 3 3225419776 1082130432 { data := #[] } 3 1065353216 1073741824 { data := #[] } 0 w (fun w => of_SqrtOf_ok 3 3225419776 1082130432 { data := #[] } 1 3225419776 1082130432 1065353216 1073741824 3 1065353216 1073741824 { data := #[] } w
  (fun w => complexes_open.calls 3 3225419776 1082130432 { data := #[] } 1 3225419776 1082130432 0 w (by decide +kernel)) (fun w => complexes_field_squareRoot.calls 9 1 3225419776 1082130432 1065353216 1073741824 w (by decide +kernel)) (fun w => complexes_field_value.calls 1 1065353216 1073741824 3 1065353216 1073741824 { data := #[] } w (by decide +kernel)))
theorem power_k (w : World) : Calls Tryz.prog 22 #[.agg #[.int .i64 3, .int .u64 1065353216, .int .u64 1065353216, .string { data := #[] }], .int .i64 4] w (Ret (.tuple #[.agg #[.int .i64 3, .int .u64 3229614080, .int .u64 0, .string { data := #[] }], .int .i64 0]) w) :=
 complexes_PowerOf.calls 40 3 1065353216 1065353216 { data := #[] } 4 3 3229614080 0 { data := #[] } 0 w (by decide +kernel)
theorem kd_one {w : World} {g : Nat} {x y : Int} {s : ByteArray} (h : ∀ i, w.cell? ⟨g, i, none⟩ = (#[.int .i64 3, .int .u64 x, .int .u64 y, .string s] : Array Value)[i]?) : Kd.C k24 w (some ⟨g, 0, none⟩) ([(⟨3, x, y, s⟩ : S24)] : List S24).length [(⟨3, x, y, s⟩ : S24)] := by
 refine ⟨rfl, by simp, fun _ => ⟨_, rfl, fun j p hj => ?_⟩⟩
 rcases j with _ | j
 ·obtain rfl : (⟨3, x, y, s⟩ : S24) = p := by simpa using hj
  refine ⟨[.int .i64 3, .int .u64 x, .int .u64 y, .string s], rfl, k24_mk w _, fun i u hu => ?_⟩
  have e : (⟨g, 0, none⟩ : Addr).add (0 * k24.sz + i) = ⟨g, i, none⟩ := by cases i <;> simp [Addr.add]
  rw [e, h i, ← hu]
  simp
 ·simp at hj
theorem dot_k (g1 g2 : Nat) (w : World) (h1 : ∀ i, w.cell? ⟨g1, i, none⟩ = (#[.int .i64 3, .int .u64 1065353216, .int .u64 1065353216, .string { data := #[] }] : Array Value)[i]?) (h2 : ∀ i, w.cell? ⟨g2, i, none⟩ = (#[.int .i64 3, .int .u64 1065353216, .int .u64 1065353216, .string { data := #[] }] : Array Value)[i]?) :
  Calls Tryz.prog 38 #[.int .i64 3, .slice (some ⟨g1, 0, none⟩) 1 1, .slice (some ⟨g2, 0, none⟩) 1 1] w (Ret (.tuple #[.agg #[.int .i64 3, .int .u64 1073741824, .int .u64 0, .string { data := #[] }], .int .i64 0]) w) :=
 complexes_DotOf.calls 9 3 (some ⟨g1, 0, none⟩) 1 [⟨3, 1065353216, 1065353216, { data := #[] }⟩] (some ⟨g2, 0, none⟩) 1 [⟨3, 1065353216, 1065353216, { data := #[] }⟩] 3 1073741824 0 { data := #[] } 0 w (kd_one h1) (by decide) (kd_one h2) (by decide) (by decide +kernel)
set_option maxRecDepth 100000 in
set_option maxHeartbeats 8000000 in
theorem awake_c (w : World) : Calls Tryz.prog 10 #[] w (Ret (.bool true) w) := by
 obtain ⟨z, c4⟩ : ∃ z : Int, ∀ w, Calls Tryz.prog 22 #[.agg #[.int .i64 3, .int .u64 1065353216, .int .u64 1065353216, .string { data := #[] }], .int .i64 4] w (Ret (.tuple #[.agg #[.int .i64 3, .int .u64 3229614080, .int .u64 0, .string { data := #[] }], .int .i64 0]) w) := ⟨0, fun w => power_k w⟩
 have L0 : Blks w [] := fun p hp => by cases hp
 have HE := Below.refl w.heap.size w
 go_enter Tryz.func10, Tryz.ntmps10
 go_upto_region 2 with (first | (go_at_call 51; (with_reducible refine (wh_12 _).mono ?_); rintro e wh ⟨rfl, hbh⟩; have HE := below_call HE hbh) | (go_at_call 51; (with_reducible refine (wh_34 _).mono ?_); rintro e wh ⟨rfl, hbh⟩; have HE := below_call HE hbh) | (go_at_call 12; (with_reducible refine (apply_k _).mono ?_); rintro e wa ⟨rfl, hba⟩; have HE := below_call HE hba))
 refine hideB L0 (Below.refl _ _) HE (fun V1 g1 hg1 L1 B1 => ?_)
 rw [hg1]
 clear hbh hba HE hg1
 have HE := Below.refl V1.heap.size V1
 go_upto_region 3 with (first | (go_at_call 51; (with_reducible refine (wh_34 _).mono ?_); rintro e wh ⟨rfl, hbh⟩; have HE := below_call HE hbh) | (go_at_call 26; (with_reducible refine (size_k _).mono ?_); rintro e wa ⟨rfl, hba⟩; have HE := below_call HE hba))
 refine hideB L1 B1 HE (fun V2 g2 hg2 L2 B2 => ?_)
 rw [hg2]
 clear hbh hba HE hg2
 have HE := Below.refl V2.heap.size V2
 go_upto_region 4 with (first | (go_at_call 51; (with_reducible refine (wh_m34 _).mono ?_); rintro e wh ⟨rfl, hbh⟩; have HE := below_call HE hbh) | (go_at_call 28; (with_reducible refine (sqrt_k _).mono ?_); rintro e wa ⟨rfl, hba⟩; have HE := below_call HE hba))
 refine hideB L2 B2 HE (fun V3 g3 hg3 L3 B3 => ?_)
 rw [hg3]
 clear hbh hba HE hg3
 have HE := Below.refl V3.heap.size V3
 go_upto_region 5 with (first | (go_at_call 51; (with_reducible refine (wh_11 _).mono ?_); rintro e wh ⟨rfl, hbh⟩; have HE := below_call HE hbh) | (go_at_call 22; (with_reducible refine (c4 _).mono ?_); rintro e wa ⟨rfl, hba⟩; have HE := below_call HE hba))
 refine hideB L3 B3 HE (fun V4 g4 hg4 L4 B4 => ?_)
 rw [hg4]
 clear hbh hba HE hg4
 have HE := Below.refl V4.heap.size V4
 go_upto_region 6 with (first | (go_at_call 51; (with_reducible refine (wh_11 _).mono ?_); rintro e wh ⟨rfl, hbh⟩; first | have HE := below_call HE hbh | (have HS := (blk_new' _ _ _).call hbh; have HE := below_call (below_alloc0 HE _) hbh)) | (go_at_call 38; refine (dot_k _ _ _ ((HS.call (below_alloc0 (Below.refl _ _) _)) _ List.mem_cons_self).1 ((blk_new' _ _ _) _ List.mem_cons_self).1).mono ?_; rintro e wa ⟨rfl, hba⟩; have HE := below_call (below_alloc0 HE _) hba))
 refine hideB L4 B4 HE (fun V5 g5 hg5 L5 B5 => ?_)
 rw [hg5]
 clear hbh hba HE hg5 L4 L3 L2 L1 L0
 have a1 := L5 _ (.tail _ (.tail _ (.tail _ (.tail _ (.head _)))))
 have a2 := L5 _ (.tail _ (.tail _ (.tail _ (.head _))))
 have a3 := L5 _ (.tail _ (.tail _ (.head _)))
 have a4 := L5 _ (.tail _ (.head _))
 have a5 := L5 _ (.head _)
 obtain ⟨k1, s1⟩ := a1
 obtain ⟨k2, s2⟩ := a2
 obtain ⟨k3, s3⟩ := a3
 obtain ⟨k4, s4⟩ := a4
 obtain ⟨k5, s5⟩ := a5
 dsimp only at k1 k2 k3 k4 k5 s1 s2 s3 s4 s5
 clear L5
 have HV : Ext w V5 V5 := Ext.refl B5
 first | (go_region_held3 (fun w' => Ext w V5 w') (first | assumption | (with_reducible exact Ext.call (by assumption) hb9) | ((with_reducible refine Ext.drew ?_); assumption)) (first | (go_at_call 51; (with_reducible refine (wh_m510 _).mono ?_); rintro e w9 ⟨rfl, hb9⟩) | (go_at_call 51; (with_reducible refine (wh_12 _).mono ?_); rintro e w9 ⟨rfl, hb9⟩))) | fail
 go_wp2
 go_ret
 exact ⟨rfl, Ext.end (by assumption)⟩
end Go.Proofs.YtmoimcblmmcffaaGreat.B

namespace Go.Proofs.YtmoimcblmmcffaaGreat.B
open Go.RowKit NC N PPC PRA Go.Proofs.YtmoimcblmmcffaaGreatW.PrintWords
set_option linter.unusedSimpArgs false
set_option linter.unusedVariables false
theorem valueErr_f {t a b : Int} (S : ByteArray) (ha : U64 a) (hb : U64 b) : formularyref10_ValueErr.f t a b S = some (openErrV t a b S) := by
 unfold formularyref10_ValueErr.f formularyref10_TypeErr.f openErrV ctypeErrV cpart bitsErrV
 by_cases h3 : t = 3
 ·subst h3
  simp only [if_true, Option.bind_some]
  by_cases hs : S.toList = []
  ·rw [if_pos hs, if_pos hs]
   by_cases h1 : a ≥ 4294967296
   ·rw [if_pos h1, if_neg]
    simp; omega
   ·rw [if_neg h1]
    by_cases h2 : b ≥ 4294967296
    ·rw [if_pos h2, if_neg]
     simp; omega
    ·rw [if_neg h2, if_pos]
     simp; omega
  ·rw [if_neg hs, if_neg hs]
 ·by_cases h4 : t = 4
  ·subst h4
   by_cases hs : S.toList = []
   ·simp [hs]
   ·simp [hs]
  ·rw [if_neg h3, if_neg h4]
   simp [h3, h4]
def twoV (t a b : Int) (S : ByteArray) (t' a' b' : Int) (S' : ByteArray) : Int :=
 if openErrV t a b S = 0 then (if openErrV t' a' b' S' = 0 then (if t = t' then 0 else 27) else openErrV t' a' b' S') else openErrV t a b S
theorem twoErr_f {t a b t' a' b' : Int} (S S' : ByteArray) (ha : U64 a) (hb : U64 b) (ha' : U64 a') (hb' : U64 b') : formularyref10_TwoErr.f t a b S t' a' b' S' = some (twoV t a b S t' a' b' S') := by
 unfold formularyref10_TwoErr.f twoV
 rw [valueErr_f S ha hb, valueErr_f S' ha' hb', Option.bind_some, Option.bind_some]
 by_cases h : openErrV t a b S = 0
 ·rw [if_pos h, if_pos h]
  by_cases h2 : openErrV t' a' b' S' = 0
  ·rw [if_pos h2, if_pos h2]
   by_cases h3 : t = t'
   ·rw [if_pos h3, if_pos h3]
   ·rw [if_neg h3, if_neg h3]
  ·rw [if_neg h2, if_neg h2]
 ·rw [if_neg h, if_neg h]
theorem open_ok {t a b : Int} {S : ByteArray} (ha : U64 a) (hb : U64 b) (h : openErrV t a b S = 0) : ∃ s x y, t = ct s ∧ a = ((x : Nat) : Int) ∧ b = ((y : Nat) : Int) ∧ x < 2 * signN s ∧ y < 2 * signN s := by
 obtain ⟨x, rfl⟩ := Int.eq_ofNat_of_zero_le ha.1
 obtain ⟨y, rfl⟩ := Int.eq_ofNat_of_zero_le hb.1
 unfold openErrV ctypeErrV cpart at h
 by_cases h3 : t = 3
 ·subst h3
  simp only [if_true] at h
  by_cases hs : S.toList = []
  ·rw [if_pos hs] at h
   by_cases hb : bitsErrV 1 [(x : Int), (y : Int)] = 0
   ·refine ⟨true, x, y, rfl, rfl, rfl, ?_, ?_⟩
    all_goals
     unfold bitsErrV at hb
     simp at hb
     show _ < 4294967296
     omega
   ·rw [if_neg hb] at h; cases h
  ·rw [if_neg hs] at h; cases h
 ·by_cases h4 : t = 4
  ·subst h4
   refine ⟨false, x, y, rfl, rfl, rfl, ?_, ?_⟩
   ·have := ha.2; show _ < 18446744073709551616; omega
   ·have := hb.2; show _ < 18446744073709551616; omega
  ·rw [if_neg h3, if_neg h4, if_neg (by decide)] at h; exact absurd h (by decide)
theorem both_err {t a b t' a' b' : Int} {S S' : ByteArray} : (bothV t a b S t' a' b' S').2.2.2.2.2 = twoV t a b S t' a' b' S' := by
 unfold bothV twoV
 by_cases h : openErrV t a b S = 0
 ·rw [if_pos h, if_pos h]
  simp only []
  by_cases h2 : openErrV t' a' b' S' = 0
  ·rw [if_pos h2, if_pos h2]
   have g1 : t = 3 ∨ t = 4 := by
    unfold openErrV ctypeErrV at h
    by_cases k3 : t = 3
    ·exact .inl k3
    ·by_cases k4 : t = 4
     ·exact .inr k4
     ·rw [if_neg k3, if_neg k4, if_neg (by decide)] at h; exact absurd h (by decide)
   have g2 : t' = 3 ∨ t' = 4 := by
    unfold openErrV ctypeErrV at h2
    by_cases k3 : t' = 3
    ·exact .inl k3
    ·by_cases k4 : t' = 4
     ·exact .inr k4
     ·rw [if_neg k3, if_neg k4, if_neg (by decide)] at h2; exact absurd h2 (by decide)
   rcases g1 with rfl | rfl <;> rcases g2 with rfl | rfl <;> rfl
  ·rw [if_neg h2, if_neg h2]
 ·rw [if_neg h, if_neg h]
end Go.Proofs.YtmoimcblmmcffaaGreat.B

namespace Go.Proofs.YtmoimcblmmcffaaGreat.B
open Go.RowKit NC N PPC PRA Go.Proofs.YtmoimcblmmcffaaGreatW.PrintWords
set_option linter.unusedSimpArgs false
set_option linter.unusedVariables false
theorem brief_c (t a b : Int) (S : ByteArray) (w : World) : Calls Tryz.prog 11 #[.agg #[.int .i64 t, .int .u64 a, .int .u64 b, .string S]] w (Ret (.bool (decide ((S.size : Int) ≤ 60))) w) := formularylaw10_brief.calls t a b S _ w rfl
set_option maxRecDepth 100000 in
set_option maxHeartbeats 4000000 in
theorem capply_long1 (op t a b : Int) (S : ByteArray) (t' a' b' : Int) (S' : ByteArray) (w : World) (h : decide ((S.size : Int) ≤ 60) = false) : Calls Tryz.prog 3 #[.int .i64 op, .agg #[.int .i64 t, .int .u64 a, .int .u64 b, .string S], .agg #[.int .i64 t', .int .u64 a', .int .u64 b', .string S']] w (Ret (.bool true) w) := by
 have c1 := fun w => brief_c t a b S w
 have c2 := fun w => brief_c t' a' b' S' w
 rw [h] at c1
 clear h
 go_enter Tryz.func3, Tryz.ntmps3
 go_upto_region 1 with (fail)
 refine hide2 w (fun W k0 k1 s0 s1 HE => ?_)
 have L0 : Blks W [(w.heap.size, #[.int .i64 t, .int .u64 a, .int .u64 b, .string S]), (w.heap.size + 1, #[.int .i64 t', .int .u64 a', .int .u64 b', .string S'])] := fun p hp => by
  rcases List.mem_cons.1 hp with rfl | hp
  ·exact ⟨k0, s0⟩
  ·obtain rfl := List.mem_singleton.1 hp
   exact ⟨k1, s1⟩
 have HB := Below.refl W.heap.size W
 have HX := HE
 go_wp2_with (first | (go_at_call 10; (with_reducible refine (awake_c _).mono ?_); rintro e w1 ⟨rfl, hb1⟩; have HB := below_call HB hb1; have HX := Ext.call HX hb1) | (go_at_call 11; (first | ((with_reducible refine (c1 _).mono ?_); rintro e w1 ⟨rfl, hb1⟩; have HB := below_call HB hb1; have HX := Ext.call HX hb1) | ((with_reducible refine (c2 _).mono ?_); rintro e w1 ⟨rfl, hb1⟩; have HB := below_call HB hb1; have HX := Ext.call HX hb1))))
 go_ret
 exact ⟨rfl, below_call HE.2.2.2 HB⟩
set_option maxRecDepth 100000 in
set_option maxHeartbeats 4000000 in
theorem capply_long2 (op t a b : Int) (S : ByteArray) (t' a' b' : Int) (S' : ByteArray) (w : World) (h : decide ((S.size : Int) ≤ 60) = true) (h' : decide ((S'.size : Int) ≤ 60) = false) : Calls Tryz.prog 3 #[.int .i64 op, .agg #[.int .i64 t, .int .u64 a, .int .u64 b, .string S], .agg #[.int .i64 t', .int .u64 a', .int .u64 b', .string S']] w (Ret (.bool true) w) := by
 have c1 := fun w => brief_c t a b S w
 have c2 := fun w => brief_c t' a' b' S' w
 rw [h] at c1
 rw [h'] at c2
 clear h h'
 go_enter Tryz.func3, Tryz.ntmps3
 go_upto_region 1 with (fail)
 refine hide2 w (fun W k0 k1 s0 s1 HE => ?_)
 have L0 : Blks W [(w.heap.size, #[.int .i64 t, .int .u64 a, .int .u64 b, .string S]), (w.heap.size + 1, #[.int .i64 t', .int .u64 a', .int .u64 b', .string S'])] := fun p hp => by
  rcases List.mem_cons.1 hp with rfl | hp
  ·exact ⟨k0, s0⟩
  ·obtain rfl := List.mem_singleton.1 hp
   exact ⟨k1, s1⟩
 have HB := Below.refl W.heap.size W
 have HX := HE
 go_wp2_with (first | (go_at_call 10; (with_reducible refine (awake_c _).mono ?_); rintro e w1 ⟨rfl, hb1⟩; have HB := below_call HB hb1; have HX := Ext.call HX hb1) | (go_at_call 11; (first | ((with_reducible refine (c1 _).mono ?_); rintro e w1 ⟨rfl, hb1⟩; have HB := below_call HB hb1; have HX := Ext.call HX hb1) | ((with_reducible refine (c2 _).mono ?_); rintro e w1 ⟨rfl, hb1⟩; have HB := below_call HB hb1; have HX := Ext.call HX hb1))))
 go_ret
 exact ⟨rfl, below_call HE.2.2.2 HB⟩
set_option maxRecDepth 100000 in
set_option maxHeartbeats 4000000 in
theorem capply_kind (op t a b : Int) (S : ByteArray) (t' a' b' : Int) (S' : ByteArray) (v : Int) (w : World) (c1 : ∀ w, Calls Tryz.prog 11 #[.agg #[.int .i64 t, .int .u64 a, .int .u64 b, .string S]] w (Ret (.bool true) w)) (c2 : ∀ w, Calls Tryz.prog 11 #[.agg #[.int .i64 t', .int .u64 a', .int .u64 b', .string S']] w (Ret (.bool true) w))
  (c3 : ∀ w, Calls Tryz.prog 12 #[.int .i64 op, .agg #[.int .i64 t, .int .u64 a, .int .u64 b, .string S], .agg #[.int .i64 t', .int .u64 a', .int .u64 b', .string S']] w (Ret (.tuple #[.agg #[.int .i64 0, .int .u64 0, .int .u64 0, .string { data := #[] }], .int .i64 15]) w))
  (c4 : ∀ w, Calls Tryz.prog 13 #[.agg #[.int .i64 t, .int .u64 a, .int .u64 b, .string S], .agg #[.int .i64 t', .int .u64 a', .int .u64 b', .string S']] w (Ret (.int .i64 v) w)) (c5 : ∀ w, Calls Tryz.prog 14 #[.int .i64 op, .int .i64 0, .int .i64 3] w (Ret (.bool false) w)) :
  Calls Tryz.prog 3 #[.int .i64 op, .agg #[.int .i64 t, .int .u64 a, .int .u64 b, .string S], .agg #[.int .i64 t', .int .u64 a', .int .u64 b', .string S']] w (Ret (.bool true) w) := by
 go_enter Tryz.func3, Tryz.ntmps3
 go_upto_region 1 with (fail)
 refine hide2 w (fun W k0 k1 s0 s1 HE => ?_)
 have L0 : Blks W [(w.heap.size, #[.int .i64 t, .int .u64 a, .int .u64 b, .string S]), (w.heap.size + 1, #[.int .i64 t', .int .u64 a', .int .u64 b', .string S'])] := fun p hp => by
  rcases List.mem_cons.1 hp with rfl | hp
  ·exact ⟨k0, s0⟩
  ·obtain rfl := List.mem_singleton.1 hp
   exact ⟨k1, s1⟩
 have HB := Below.refl W.heap.size W
 have HX := HE
 go_upto_region 6 with (first | (go_at_call 10; (with_reducible refine (awake_c _).mono ?_); rintro e w1 ⟨rfl, hb1⟩; have HB := below_call HB hb1; have HX := Ext.call HX hb1) | (go_at_call 11; (first | ((with_reducible refine (c1 _).mono ?_); rintro e w1 ⟨rfl, hb1⟩; have HB := below_call HB hb1; have HX := Ext.call HX hb1) | ((with_reducible refine (c2 _).mono ?_); rintro e w1 ⟨rfl, hb1⟩; have HB := below_call HB hb1; have HX := Ext.call HX hb1))) | (go_at_call 12; (with_reducible refine (c3 _).mono ?_); rintro e w2 ⟨rfl, hb2⟩; have HB := below_call HB hb2; have HX := Ext.call HX hb2))
 refine hideB L0 HE.2.2.2 HB (fun V g hg L1 B1 => ?_)
 rw [hg]
 have a0 := L1 _ (.head _)
 have a1 := L1 _ (.tail _ (.head _))
 have a2 := L1 _ (.tail _ (.tail _ (.head _)))
 obtain ⟨i0, j0⟩ := a0
 obtain ⟨i1, j1⟩ := a1
 obtain ⟨i2, j2⟩ := a2
 dsimp only at i0 i1 i2 j0 j1 j2
 clear L1 L0 k0 k1 s0 s1 HE HB HX hg c1 c2 c3
 have HV : Ext w V V := Ext.refl B1
 go_wp2_with (first | (go_at_call 13; (with_reducible refine (c4 _).mono ?_); rintro e w3 ⟨rfl, hb3⟩; have HV := Ext.call HV hb3) | (go_at_call 14; (with_reducible refine (c5 _).mono ?_); rintro e w4 ⟨rfl, hb4⟩; have HV := Ext.call HV hb4))
 go_ret
 exact ⟨rfl, HV.2.2.2⟩
set_option maxRecDepth 100000 in
set_option maxHeartbeats 4000000 in
theorem capply_err (op t a b : Int) (S : ByteArray) (t' a' b' : Int) (S' : ByteArray) (er : Int) (he : (er != 0) = true) (w : World) (c1 : ∀ w, Calls Tryz.prog 11 #[.agg #[.int .i64 t, .int .u64 a, .int .u64 b, .string S]] w (Ret (.bool true) w)) (c2 : ∀ w, Calls Tryz.prog 11 #[.agg #[.int .i64 t', .int .u64 a', .int .u64 b', .string S']] w (Ret (.bool true) w))
  (c3 : ∀ w, Calls Tryz.prog 12 #[.int .i64 op, .agg #[.int .i64 t, .int .u64 a, .int .u64 b, .string S], .agg #[.int .i64 t', .int .u64 a', .int .u64 b', .string S']] w (Ret (.tuple #[.agg #[.int .i64 0, .int .u64 0, .int .u64 0, .string { data := #[] }], .int .i64 er]) w))
  (c4 : ∀ w, Calls Tryz.prog 13 #[.agg #[.int .i64 t, .int .u64 a, .int .u64 b, .string S], .agg #[.int .i64 t', .int .u64 a', .int .u64 b', .string S']] w (Ret (.int .i64 er) w)) (c5 : ∀ w, Calls Tryz.prog 14 #[.int .i64 op, .int .i64 0, .int .i64 3] w (Ret (.bool true) w)) :
  Calls Tryz.prog 3 #[.int .i64 op, .agg #[.int .i64 t, .int .u64 a, .int .u64 b, .string S], .agg #[.int .i64 t', .int .u64 a', .int .u64 b', .string S']] w (Ret (.bool true) w) := by
 go_enter Tryz.func3, Tryz.ntmps3
 go_upto_region 1 with (fail)
 refine hide2 w (fun W k0 k1 s0 s1 HE => ?_)
 have L0 : Blks W [(w.heap.size, #[.int .i64 t, .int .u64 a, .int .u64 b, .string S]), (w.heap.size + 1, #[.int .i64 t', .int .u64 a', .int .u64 b', .string S'])] := fun p hp => by
  rcases List.mem_cons.1 hp with rfl | hp
  ·exact ⟨k0, s0⟩
  ·obtain rfl := List.mem_singleton.1 hp
   exact ⟨k1, s1⟩
 have HB := Below.refl W.heap.size W
 have HX := HE
 go_upto_region 6 with (first | (go_at_call 10; (with_reducible refine (awake_c _).mono ?_); rintro e w1 ⟨rfl, hb1⟩; have HB := below_call HB hb1; have HX := Ext.call HX hb1) | (go_at_call 11; (first | ((with_reducible refine (c1 _).mono ?_); rintro e w1 ⟨rfl, hb1⟩; have HB := below_call HB hb1; have HX := Ext.call HX hb1) | ((with_reducible refine (c2 _).mono ?_); rintro e w1 ⟨rfl, hb1⟩; have HB := below_call HB hb1; have HX := Ext.call HX hb1))) | (go_at_call 12; (with_reducible refine (c3 _).mono ?_); rintro e w2 ⟨rfl, hb2⟩; have HB := below_call HB hb2; have HX := Ext.call HX hb2))
 refine hideB L0 HE.2.2.2 HB (fun V g hg L1 B1 => ?_)
 rw [hg]
 have a0 := L1 _ (.head _)
 have a1 := L1 _ (.tail _ (.head _))
 have a2 := L1 _ (.tail _ (.tail _ (.head _)))
 obtain ⟨i0, j0⟩ := a0
 obtain ⟨i1, j1⟩ := a1
 obtain ⟨i2, j2⟩ := a2
 dsimp only at i0 i1 i2 j0 j1 j2
 clear L1 L0 k0 k1 s0 s1 HE HB HX hg c1 c2 c3
 have HV : Ext w V V := Ext.refl B1
 go_wp2_with (first | (go_at_call 13; (with_reducible refine (c4 _).mono ?_); rintro e w3 ⟨rfl, hb3⟩; have HV := Ext.call HV hb3) | (go_at_call 14; (with_reducible refine (c5 _).mono ?_); rintro e w4 ⟨rfl, hb4⟩; have HV := Ext.call HV hb4))
 go_ret
 exact ⟨rfl, HV.2.2.2⟩
set_option maxRecDepth 100000 in
set_option maxHeartbeats 8000000 in
theorem capply_ok (op t a b : Int) (S : ByteArray) (t' a' b' : Int) (S' : ByteArray) (r0 r1 : Int) (w : World) (c1 : ∀ w, Calls Tryz.prog 11 #[.agg #[.int .i64 t, .int .u64 a, .int .u64 b, .string S]] w (Ret (.bool true) w)) (c2 : ∀ w, Calls Tryz.prog 11 #[.agg #[.int .i64 t', .int .u64 a', .int .u64 b', .string S']] w (Ret (.bool true) w))
  (c3 : ∀ w, Calls Tryz.prog 12 #[.int .i64 op, .agg #[.int .i64 t, .int .u64 a, .int .u64 b, .string S], .agg #[.int .i64 t', .int .u64 a', .int .u64 b', .string S']] w (Ret (.tuple #[.agg #[.int .i64 t, .int .u64 r0, .int .u64 r1, .string { data := #[] }], .int .i64 0]) w))
  (c4 : ∀ w, Calls Tryz.prog 13 #[.agg #[.int .i64 t, .int .u64 a, .int .u64 b, .string S], .agg #[.int .i64 t', .int .u64 a', .int .u64 b', .string S']] w (Ret (.int .i64 0) w)) (c5 : ∀ w, Calls Tryz.prog 14 #[.int .i64 op, .int .i64 0, .int .i64 3] w (Ret (.bool true) w))
  (c6 : ∀ w, Calls Tryz.prog 15 #[.int .i64 op, .agg #[.int .i64 t, .int .u64 a, .int .u64 b, .string S], .agg #[.int .i64 t', .int .u64 a', .int .u64 b', .string S']] w (Ret (.agg #[.int .i64 t, .int .u64 r0, .int .u64 r1, .string { data := #[] }]) w)) :
  Calls Tryz.prog 3 #[.int .i64 op, .agg #[.int .i64 t, .int .u64 a, .int .u64 b, .string S], .agg #[.int .i64 t', .int .u64 a', .int .u64 b', .string S']] w (Ret (.bool true) w) := by
 go_enter Tryz.func3, Tryz.ntmps3
 go_upto_region 1 with (fail)
 refine hide2 w (fun W k0 k1 s0 s1 HE => ?_)
 have L0 : Blks W [(w.heap.size, #[.int .i64 t, .int .u64 a, .int .u64 b, .string S]), (w.heap.size + 1, #[.int .i64 t', .int .u64 a', .int .u64 b', .string S'])] := fun p hp => by
  rcases List.mem_cons.1 hp with rfl | hp
  ·exact ⟨k0, s0⟩
  ·obtain rfl := List.mem_singleton.1 hp
   exact ⟨k1, s1⟩
 have HB := Below.refl W.heap.size W
 have HX := HE
 go_upto_region 6 with (first | (go_at_call 10; (with_reducible refine (awake_c _).mono ?_); rintro e w1 ⟨rfl, hb1⟩; have HB := below_call HB hb1; have HX := Ext.call HX hb1) | (go_at_call 11; (first | ((with_reducible refine (c1 _).mono ?_); rintro e w1 ⟨rfl, hb1⟩; have HB := below_call HB hb1; have HX := Ext.call HX hb1) | ((with_reducible refine (c2 _).mono ?_); rintro e w1 ⟨rfl, hb1⟩; have HB := below_call HB hb1; have HX := Ext.call HX hb1))) | (go_at_call 12; (with_reducible refine (c3 _).mono ?_); rintro e w2 ⟨rfl, hb2⟩; have HB := below_call HB hb2; have HX := Ext.call HX hb2))
 refine hideB L0 HE.2.2.2 HB (fun V g hg L1 B1 => ?_)
 rw [hg]
 have a0 := L1 _ (.head _)
 have a1 := L1 _ (.tail _ (.head _))
 have a2 := L1 _ (.tail _ (.tail _ (.head _)))
 obtain ⟨i0, j0⟩ := a0
 obtain ⟨i1, j1⟩ := a1
 obtain ⟨i2, j2⟩ := a2
 dsimp only at i0 i1 i2 j0 j1 j2
 clear L1 L0 k0 k1 s0 s1 HE HB HX hg c1 c2 c3
 have HV : Ext w V V := Ext.refl B1
 go_upto_region 11 with (first | (go_at_call 13; (with_reducible refine (c4 _).mono ?_); rintro e w3 ⟨rfl, hb3⟩; have HV := Ext.call HV hb3) | (go_at_call 14; (with_reducible refine (c5 _).mono ?_); rintro e w4 ⟨rfl, hb4⟩; have HV := Ext.call HV hb4))
 go_region_held3 (fun w' => Ext w V w') (first | (with_reducible assumption) | (with_reducible exact Ext.call (by assumption) hb9) | ((with_reducible refine Ext.drew ?_); (with_reducible assumption))) ((go_at_call 15; (with_reducible refine (c6 _).mono ?_); rintro e w9 ⟨rfl, hb9⟩))
 go_wp2
 go_ret
 exact ⟨by first | rfl | (simp; done), by have HX := (by with_reducible assumption : Ext w V _); exact HX.2.2.2⟩
end Go.Proofs.YtmoimcblmmcffaaGreat.B

namespace Go.Proofs.YtmoimcblmmcffaaGreat.B
open Go.RowKit NC N PPC PRA Go.Proofs.YtmoimcblmmcffaaGreatW.PrintWords
set_option linter.unusedSimpArgs false
set_option linter.unusedVariables false
theorem law_capply (op t a b : Int) (S : ByteArray) (t' a' b' : Int) (S' : ByteArray) (w : World) (ha : U64 a) (hb : U64 b) (ha' : U64 a') (hb' : U64 b') :
  Calls Tryz.prog 3 #[.int .i64 op, .agg #[.int .i64 t, .int .u64 a, .int .u64 b, .string S], .agg #[.int .i64 t', .int .u64 a', .int .u64 b', .string S']] w (Ret (.bool true) w) := by
 by_cases h1 : (S.size : Int) ≤ 60
 ·by_cases h2 : (S'.size : Int) ≤ 60
  ·have c1 := fun w => brief_c t a b S w
   have c2 := fun w => brief_c t' a' b' S' w
   rw [decide_eq_true h1] at c1
   rw [decide_eq_true h2] at c2
   have c4 : ∀ w, Calls Tryz.prog 13 #[.agg #[.int .i64 t, .int .u64 a, .int .u64 b, .string S], .agg #[.int .i64 t', .int .u64 a', .int .u64 b', .string S']] w (Ret (.int .i64 (twoV t a b S t' a' b' S')) w) := fun w => formularyref10_TwoErr.calls t a b S t' a' b' S' _ w (twoErr_f S S' ha hb ha' hb')
   have c5 := fun w => within_c op 0 3 w
   by_cases hop : 0 ≤ op ∧ op < 4
   ·rw [decide_eq_true (show 0 ≤ op ∧ op ≤ 3 by omega)] at c5
    have cb := fun w => both_c t a b S t' a' b' S' w ha hb ha' hb'
    by_cases hv : twoV t a b S t' a' b' S' = 0
    ·rw [hv] at c4
     have hv2 := hv
     unfold twoV at hv2
     have e1 : openErrV t a b S = 0 := by
      by_cases h : openErrV t a b S = 0
      ·exact h
      ·rw [if_neg h] at hv2; exact absurd hv2 h
     rw [if_pos e1] at hv2
     have e2 : openErrV t' a' b' S' = 0 := by
      by_cases h : openErrV t' a' b' S' = 0
      ·exact h
      ·rw [if_neg h] at hv2; exact absurd hv2 h
     rw [if_pos e2] at hv2
     obtain rfl : t = t' := by
      by_cases h : t = t'
      ·exact h
      ·rw [if_neg h] at hv2; exact absurd hv2 (by decide)
     have hbv : bothV t a b S t a' b' S' = (cpart t, a, b, a', b', 0) := by unfold bothV; rw [if_pos e1, if_pos e2, if_pos rfl]
     rw [hbv] at cb
     obtain ⟨s, x1, x2, rfl, rfl, rfl, hx1, hx2⟩ := open_ok ha hb e1
     obtain ⟨s', y1, y2, hs', rfl, rfl, hy1, hy2⟩ := open_ok ha' hb' e2
     obtain rfl : s = s' := by cases s <;> cases s' <;> first | rfl | (exact absurd hs' (by decide))
     rw [cpart_ct] at cb
     have hops : op = 0 ∨ op = 1 ∨ op = 2 ∨ op = 3 := by omega
     rcases hops with rfl | rfl | rfl | rfl
     ·obtain ⟨p, q, hf, hr⟩ := op_plus S S' hx1 hx2 hy1 hy2
      exact capply_ok _ _ _ _ _ _ _ _ _ (p : Int) (q : Int) w c1 c2 (fun w => apply_0 _ _ _ _ _ _ _ _ _ _ _ _ _ _ _ _ _ _ _ w cb (fun w => complexes_field_plus.calls _ _ _ _ _ _ _ w hf) (fun w => complexes_field_value.calls _ _ _ _ _ _ _ w (fvalue s p q))) c4 c5 (fun w => formularyref10_Apply.calls _ _ _ _ _ _ _ _ _ _ _ _ _ w hr)
     ·obtain ⟨p, q, hf, hr⟩ := op_minus S S' hx1 hx2 hy1 hy2
      exact capply_ok _ _ _ _ _ _ _ _ _ (p : Int) (q : Int) w c1 c2 (fun w => apply_1 _ _ _ _ _ _ _ _ _ _ _ _ _ _ _ _ _ _ _ w cb (fun w => complexes_field_minus.calls _ _ _ _ _ _ _ w hf) (fun w => complexes_field_value.calls _ _ _ _ _ _ _ w (fvalue s p q))) c4 c5 (fun w => formularyref10_Apply.calls _ _ _ _ _ _ _ _ _ _ _ _ _ w hr)
     ·obtain ⟨p, q, hf, hr⟩ := op_times S S' hx1 hx2 hy1 hy2
      exact capply_ok _ _ _ _ _ _ _ _ _ (p : Int) (q : Int) w c1 c2 (fun w => apply_2 _ _ _ _ _ _ _ _ _ _ _ _ _ _ _ _ _ _ _ w cb (fun w => complexes_field_times.calls _ _ _ _ _ _ _ w hf) (fun w => complexes_field_value.calls _ _ _ _ _ _ _ w (fvalue s p q))) c4 c5 (fun w => formularyref10_Apply.calls _ _ _ _ _ _ _ _ _ _ _ _ _ w hr)
     ·obtain ⟨p, q, hf, hr⟩ := op_over S S' hx1 hx2 hy1 hy2
      exact capply_ok _ _ _ _ _ _ _ _ _ (p : Int) (q : Int) w c1 c2 (fun w => apply_3 _ _ _ _ _ _ _ _ _ _ _ _ _ _ _ _ _ _ _ w cb (fun w => complexes_field_over.calls _ _ _ _ _ _ _ w hf) (fun w => complexes_field_value.calls _ _ _ _ _ _ _ w (fvalue s p q))) c4 c5 (fun w => formularyref10_Apply.calls _ _ _ _ _ _ _ _ _ _ _ _ _ w hr)
    ·have he := both_err (t := t) (a := a) (b := b) (t' := t') (a' := a') (b' := b') (S := S) (S' := S')
     have cb2 : ∀ w, Calls Tryz.prog 52 #[.agg #[.int .i64 t, .int .u64 a, .int .u64 b, .string S], .agg #[.int .i64 t', .int .u64 a', .int .u64 b', .string S']] w (Ret (.tuple #[.int .i64 (bothV t a b S t' a' b' S').1, .agg #[.int .u64 (bothV t a b S t' a' b' S').2.1, .int .u64 (bothV t a b S t' a' b' S').2.2.1], .agg #[.int .u64 (bothV t a b S t' a' b' S').2.2.2.1, .int .u64 (bothV t a b S t' a' b' S').2.2.2.2.1], .int .i64 (twoV t a b S t' a' b' S')]) w) := fun w => by
      have := cb w
      unfold bothVal at this
      rw [he] at this
      exact this
     exact capply_err op t a b S t' a' b' S' _ (by simpa using hv) w c1 c2 (fun w => apply_err op t a b S t' a' b' S' _ _ _ _ _ _ w hop.1 hop.2 hv cb2) c4 c5
   ·rw [decide_eq_false (show ¬ (0 ≤ op ∧ op ≤ 3) by omega)] at c5
    exact capply_kind op t a b S t' a' b' S' _ w c1 c2 (fun w => apply_kind op t a b S t' a' b' S' w hop) c4 c5
  ·exact capply_long2 op t a b S t' a' b' S' w (decide_eq_true h1) (decide_eq_false h2)
 ·exact capply_long1 op t a b S t' a' b' S' w (decide_eq_false h1)
end Go.Proofs.YtmoimcblmmcffaaGreat.B

namespace Go.Proofs.YtmoimcblmmcffaaGreat.Law
open Go.ChangeShapes Go.WideShapes Go.ChangeAt Go.RowKit
open Go.ChangeMaps (open_string shut_string)
set_option linter.unusedVariables false
theorem own : ownKnob Tryz.prog.godebug = none := by kernel_rfl
theorem u64_wf {a : Int} (h : (Lit.int .u64 a).wf = true) : 0 ≤ a ∧ a ≤ 18446744073709551615 := by
 have h' : (decide (0 ≤ a) && decide (a ≤ 18446744073709551615)) = true := h
 simpa using h'
theorem value_cells : Tryz.prog.cellsOf 24 = 4 := by kernel_rfl
set_option maxRecDepth 100000 in
theorem complexesApply_lifted (os : Os) (started : os.Started) (H : Type) (enc : TypeId × Value → H) :
  ReturnsInHanded {} Tryz.checked os 3 .any (Rows.complexesApplySpec.pre6 enc Tryz.prog Tryz.f3 Rows.complexesApplyRow.domain false) (Rows.complexesApplySpec.post enc Tryz.prog Tryz.f3 false true false false) := by
 refine returnsInHanded_of_change_sized (C := Tryz.checked) own started (by kernel_rfl) Tryz.func3
  (ChangeSpec.witness6 (enc := enc) (C := Tryz.checked) false ⟨#[], #[.int .i64 0, .agg #[.int .i64 0, .int .u64 0, .int .u64 0, .string ByteArray.empty], .agg #[.int .i64 0, .int .u64 0, .int .u64 0, .string ByteArray.empty]], []⟩ 8 (by kernel_rfl) (by kernel_rfl) (by kernel_rfl) (by kernel_rfl)) ?_
 intro W base args ds gs before hval0 hW hcnd hsz0 _
 have hval : ∀ (j : Nat) t v, Tryz.f3.params[j]? = some t → args[j]? = some v → Value.okWide Tryz.prog W .any base t v := hval0
 have hW' := hW
 obtain ⟨p, q, hA0, hV, rfl, hfz, hnd⟩ := hW
 have hA : DataW.TrodAll enc Tryz.prog W 0 (fun _ => true) true Tryz.f3.params.toList args.toList ds p := hA0
 rw [Tryz.params3] at hA hval
 obtain ⟨v0, vs0, d0, ds0, p0, q0, hargs, rfl, rfl, h0, r0⟩ := trodAll_cons hA
 obtain ⟨v1, vs1, d1, ds1, p1, q1, rfl, rfl, rfl, h1, r1⟩ := trodAll_cons r0
 obtain ⟨v2, vs2, d2, ds2, p2, q2, rfl, rfl, rfl, h2, r2⟩ := trodAll_cons r1
 obtain ⟨rfl, rfl, rfl⟩ := trodAll_nil r2
 obtain rfl : args = #[v0, v1, v2] := by cases args; simp_all
 obtain ⟨rfl, rfl⟩ := trodVars_none hV
 obtain ⟨z0, rfl, rfl, rfl, w0⟩ := open_int Tryz.underlying3 (hval 0 3 v0 rfl rfl) h0
 obtain ⟨c10, c11, c12, c13, y10, y11, y12, y13, m1, rfl, rfl, rfl, g10, g11, g12, g13⟩ := Joins.open_agg4 Tryz.underlying24 (by kernel_rfl) value_cells (hval 1 24 v1 rfl rfl) h1
 obtain ⟨t1, e10, rfl, u10⟩ := DataW.trod_int Tryz.underlying3 g10
 obtain ⟨a1, e11, rfl, u11⟩ := DataW.trod_int Tryz.underlying22 g11
 obtain ⟨b1, e12, rfl, u12⟩ := DataW.trod_int Tryz.underlying22 g12
 obtain ⟨s1, e13, rfl, u13⟩ := DataW.trod_string Tryz.underlying9 g13
 simp at e10 e11 e12 e13
 subst e10 e11 e12 e13
 have reads1 : ∀ (W' : World) (sp : Nat → Bool), DataW.Trod enc Tryz.prog W' 0 sp true 24 (.agg #[.int .i64 t1, .int .u64 a1, .int .u64 b1, .string s1]) (.agg [.lit (.int .i64 t1), .lit (.int .u64 a1), .lit (.int .u64 b1), .lit (.string s1.data.toList)]) [] := fun W' sp =>
  Joins.shut_agg4 (y0 := (.lit (.int .i64 t1), [])) (y1 := (.lit (.int .u64 a1), [])) (y2 := (.lit (.int .u64 b1), [])) (y3 := (.lit (.string s1.data.toList), [])) Tryz.underlying24 (by kernel_rfl) value_cells ⟨1, by simp [DataW.trod, Tryz.underlying3, u10]⟩ ⟨1, by simp [DataW.trod, Tryz.underlying22, u11]⟩ ⟨1, by simp [DataW.trod, Tryz.underlying22, u12]⟩ ⟨1, by simp [DataW.trod, Tryz.underlying9, u13]⟩
 obtain ⟨c20, c21, c22, c23, y20, y21, y22, y23, m2, rfl, rfl, rfl, g20, g21, g22, g23⟩ := Joins.open_agg4 Tryz.underlying24 (by kernel_rfl) value_cells (hval 2 24 v2 rfl rfl) h2
 obtain ⟨t2, e20, rfl, u20⟩ := DataW.trod_int Tryz.underlying3 g20
 obtain ⟨a2, e21, rfl, u21⟩ := DataW.trod_int Tryz.underlying22 g21
 obtain ⟨b2, e22, rfl, u22⟩ := DataW.trod_int Tryz.underlying22 g22
 obtain ⟨s2, e23, rfl, u23⟩ := DataW.trod_string Tryz.underlying9 g23
 simp at e20 e21 e22 e23
 subst e20 e21 e22 e23
 have reads2 : ∀ (W' : World) (sp : Nat → Bool), DataW.Trod enc Tryz.prog W' 0 sp true 24 (.agg #[.int .i64 t2, .int .u64 a2, .int .u64 b2, .string s2]) (.agg [.lit (.int .i64 t2), .lit (.int .u64 a2), .lit (.int .u64 b2), .lit (.string s2.data.toList)]) [] := fun W' sp =>
  Joins.shut_agg4 (y0 := (.lit (.int .i64 t2), [])) (y1 := (.lit (.int .u64 a2), [])) (y2 := (.lit (.int .u64 b2), [])) (y3 := (.lit (.string s2.data.toList), [])) Tryz.underlying24 (by kernel_rfl) value_cells ⟨1, by simp [DataW.trod, Tryz.underlying3, u20]⟩ ⟨1, by simp [DataW.trod, Tryz.underlying22, u21]⟩ ⟨1, by simp [DataW.trod, Tryz.underlying22, u22]⟩ ⟨1, by simp [DataW.trod, Tryz.underlying9, u23]⟩
 clear hA0 hval0 hsz0
 simp only [List.append_nil] at hW'
 refine (B.law_capply z0 t1 a1 b1 s1 t2 a2 b2 s2 W (u64_wf u11) (u64_wf u12) (u64_wf u21) (u64_wf u22)).mono fun e W' ⟨he, bel⟩ => ?_
 subst he
 exact ⟨_, rfl, _, _, _, [], [], [], hW', trodAll_mk1 (shut_bool Tryz.underlying4 _), (trodAll_cons_mk (shut_int Tryz.underlying3 w0) (trodAll_cons_mk (reads1 _ _) (trodAll_cons_mk (reads2 _ _) trodAll_mk0))), rfl, bel.frame _, fun h => by cases h⟩
theorem complexesApply_over : Rows.complexesApplyRow.holds Tryz.pinned (OpenSpec.ofChange Rows.complexesApplySpec) :=
 OpenClaim.holds_of_wide 3 Tryz.f3 rfl rfl rfl rfl rfl rfl rfl ⟨rfl, rfl, rfl, rfl, rfl⟩ rfl rfl rfl rfl rfl (by kernel_rfl) Tryz.func3 (by kernel_rfl)
  (of_decide_eq_true (by kernel_rfl)) (by unfold Func.isWrapper; first | (rw [if_pos (by decide +kernel)]; kernel_rfl) | (rw [if_neg (by decide +kernel)]; exact ⟨rfl, rfl⟩))
  (fun os started H enc _ => complexesApply_lifted os started H enc)
theorem complexesApply_holds : Rows.ComplexesApplySaid := complexesApply_over
end Go.Proofs.YtmoimcblmmcffaaGreat.Law
