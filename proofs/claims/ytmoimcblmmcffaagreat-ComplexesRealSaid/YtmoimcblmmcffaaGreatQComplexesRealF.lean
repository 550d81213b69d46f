/- Contracts and plain laws that the law ComplexesReal leans on (texts joined by program; what it does not come to is left out). -/
import Derived.Test.YtmoimcblmmcffaaGreatQComplexesRealC
import Derived.Test.YtmoimcblmmcffaaGreatQComplexesRealE
import Derived.Test.YtmoimcblmmcffaaGreatQComplexesRealD

namespace Go.Proofs.YtmoimcblmmcffaaGreat.B
open Go.RowKit
set_option linter.unusedSimpArgs false
set_option linter.unusedVariables false
def cellOf (w : World) (g i : Nat) : Value := (w.cell? ⟨g, i, none⟩).getD undef
abbrev Own (w : World) (g k : Nat) : Prop := (∀ i, i < k → w.cell? ⟨g, i, none⟩ = some (cellOf w g i)) ∧ (∀ i, w.frozen? ⟨g, i, none⟩ = false) ∧ g < w.heap.size
abbrev ExtN (N : Nat) (w0 W w : World) : Prop := (∀ b o, b < N → w.cell? ⟨b, o, none⟩ = W.cell? ⟨b, o, none⟩) ∧ N ≤ w.heap.size ∧ Below w0.heap.size w0 w
theorem cellOf_eq {w : World} {g i : Nat} {v : Value} (h : w.cell? ⟨g, i, none⟩ = some v) : w.cell? ⟨g, i, none⟩ = some (cellOf w g i) := by
 unfold cellOf; rw [h]; rfl
theorem ExtN.refl {N : Nat} {w0 W : World} (hN : N ≤ W.heap.size) (h : Below w0.heap.size w0 W) : ExtN N w0 W W := ⟨fun _ _ _ => rfl, hN, h⟩
theorem ExtN.call {N : Nat} {w0 W w1 w2 : World} (h : ExtN N w0 W w1) (hb : Below w1.heap.size w1 w2) : ExtN N w0 W w2 :=
 ⟨fun b o hlt => ((bcell hb).1 b o (Nat.lt_of_lt_of_le hlt h.2.1)).trans (h.1 b o hlt), Nat.le_trans h.2.1 hb.size, h.2.2.trans (hb.mono h.2.2.size)⟩
theorem ExtN.drew {N : Nat} {w0 W w1 : World} (h : ExtN N w0 W w1) : ExtN N w0 W w1.drew := h.call (Below.refl _ _).drew
theorem ExtN.alloc {N : Nat} {w0 W w1 : World} (h : ExtN N w0 W w1) (o : Obj) : ExtN N w0 W (w1.alloc o) := h.call (below_alloc0 (Below.refl _ _) o)
theorem ExtN.set {N : Nat} {w0 W w1 : World} (h : ExtN N w0 W w1) {p : Addr} (hp : N ≤ p.block) (hw : w0.heap.size ≤ p.block) (v : Value) : ExtN N w0 W (w1.setCell p v) := by
 refine ⟨fun b o hlt => ?_, by simpa [World.setCell] using h.2.1, h.2.2.setCell hw v⟩
 have hne : p ≠ ⟨b, o, none⟩ := by
  intro he
  rw [he] at hp
  exact absurd hlt (Nat.not_lt.2 hp)
 exact (World.cell?_setCell_other w1 p ⟨b, o, none⟩ v hne).trans (h.1 b o hlt)
theorem Own.call {w w1 : World} {g k : Nat} (h : Own w g k) (hb : Below w.heap.size w w1) : Own w1 g k :=
 ⟨fun i hi => cellOf_eq (((bcell hb).1 g i h.2.2).trans (h.1 i hi)), fun i => ((bcell hb).2 g i h.2.2).trans (h.2.1 i), Nat.lt_of_lt_of_le h.2.2 hb.size⟩
theorem Own.drew {w : World} {g k : Nat} (h : Own w g k) : Own w.drew g k := h.call (Below.refl _ _).drew
theorem Own.alloc {w : World} {g k : Nat} (h : Own w g k) (o : Obj) : Own (w.alloc o) g k := h.call (below_alloc0 (Below.refl _ _) o)
theorem Own.set {w : World} {g k : Nat} (h : Own w g k) (p : Addr) (v : Value) : Own (w.setCell p v) g k := by
 refine ⟨fun i hi => ?_, fun i => ?_, ?_⟩
 ·by_cases he : p = ⟨g, i, none⟩
  ·subst he
   exact cellOf_eq (World.cell?_setCell_same _ _ _ (h.1 i hi))
  ·have := World.cell?_setCell_other w _ _ v he
   exact cellOf_eq (this.trans (h.1 i hi))
 ·rw [← h.2.1 i]; simp
 ·simpa [World.setCell] using h.2.2
theorem cell_put {w : World} {g i : Nat} {v u : Value} (h : (w.setCell ⟨g, i, none⟩ v).cell? ⟨g, i, none⟩ = some u) : u = v := by
 cases h0 : w.cell? ⟨g, i, none⟩ with
 | some x => rw [World.cell?_setCell_same _ _ _ h0] at h; exact (Option.some.inj h).symm
 | none =>
  exfalso
  unfold World.cell? at h h0
  unfold World.setCell at h
  simp only [Array.getElem?_modify] at h
  simp only [if_true] at h
  cases hb : w.heap[g]? with
  | none => rw [hb] at h; simp at h
  | some o =>
   rw [hb] at h h0
   cases o <;> simp at h h0
   rw [Array.getElem?_eq_none (by simpa using h0)] at h
   cases h
theorem cell_put_ne {w : World} {g i j : Nat} {v : Value} (h : i ≠ j) : (w.setCell ⟨g, i, none⟩ v).cell? ⟨g, j, none⟩ = w.cell? ⟨g, j, none⟩ :=
 World.cell?_setCell_other _ _ _ _ (by intro e; injection e with _ e _; exact h e)
theorem Own.read2 {w : World} {g n : Nat} {a b : Value} (h : Own ((w.setCell ⟨g, 0, none⟩ a).setCell ⟨g, 1, none⟩ b) g (n + 2)) :
  ((w.setCell ⟨g, 0, none⟩ a).setCell ⟨g, 1, none⟩ b).cell? ⟨g, 0, none⟩ = some a ∧ ((w.setCell ⟨g, 0, none⟩ a).setCell ⟨g, 1, none⟩ b).cell? ⟨g, 1, none⟩ = some b := by
 have e0 := h.1 0 (by omega)
 have e1 := h.1 1 (by omega)
 refine ⟨?_, ?_⟩
 ·rw [e0]; rw [cell_put_ne (by decide)] at e0; rw [cell_put e0]
 ·rw [e1]; rw [cell_put e1]
theorem Own.read4 {w : World} {g n : Nat} {a b c d : Value} (h : Own ((((w.setCell ⟨g, 0, none⟩ a).setCell ⟨g, 1, none⟩ b).setCell ⟨g, 2, none⟩ c).setCell ⟨g, 3, none⟩ d) g (n + 4)) :
  ((((w.setCell ⟨g, 0, none⟩ a).setCell ⟨g, 1, none⟩ b).setCell ⟨g, 2, none⟩ c).setCell ⟨g, 3, none⟩ d).cell? ⟨g, 0, none⟩ = some a ∧ ((((w.setCell ⟨g, 0, none⟩ a).setCell ⟨g, 1, none⟩ b).setCell ⟨g, 2, none⟩ c).setCell ⟨g, 3, none⟩ d).cell? ⟨g, 1, none⟩ = some b ∧
  ((((w.setCell ⟨g, 0, none⟩ a).setCell ⟨g, 1, none⟩ b).setCell ⟨g, 2, none⟩ c).setCell ⟨g, 3, none⟩ d).cell? ⟨g, 2, none⟩ = some c ∧ ((((w.setCell ⟨g, 0, none⟩ a).setCell ⟨g, 1, none⟩ b).setCell ⟨g, 2, none⟩ c).setCell ⟨g, 3, none⟩ d).cell? ⟨g, 3, none⟩ = some d := by
 have e0 := h.1 0 (by omega)
 have e1 := h.1 1 (by omega)
 have e2 := h.1 2 (by omega)
 have e3 := h.1 3 (by omega)
 refine ⟨?_, ?_, ?_, ?_⟩
 ·rw [e0]; rw [cell_put_ne (by decide), cell_put_ne (by decide), cell_put_ne (by decide)] at e0; rw [cell_put e0]
 ·rw [e1]; rw [cell_put_ne (by decide), cell_put_ne (by decide)] at e1; rw [cell_put e1]
 ·rw [e2]; rw [cell_put_ne (by decide)] at e2; rw [cell_put e2]
 ·rw [e3]; rw [cell_put e3]
theorem own_new (w : World) (cs : Array Value) (t : TypeId) : Own (w.alloc (.cells cs t (0, 0))) w.heap.size cs.size :=
 ⟨fun i hi => cellOf_eq (by rw [cell_of_row _ _ i cs t (0, 0) (heap_alloc_new w _), Array.getElem?_eq_getElem hi]), fun i => by
  unfold World.frozen?
  rw [heap_alloc_new w (.cells cs t (0, 0))]
  simp, by simp⟩
abbrev ExO (N : Nat) (w0 W : World) (g k : Nat) (w : World) : Prop := ExtN N w0 W w ∧ Own w g k
theorem ExO.drew {N g k : Nat} {w0 W w1 : World} (h : ExO N w0 W g k w1) : ExO N w0 W g k w1.drew := ⟨h.1.drew, h.2.drew⟩
theorem ExO.call {N g k : Nat} {w0 W w1 w2 : World} (h : ExO N w0 W g k w1) (hb : Below w1.heap.size w1 w2) : ExO N w0 W g k w2 := ⟨h.1.call hb, h.2.call hb⟩
theorem ExO.alloc {N g k : Nat} {w0 W w1 : World} (h : ExO N w0 W g k w1) (o : Obj) : ExO N w0 W g k (w1.alloc o) := ⟨h.1.alloc o, h.2.alloc o⟩
theorem ExO.set {N g k : Nat} {w0 W w1 : World} (h : ExO N w0 W g k w1) {p : Addr} (hp : N ≤ p.block) (hw : w0.heap.size ≤ p.block) (v : Value) : ExO N w0 W g k (w1.setCell p v) := ⟨h.1.set hp hw v, h.2.set p v⟩
theorem ExO.put {k n : Nat} {w0 W w1 : World} (h : ExO (w0.heap.size + k) w0 W (w0.heap.size + k) n w1) (j : Nat) (v : Value) : ExO (w0.heap.size + k) w0 W (w0.heap.size + k) n (w1.setCell ⟨w0.heap.size + k, j, none⟩ v) :=
 h.set (Nat.le_refl _) (Nat.le_add_right _ _) v
theorem ExO.keep {k n : Nat} {w0 W w1 : World} (h : ExO (w0.heap.size + k) w0 W (w0.heap.size + k) n w1 := by repeat (first | assumption | exact ExO.call (by assumption) (by assumption) | refine ExO.drew ?_ | refine ExO.put ?_ _ _ | refine ExO.alloc ?_ _)) : ExO (w0.heap.size + k) w0 W (w0.heap.size + k) n w1 := h
theorem ExO.end {k n : Nat} {w0 W w1 : World} (h : ExO (w0.heap.size + k) w0 W (w0.heap.size + k) n w1) : Below w0.heap.size w0 w1 := h.1.2.2
theorem hide2own {P : Program} {c : Code} {Q : Exit → Act → World → Prop} {a : Act} {w : World} {cs cs' cs'' : Array Value} {t t' t'' : TypeId} (w0 : World)
  (h : ∀ W, (∀ i, W.cell? ⟨w.heap.size, i, none⟩ = cs[i]?) → (∀ i, W.cell? ⟨w.heap.size + 1, i, none⟩ = cs'[i]?) → Own W (w.heap.size + 2) cs''.size → ExtN (w.heap.size + 2) w0 W W → c.wp P Q a W)
  (hb : Below w0.heap.size w0 w := by exact below_end) : c.wp P Q a (((w.alloc (.cells cs t (0, 0))).alloc (.cells cs' t' (0, 0))).alloc (.cells cs'' t'' (0, 0))) := by
 have e1 : (w.alloc (.cells cs t (0, 0))).heap.size = w.heap.size + 1 := by simp
 have e2 : ((w.alloc (.cells cs t (0, 0))).alloc (.cells cs' t' (0, 0))).heap.size = w.heap.size + 2 := by simp
 refine h _ (fun i => ?_) (fun i => ?_) ?_ ?_
 ·rw [cell_of_row _ _ i cs t (0, 0) ((Below.heap_alloc _ _ _ (by rw [e2]; omega)).trans ((Below.heap_alloc _ _ _ (by rw [e1]; omega)).trans (heap_alloc_new w _)))]
 ·have k := heap_alloc_new (w.alloc (.cells cs t (0, 0))) (.cells cs' t' (0, 0))
  rw [e1] at k
  rw [cell_of_row _ _ i cs' t' (0, 0) ((Below.heap_alloc _ _ _ (by rw [e2]; omega)).trans k)]
 ·have k := own_new ((w.alloc (.cells cs t (0, 0))).alloc (.cells cs' t' (0, 0))) cs'' t''
  rw [e2] at k
  exact k
 ·exact ExtN.refl (by simp) (below_alloc0 (below_alloc0 (below_alloc0 hb _) _) _)
theorem hide1own {P : Program} {c : Code} {Q : Exit → Act → World → Prop} {a : Act} {w : World} {cs cs' : Array Value} {t t' : TypeId} (w0 : World)
  (h : ∀ W, (∀ i, W.cell? ⟨w.heap.size, i, none⟩ = cs[i]?) → Own W (w.heap.size + 1) cs'.size → ExtN (w.heap.size + 1) w0 W W → c.wp P Q a W)
  (hb : Below w0.heap.size w0 w := by exact below_end) : c.wp P Q a ((w.alloc (.cells cs t (0, 0))).alloc (.cells cs' t' (0, 0))) := by
 have e1 : (w.alloc (.cells cs t (0, 0))).heap.size = w.heap.size + 1 := by simp
 refine h _ (fun i => ?_) ?_ ?_
 ·rw [cell_of_row _ _ i cs t (0, 0) ((Below.heap_alloc _ _ _ (by rw [e1]; omega)).trans (heap_alloc_new w _))]
 ·have k := own_new (w.alloc (.cells cs t (0, 0))) cs' t'
  rw [e1] at k
  exact k
 ·exact ExtN.refl (by simp) (below_alloc0 (below_alloc0 hb _) _)
end Go.Proofs.YtmoimcblmmcffaaGreat.B

namespace Go.Proofs.YtmoimcblmmcffaaGreat.NC
open Go.RowKit Go.Proofs.YtmoimcblmmcffaaGreat.B Go.Proofs.YtmoimcblmmcffaaGreat.N
open Go.Proofs.YtmoimcblmmcffaaGreatW.PrintWords Go.Proofs.YtmoimcblmmcffaaGreatW.PrintLast Go.Proofs.YtmoimcblmmcffaaGreatW.PrintMore Go.Proofs.YtmoimcblmmcffaaGreat.PN
set_option linter.unusedSimpArgs false
set_option linter.unusedVariables false
def Big (w : World) (A : Option Addr) (n : Nat) : Prop :=
 (digs n).length ≤ 9223372036854775807 ∧ (A = none ∧ n = 0 ∨ ∃ g, A = some ⟨g, 0, none⟩ ∧ g < w.heap.size ∧ ∀ i d, (digs n)[i]? = some d → w.cell? ⟨g, i, none⟩ = some (.int .i64 d))
theorem Big.of_cells {w w1 : World} {A : Option Addr} {n : Nat} (h : Big w A n) (hc : ∀ b o, b < w.heap.size → w1.cell? ⟨b, o, none⟩ = w.cell? ⟨b, o, none⟩) (hs : w.heap.size ≤ w1.heap.size) : Big w1 A n := by
 refine ⟨h.1, h.2.imp id ?_⟩
 rintro ⟨g, e, hg, hr⟩
 exact ⟨g, e, Nat.lt_of_lt_of_le hg hs, fun i d hd => (hc g i hg).trans (hr i d hd)⟩
theorem Big.below {w w1 : World} {A : Option Addr} {n : Nat} (h : Big w A n) (hb : Below w.heap.size w w1) : Big w1 A n := h.of_cells (bcell hb).1 hb.size
theorem Big.ext {w0 W w1 : World} {A : Option Addr} {n : Nat} (h : Big W A n) (he : Ext w0 W w1) : Big w1 A n := h.of_cells he.1 he.2.2.1
theorem Big.alloc {w : World} {A : Option Addr} {n : Nat} (h : Big w A n) (o : Obj) : Big (w.alloc o) A n := h.below (below_alloc0 (Below.refl _ _) o)
theorem Big.drewN {w : World} {A : Option Addr} {n : Nat} (h : Big w A n) (k : Nat) : Big (w.drewN k) A n := h.below (below_drewN (Below.refl _ _) k)
theorem Big.set {w : World} {A : Option Addr} {n : Nat} (h : Big w A n) {p : Addr} (hp : w.cell? p ≠ some undef → ∀ g, A = some ⟨g, 0, none⟩ → p.block ≠ g) (v : Value) (hq : ∀ g, A = some ⟨g, 0, none⟩ → p.block ≠ g) : Big (w.setCell p v) A n := by
 refine ⟨h.1, h.2.imp id ?_⟩
 rintro ⟨g, e, hg, hr⟩
 refine ⟨g, e, by simpa [World.setCell] using hg, fun i d hd => ?_⟩
 have hne : p ≠ ⟨g, i, none⟩ := by
  rintro rfl
  exact hq g e rfl
 exact (World.cell?_setCell_other w p ⟨g, i, none⟩ v hne).trans (hr i d hd)
theorem Big.zero (w : World) : Big w none 0 := ⟨by simp [digs_zero], .inl ⟨rfl, rfl⟩⟩
theorem Big.c {w : World} {A : Option Addr} {n : Nat} (h : Big w A n) : Kd.C (Kd.int .i64) w A (digs n).length (digs n) := by
 refine ⟨rfl, h.1, fun hp => ?_⟩
 rcases h.2 with ⟨_, h0⟩ | ⟨g, e, hg, hr⟩
 ·subst h0; simp [digs_zero] at hp
 ·refine ⟨_, e, fun j p hj => ⟨[.int .i64 p], rfl, rfl, fun i u hu => ?_⟩⟩
  cases i with
  | zero =>
   have := hr j p hj
   have hu' : u = .int .i64 p := by simpa using hu.symm
   subst hu'
   show w.cell? (Addr.add ⟨g, 0, none⟩ (j * 1 + 0)) = _
   rw [← this]
   unfold Addr.add
   by_cases h0 : j = 0
   ·subst h0; rfl
   ·simp [h0]
  | succ i => simp at hu
theorem Big.of_R {e : Nat} {w : World} {base : Nat} {ok : Nat → Prop} {v : Value} {n : Nat} (h : Kd.R (Kd.int .i64) e w base ok v (digs n)) :
  ∃ A c, v = .slice A (digs n).length c ∧ (digs n).length ≤ c ∧ Big w A n := by
 obtain ⟨A, c, rfl, hc, hC⟩ := Kd.R_reads h
 refine ⟨A, c, rfl, hc, hC.2.1, ?_⟩
 obtain ⟨inner, ho⟩ := Kd.R_own h
 rcases ho.2 with ⟨e1, e2⟩ | ⟨g, cap, cur, e1, hb, hh, r⟩
 ·left
  injection e1 with e1
  exact ⟨e1, digs_nil.1 e2⟩
 ·right
  injection e1 with e1
  subst e1
  refine ⟨g, rfl, ?_, fun i d hd => ?_⟩
  ·exact Nat.lt_of_not_le (fun hle => by rw [Array.getElem?_eq_none hle] at hh; cases hh)
  ·have hp : 0 < (digs n).length := by
    cases hl : digs n with
    | nil => rw [hl] at hd; simp at hd
    | cons => simp
   obtain ⟨ad, ead, hr⟩ := hC.2.2 hp
   injection ead with ead
   subst ead
   obtain ⟨cs, _, hk, hcell⟩ := hr i d hd
   have hk' : cs = [.int .i64 d] := hk
   subst hk'
   have := hcell 0 _ rfl
   rw [← this]
   show _ = w.cell? (Addr.add ⟨g, 0, none⟩ (i * 1 + 0))
   unfold Addr.add
   by_cases h0 : i = 0
   ·subst h0; rfl
   ·simp [h0]
theorem Big.of_Rf {e : Nat} {w : World} {base : Nat} {ok : Nat → Prop} {v : Value} {n : Nat} (h : Kd.R (Kd.int .i64) e w base ok v (digs n)) :
  ∃ A c, v = .slice A (digs n).length c ∧ (digs n).length ≤ c ∧ Big w A n ∧ ∀ g, A = some ⟨g, 0, none⟩ → base ≤ g := by
 obtain ⟨A, c, rfl, hc, hB⟩ := Big.of_R h
 refine ⟨A, c, rfl, hc, hB, ?_⟩
 rintro g rfl
 exact Kd.R_base h g rfl
theorem Big.put {w : World} {A : Option Addr} {n : Nat} (h : Big w A n) {p : Addr} (hq : ∀ g, A = some ⟨g, 0, none⟩ → p.block < g) (v : Value) : Big (w.setCell p v) A n :=
 h.set (fun _ g e => Nat.ne_of_lt (hq g e)) v (fun g e => Nat.ne_of_lt (hq g e))
theorem big_lit {w : World} {d : Int} {n t : Nat} (h : digs n = [d]) : Big (w.alloc (.cells #[.int .i64 d] t (0, 0))) (some ⟨w.heap.size, 0, none⟩) n := by
 refine ⟨by rw [h]; simp, .inr ⟨_, rfl, by simp, fun i e he => ?_⟩⟩
 rw [cell_of_row _ _ i #[.int .i64 d] t (0, 0) (heap_alloc_new w _)]
 rw [h] at he
 cases i with
 | zero => simp at he; subst he; rfl
 | succ i => simp at he
def RetBig (n : Nat) (w : World) : Ending → World → Prop := fun e w' => ∃ A c, e = .returned (.slice A (digs n).length c) ∧ (digs n).length ≤ c ∧ Big w' A n ∧ Below w.heap.size w w'
def RetNew (n : Nat) (w : World) : Ending → World → Prop := fun e w' => ∃ A c, e = .returned (.slice A (digs n).length c) ∧ (digs n).length ≤ c ∧ Big w' A n ∧ (∀ g, A = some ⟨g, 0, none⟩ → w.heap.size ≤ g) ∧ Below w.heap.size w w'
theorem drawn_below {w w' : World} (h : Drawn0 w w') : Below w.heap.size w w' := by
 obtain ⟨n, rfl⟩ := h.out
 exact below_drewN (Below.refl _ _) n
theorem plus_c (w : World) {A0 : Option Addr} {c0 n0 : Nat} {A1 : Option Addr} {c1 n1 : Nat}  (h0 : Big w A0 n0) (k0 : (digs n0).length ≤ c0) (h1 : Big w A1 n1) (k1 : (digs n1).length ≤ c1) (l0 : (digs n0).length ≤ Lim) (l1 : (digs n1).length ≤ Lim) :
  Calls Tryz.prog 112 #[.slice A0 (digs n0).length c0, .slice A1 (digs n1).length c1] w (RetBig (n0 + n1) w) := by
 obtain ⟨k, hk⟩ := Ev.some (plus_ev n0 n1 l0 l1)
 refine (r8_Plus.calls k A0 c0 (digs n0) A1 c1 (digs n1)  _ w h0.c k0 h1.c k1 hk).mono ?_
 rintro e w' ⟨v, rfl, hR, hb⟩
 obtain ⟨A, c, rfl, hc, hB⟩ := Big.of_R hR
 exact ⟨A, c, rfl, hc, hB, hb⟩
theorem minus_c (w : World) {A0 : Option Addr} {c0 n0 : Nat} {A1 : Option Addr} {c1 n1 : Nat}  (h0 : Big w A0 n0) (k0 : (digs n0).length ≤ c0) (h1 : Big w A1 n1) (k1 : (digs n1).length ≤ c1) (l0 : (digs n0).length ≤ Lim) (hle : n1 ≤ n0) :
  Calls Tryz.prog 115 #[.slice A0 (digs n0).length c0, .slice A1 (digs n1).length c1] w (RetBig (n0 - n1) w) := by
 obtain ⟨k, hk⟩ := Ev.some (minus_ev n0 n1 l0 hle)
 refine (r8_Minus.calls k A0 c0 (digs n0) A1 c1 (digs n1)  _ w h0.c k0 h1.c k1 hk).mono ?_
 rintro e w' ⟨v, rfl, hR, hb⟩
 obtain ⟨A, c, rfl, hc, hB⟩ := Big.of_R hR
 exact ⟨A, c, rfl, hc, hB, hb⟩
theorem plus_n (w : World) {A0 : Option Addr} {c0 n0 : Nat} {A1 : Option Addr} {c1 n1 : Nat}  (h0 : Big w A0 n0) (k0 : (digs n0).length ≤ c0) (h1 : Big w A1 n1) (k1 : (digs n1).length ≤ c1) (l0 : (digs n0).length ≤ Lim) (l1 : (digs n1).length ≤ Lim) :
  Calls Tryz.prog 112 #[.slice A0 (digs n0).length c0, .slice A1 (digs n1).length c1] w (RetNew (n0 + n1) w) := by
 obtain ⟨k, hk⟩ := Ev.some (plus_ev n0 n1 l0 l1)
 refine (r8_Plus.calls k A0 c0 (digs n0) A1 c1 (digs n1)  _ w h0.c k0 h1.c k1 hk).mono ?_
 rintro e w' ⟨v, rfl, hR, hb⟩
 obtain ⟨A, c, rfl, hc, hB, hf⟩ := Big.of_Rf hR
 exact ⟨A, c, rfl, hc, hB, hf, hb⟩
theorem minus_n (w : World) {A0 : Option Addr} {c0 n0 : Nat} {A1 : Option Addr} {c1 n1 : Nat}  (h0 : Big w A0 n0) (k0 : (digs n0).length ≤ c0) (h1 : Big w A1 n1) (k1 : (digs n1).length ≤ c1) (l0 : (digs n0).length ≤ Lim) (hle : n1 ≤ n0) :
  Calls Tryz.prog 115 #[.slice A0 (digs n0).length c0, .slice A1 (digs n1).length c1] w (RetNew (n0 - n1) w) := by
 obtain ⟨k, hk⟩ := Ev.some (minus_ev n0 n1 l0 hle)
 refine (r8_Minus.calls k A0 c0 (digs n0) A1 c1 (digs n1)  _ w h0.c k0 h1.c k1 hk).mono ?_
 rintro e w' ⟨v, rfl, hR, hb⟩
 obtain ⟨A, c, rfl, hc, hB, hf⟩ := Big.of_Rf hR
 exact ⟨A, c, rfl, hc, hB, hf, hb⟩
theorem times_c (w : World) {A0 : Option Addr} {c0 n0 : Nat} {A1 : Option Addr} {c1 n1 : Nat}  (h0 : Big w A0 n0) (k0 : (digs n0).length ≤ c0) (h1 : Big w A1 n1) (k1 : (digs n1).length ≤ c1) (l0 : (digs n0).length ≤ Lim) (l1 : (digs n1).length ≤ Lim) :
  Calls Tryz.prog 108 #[.slice A0 (digs n0).length c0, .slice A1 (digs n1).length c1] w (RetBig (n0 * n1) w) := by
 obtain ⟨k, hk⟩ := Ev.some (times_ev n0 n1 l0 l1)
 refine (r8_Times.calls k A0 c0 (digs n0) A1 c1 (digs n1)  _ w h0.c k0 h1.c k1 hk).mono ?_
 rintro e w' ⟨v, rfl, hR, hb⟩
 obtain ⟨A, c, rfl, hc, hB⟩ := Big.of_R hR
 exact ⟨A, c, rfl, hc, hB, hb⟩
theorem left_c (w : World) {A0 : Option Addr} {c0 n0 : Nat} {s : Nat} (h0 : Big w A0 n0) (k0 : (digs n0).length ≤ c0) (l0 : (digs n0).length ≤ 20000) (l1 : s ≤ 100000) :
  Calls Tryz.prog 110 #[.slice A0 (digs n0).length c0, .int .i64 (s : Int)] w (RetBig (n0 * 2 ^ s) w) := by
 obtain ⟨k, hk⟩ := Ev.some (left_ev n0 s l0 l1)
 refine (r8_Left.calls k A0 c0 (digs n0) (s : Int) _ w h0.c k0 hk).mono ?_
 rintro e w' ⟨v, rfl, hR, hb⟩
 obtain ⟨A, c, rfl, hc, hB⟩ := Big.of_R hR
 exact ⟨A, c, rfl, hc, hB, hb⟩
theorem nat_c (w : World) {n : Nat} (h : n ≤ 9223372036854775807) : Calls Tryz.prog 75 #[.int .i64 (n : Int)] w (RetBig n w) := by
 obtain ⟨k, hk⟩ := Ev.some (nat_ev n h)
 refine (r8_Nat.calls k (n : Int) _ w hk).mono ?_
 rintro e w' ⟨v, rfl, hR, hb⟩
 obtain ⟨A, c, rfl, hc, hB⟩ := Big.of_R hR
 exact ⟨A, c, rfl, hc, hB, hb⟩
theorem nat_n (w : World) {n : Nat} (h : n ≤ 9223372036854775807) : Calls Tryz.prog 75 #[.int .i64 (n : Int)] w (RetNew n w) := by
 obtain ⟨k, hk⟩ := Ev.some (nat_ev n h)
 refine (r8_Nat.calls k (n : Int) _ w hk).mono ?_
 rintro e w' ⟨v, rfl, hR, hb⟩
 obtain ⟨A, c, rfl, hc, hB, hf⟩ := Big.of_Rf hR
 exact ⟨A, c, rfl, hc, hB, hf, hb⟩
theorem right_c (w : World) {A0 : Option Addr} {c0 n0 : Nat} {s : Nat} (h0 : Big w A0 n0) (k0 : (digs n0).length ≤ c0) (l0 : (digs n0).length ≤ Lim) (l1 : s ≤ 1000000) :
  Calls Tryz.prog 114 #[.slice A0 (digs n0).length c0, .int .i64 (s : Int)] w fun e w' => ∃ A c, e = .returned (.tuple #[.slice A (digs (n0 / 2 ^ s)).length c, .bool (n0 % 2 ^ s != 0)]) ∧ (digs (n0 / 2 ^ s)).length ≤ c ∧ Big w' A (n0 / 2 ^ s) ∧ Below w.heap.size w w' := by
 obtain ⟨k, hk⟩ := Ev.some (right_ev n0 s l0 l1)
 refine (r8_Right.calls k A0 c0 (digs n0) (s : Int) _ _ w h0.c k0 hk).mono ?_
 rintro e w' ⟨v, rfl, hR, hb⟩
 obtain ⟨A, c, rfl, hc, hB⟩ := Big.of_R hR
 exact ⟨A, c, rfl, hc, hB, hb⟩
theorem divide_c (w : World) {A0 A1 : Option Addr} {c0 n0 c1 n1 : Nat} (h0 : Big w A0 n0) (k0 : (digs n0).length ≤ c0) (h1 : Big w A1 n1) (k1 : (digs n1).length ≤ c1) (hz : n1 ≠ 0) (l0 : (digs n0).length ≤ 1000) (l1 : (digs n1).length ≤ 1000) :
  Calls Tryz.prog 109 #[.slice A0 (digs n0).length c0, .slice A1 (digs n1).length c1] w fun e w' => ∃ A c A' c', e = .returned (.tuple #[.slice A (digs (n0 / n1)).length c, .slice A' (digs (n0 % n1)).length c']) ∧ (digs (n0 / n1)).length ≤ c ∧ Big w' A (n0 / n1) ∧ (digs (n0 % n1)).length ≤ c' ∧ Big w' A' (n0 % n1) ∧ Below w.heap.size w w' := by
 obtain ⟨k, hk⟩ := Ev.some (divide_ev n0 n1 hz l0 l1)
 refine (r8_Divide.calls k A0 c0 (digs n0) A1 c1 (digs n1) _ _ w h0.c k0 h1.c k1 hk).mono ?_
 rintro e w' ⟨v, v', rfl, hR, hR', hb⟩
 obtain ⟨A, c, rfl, hc, hB⟩ := Big.of_R hR
 obtain ⟨A', c', rfl, hc', hB'⟩ := Big.of_R hR'
 exact ⟨A, c, A', c', rfl, hc, hB, hc', hB', hb⟩
theorem order_c (w : World) {A0 A1 : Option Addr} {c0 n0 c1 n1 : Nat} (h0 : Big w A0 n0) (k0 : (digs n0).length ≤ c0) (h1 : Big w A1 n1) (k1 : (digs n1).length ≤ c1) (l0 : (digs n0).length ≤ Lim) :
  Calls Tryz.prog 116 #[.slice A0 (digs n0).length c0, .slice A1 (digs n1).length c1] w (Ret (.int .i64 (ordN n0 n1)) w) := by
 obtain ⟨k, hk⟩ := Ev.some (order_ev n0 n1 (by unfold Lim at l0; omega))
 refine (r8_Order.calls k A0 c0 (digs n0) A1 c1 (digs n1) _ w h0.c k0 h1.c k1 hk).mono ?_
 rintro e w' ⟨rfl, hd⟩
 exact ⟨rfl, drawn_below hd⟩
theorem length_c (w : World) {A0 : Option Addr} {c0 n0 : Nat} (h0 : Big w A0 n0) (k0 : (digs n0).length ≤ c0) (l0 : (digs n0).length ≤ Lim) :
  Calls Tryz.prog 113 #[.slice A0 (digs n0).length c0] w (Ret (.int .i64 (N.bits n0 : Int)) w) := by
 obtain ⟨k, hk⟩ := Ev.some (length_ev n0 l0)
 refine (r8_Length.calls k A0 c0 (digs n0) _ w h0.c k0 hk).mono ?_
 rintro e w' ⟨rfl, hd⟩
 exact ⟨rfl, drawn_below hd⟩
theorem int_c (w : World) {A0 : Option Addr} {c0 n0 : Nat} (h0 : Big w A0 n0) (k0 : (digs n0).length ≤ c0) (l0 : n0 ≤ 9223372036854775807) :
  Calls Tryz.prog 118 #[.slice A0 (digs n0).length c0] w (Ret (.int .i64 (n0 : Int)) w) := by
 obtain ⟨k, hk⟩ := Ev.some (int_ev n0 l0)
 refine (r8_Int.calls k A0 c0 (digs n0) _ w h0.c k0 hk).mono ?_
 rintro e w' ⟨rfl, hd⟩
 exact ⟨rfl, drawn_below hd⟩
theorem digit0 (n : Nat) : (digs n).getD 0 0 = ((n % 65536 : Nat) : Int) := by
 by_cases h : n = 0
 ·subst h; simp [digs_zero]
 ·rw [digs_pos h]; rfl
theorem digit_c (w : World) {A0 : Option Addr} {c0 n0 : Nat} (h0 : Big w A0 n0) (k0 : (digs n0).length ≤ c0) :
  Calls Tryz.prog 117 #[.slice A0 (digs n0).length c0, .int .i64 0] w (Ret (.int .i64 ((n0 % 65536 : Nat) : Int)) w) := by
 have hk := digit_f (digs n0) 0
 rw [digit0] at hk
 refine (r8_digit.calls A0 c0 (digs n0) _ _ w h0.c k0 hk).mono ?_
 rintro e w' ⟨rfl, hd⟩
 exact ⟨rfl, drawn_below hd⟩
theorem power_c (w : World) {n : Nat} (h : n ≤ 62) : Calls Tryz.prog 71 #[.int .i64 (n : Int)] w (Ret (.int .i64 ((2 ^ n : Nat) : Int)) w) := by
 obtain ⟨k, hk⟩ := Ev.some (power_ev n h)
 refine (bs_Power.calls k _ _ w hk).mono ?_
 rintro e w' ⟨rfl, hd⟩
 exact ⟨rfl, drawn_below hd⟩
theorem bit_c (w : World) (b : Bool) : Calls Tryz.prog 103 #[.bool b] w (Ret (.int .i64 (if b then 1 else 0)) w) := by
 refine (bs_Bit.calls b _ w (bit_f b)).mono ?_
 rintro e w' ⟨rfl, hd⟩
 exact ⟨rfl, drawn_below hd⟩
theorem size_c (w : World) (n : Int) (h0 : -9223372036854775807 ≤ n) (h1 : n ≤ 9223372036854775807) : Calls Tryz.prog 76 #[.int .i64 n] w (Ret (.int .i64 (n.natAbs : Int)) w) := by
 refine (bs_Size.calls n _ w (size_f n h0 h1)).mono ?_
 rintro e w' ⟨rfl, hd⟩
 exact ⟨rfl, drawn_below hd⟩
end Go.Proofs.YtmoimcblmmcffaaGreat.NC

namespace Go.Proofs.YtmoimcblmmcffaaGreat.NC
open Go.RowKit Go.Proofs.YtmoimcblmmcffaaGreat.B
set_option linter.unusedSimpArgs false
set_option linter.unusedVariables false
def fmtV : Bool → Value
 | true => .agg #[.int .i64 24, .int .i64 8, .int .i64 (-149), .int .i64 104]
 | false => .agg #[.int .i64 53, .int .i64 11, .int .i64 (-1074), .int .i64 971]
theorem formatOf_c (s : Bool) (w : World) : Calls Tryz.prog 68 #[.int .i64 (tv s)] w (Ret (fmtV s) w) := by
 cases s
 ·show Calls Tryz.prog 68 #[.int .i64 2] w _
  go_enter Tryz.func68, Tryz.ntmps68
  go_wp2
  exact bodyPost_ret (v := fmtV false) (by simp [results, Tryz.results68, go_sem, fmtV]) rfl ⟨rfl, below_end⟩
 ·show Calls Tryz.prog 68 #[.int .i64 1] w _
  go_enter Tryz.func68, Tryz.ntmps68
  go_wp2
  exact bodyPost_ret (v := fmtV true) (by simp [results, Tryz.results68, go_sem, fmtV]) rfl ⟨rfl, below_end⟩
theorem nanR_c (s : Bool) (w : World) : Calls Tryz.prog 67 #[.int .i64 (tv s)] w (Ret (.int .u64 (nanV s)) w) := by
 cases s
 ·show Calls Tryz.prog 67 #[.int .i64 2] w _
  go_enter Tryz.func67, Tryz.ntmps67
  go_wp2
  go_ret
  exact ⟨rfl, below_end⟩
 ·show Calls Tryz.prog 67 #[.int .i64 1] w _
  go_enter Tryz.func67, Tryz.ntmps67
  go_wp2
  go_ret
  exact ⟨rfl, below_end⟩
end Go.Proofs.YtmoimcblmmcffaaGreat.NC

namespace Go.Proofs.YtmoimcblmmcffaaGreat.NC
open Go.RowKit Go.Proofs.YtmoimcblmmcffaaGreat.B
set_option linter.unusedSimpArgs false
set_option linter.unusedVariables false
theorem hide_res {P : Program} {c : Code} {Q : Exit → Act → World → Prop} {a : Act} {w w1 : World} {cs cs' : Array Value} {t t' : TypeId}
  (hb : Below (w.alloc (.cells cs t (0, 0))).heap.size (w.alloc (.cells cs t (0, 0))) w1)
  (h : ∀ W, (∀ i, W.cell? ⟨w1.heap.size, i, none⟩ = cs'[i]?) → w1.heap.size < W.heap.size → Own W w.heap.size cs.size → Ext w W W → c.wp P Q a W) :
  c.wp P Q a (w1.alloc (.cells cs' t' (0, 0))) := by
 have e1 : (w.alloc (.cells cs t (0, 0))).heap.size = w.heap.size + 1 := by simp
 refine h _ (fun i => ?_) (by simp) ?_ ?_
 ·rw [cell_of_row _ _ i cs' t' (0, 0) (heap_alloc_new w1 _)]
 ·exact ((own_new w cs t).call hb).alloc _
 ·refine Ext.refl ?_
  exact below_alloc0 ((below_alloc0 (Below.refl _ _) _).trans (hb.mono (by rw [e1]; omega))) _
theorem Own.ext {w0 W w1 : World} {g k : Nat} (h : Own W g k) (he : Ext w0 W w1) : Own w1 g k :=
 ⟨fun i hi => cellOf_eq ((he.1 g i h.2.2).trans (h.1 i hi)), fun i => (he.2.1 g i h.2.2).trans (h.2.1 i), Nat.lt_of_lt_of_le h.2.2 he.2.2.1⟩
theorem fin4 {w0 W w1 : World} (ho : Own W w0.heap.size 4) (he : Ext w0 W w1) (a b c d : Value) :
  ∃ w', w' = ((((w1.setCell ⟨w0.heap.size, 0, none⟩ a).setCell ⟨w0.heap.size, 1, none⟩ b).setCell ⟨w0.heap.size, 2, none⟩ c).setCell ⟨w0.heap.size, 3, none⟩ d) ∧ w'.cell? ⟨w0.heap.size, 0, none⟩ = some a ∧ w'.cell? ⟨w0.heap.size, 1, none⟩ = some b ∧ w'.cell? ⟨w0.heap.size, 2, none⟩ = some c ∧ w'.cell? ⟨w0.heap.size, 3, none⟩ = some d ∧ Below w0.heap.size w0 w' := by
 have h1 := Own.ext ho he
 have h2 : ExO (w0.heap.size + 0) w0 w1 (w0.heap.size + 0) 4 w1 := ⟨ExtN.refl he.2.2.2.size he.2.2.2, h1⟩
 have h3 := (((h2.put 0 a).put 1 b).put 2 c).put 3 d
 obtain ⟨e0, e1, e2, e3⟩ := Own.read4 (n := 0) h3.2
 exact ⟨_, rfl, e0, e1, e2, e3, h3.end⟩
structure PP where
 kind : Int
 neg : Bool
 sig : Nat
 exp : Int
def PP.v (p : PP) : Value := .agg #[.int .i64 p.kind, .bool p.neg, .int .i64 (p.sig : Int), .int .i64 p.exp]
def lowN : Bool → Nat
 | true => 8388608
 | false => 4503599627370496
def fieldN : Bool → Nat
 | true => 256
 | false => 2048
def leastN : Bool → Int
 | true => -149
 | false => -1074
def partsOf (s : Bool) (f r : Nat) (neg : Bool) : PP :=
 if f + 1 = fieldN s then (if r = 0 then ⟨2, neg, 0, 0⟩ else ⟨3, false, 0, 0⟩)
 else if f = 0 then (if r = 0 then ⟨0, neg, 0, 0⟩ else ⟨1, neg, r, leastN s⟩)
 else ⟨1, neg, r + lowN s, (f : Int) - 1 + leastN s⟩
def partsR (s : Bool) (a : Nat) : PP := partsOf s (a / lowN s % fieldN s) (a % lowN s) (decide (a / lowN s / fieldN s = 1))
theorem kuwrap {n : Nat} (h : n < 18446744073709551616) : IntKind.u64.wrap (n : Int) = (n : Int) := by
 unfold IntKind.wrap
 simp [IntKind.signed, IntKind.bits]
 omega
theorem parts_leaf {s : Bool} {f r : Nat} {neg : Bool} {R : PP} (h : partsOf s f r neg = R) : (f + 1 = fieldN s ∧ r = 0 ∧ R = ⟨2, neg, 0, 0⟩) ∨ (f + 1 = fieldN s ∧ r ≠ 0 ∧ R = ⟨3, false, 0, 0⟩) ∨ (f + 1 ≠ fieldN s ∧ f = 0 ∧ r = 0 ∧ R = ⟨0, neg, 0, 0⟩) ∨ (f + 1 ≠ fieldN s ∧ f = 0 ∧ r ≠ 0 ∧ R = ⟨1, neg, r, leastN s⟩) ∨ (f + 1 ≠ fieldN s ∧ f ≠ 0 ∧ R = ⟨1, neg, r + lowN s, (f : Int) - 1 + leastN s⟩) := by
 subst h
 unfold partsOf
 by_cases h1 : f + 1 = fieldN s
 ·by_cases h2 : r = 0 <;> simp [h1, h2]
 ·by_cases h2 : f = 0
  ·by_cases h3 : r = 0 <;> simp_all
  ·simp [h1, h2]
set_option maxHeartbeats 8000000 in
theorem parts_c (s : Bool) (a : Nat) (w : World) (ha : (a : Int) < topV s) : Calls Tryz.prog 21 #[.int .i64 (tv s), .int .u64 (a : Int)] w (Ret (partsR s a).v w) := by
 have c1 := formatOf_c s
 have c2 := fun w => power_c (n := 8) w (by decide)
 have c3 := fun w => power_c (n := 11) w (by decide)
 obtain ⟨R, hR⟩ : ∃ R, partsR s a = R := ⟨_, rfl⟩
 rw [hR]
 cases s
 ·unfold fmtV at c1
  show Calls Tryz.prog 21 #[.int .i64 2, .int .u64 (a : Int)] w _
  replace c1 : ∀ w, Calls Tryz.prog 68 #[.int .i64 2] w _ := c1
  replace c3 : ∀ w, Calls Tryz.prog 71 #[.int .i64 11] w (Ret (.int .i64 2048) w) := c3
  go_enter Tryz.func21, Tryz.ntmps21
  go_upto_region 2 with (go_at_call 68; refine (c1 _).mono ?_; rintro e w1 ⟨rfl, hb1⟩)
  refine hide_res hb1 (fun W kf hs ho HE => ?_)
  clear hb1 c1
  generalize w1.heap.size = g at *
  go_upto_region 4 with (fail)
  go_region
  go_upto_region 5 with (fail)
  go_region
  go_upto_region 6 with (fail)
  have h1 : IntKind.u64.wrap ((a : Int) / 4503599627370496) = ((a / 4503599627370496 : Nat) : Int) := by
   have : a < 18446744073709551616 := by have : (a : Int) < 18446744073709551616 := ha; omega
   exact kuwrap (n := a / 4503599627370496) (by omega)
  have h2 : wrap64 (((a / 4503599627370496 : Nat) : Int).tmod 2048) = ((a / 4503599627370496 % 2048 : Nat) : Int) := N.wr_nat (n := a / 4503599627370496 % 2048) (by omega)
  have h3 : (a : Int) % 4503599627370496 = ((a % 4503599627370496 : Nat) : Int) := rfl
  have h4 : (((a / 4503599627370496 : Nat) : Int) / 2048 == 1) = decide (a / 4503599627370496 / 2048 = 1) := by
   rw [Bool.eq_iff_iff]; simp; omega
  have hf : a / 4503599627370496 % 2048 < 2048 := Nat.mod_lt _ (by decide)
  have hr : a % 4503599627370496 < 4503599627370496 := Nat.mod_lt _ (by decide)
  rw [h1, h2, h3, h4]
  clear h1 h2 h3 h4 ha
  replace hR : partsOf false (a / 4503599627370496 % 2048) (a % 4503599627370496) (decide (a / 4503599627370496 / 2048 = 1)) = R := hR
  generalize a / 4503599627370496 % 2048 = f at *
  generalize a % 4503599627370496 = r at *
  generalize decide (a / 4503599627370496 / 2048 = 1) = neg at *
  have hL := parts_leaf hR
  clear hR
  simp only [fieldN, lowN, leastN] at hL
  have HE2 : Ext w W W.drew.drew := HE.drew.drew
  have kf2 : ∀ i, W.drew.drew.cell? ⟨g, i, none⟩ = _ := kf
  generalize W.drew.drew = W2 at *
  rcases hL with ⟨hf1, rfl, rfl⟩ | ⟨hf1, hr1, rfl⟩ | ⟨hf1, rfl, rfl, rfl⟩ | ⟨hf1, rfl, hr1, rfl⟩ | ⟨hf1, hf2, rfl⟩
  ·obtain rfl : f = 2047 := by omega
   go_wp2_with (go_at_call 71; refine (c3 _).mono ?_; rintro e w1 ⟨rfl, hb1⟩; have HE1 := Ext.next (w0 := w) (W := W) hb1)
   obtain ⟨w', hw', e0, e1, e2, e3, hb⟩ := fin4 ho HE1 _ _ _ _
   rw [← hw']
   exact bodyPost_ret (v := PP.v ⟨2, neg, 0, 0⟩) (by simp [results, Tryz.results21, go_sem, e0, e1, e2, e3, PP.v]) rfl ⟨rfl, hb⟩
  ·obtain rfl : f = 2047 := by omega
   have hr2 : ((r : Int) != 0) = true := by simp [hr1]
   have hr3 : (r : Int) ≠ 0 := by omega
   go_wp2_with (go_at_call 71; refine (c3 _).mono ?_; rintro e w1 ⟨rfl, hb1⟩; have HE1 := Ext.next (w0 := w) (W := W) hb1)
   obtain ⟨w', hw', e0, e1, e2, e3, hb⟩ := fin4 ho HE1 _ _ _ _
   rw [← hw']
   exact bodyPost_ret (v := PP.v ⟨3, false, 0, 0⟩) (by simp [results, Tryz.results21, go_sem, e0, e1, e2, e3, PP.v]) rfl ⟨rfl, hb⟩
  ·go_wp2_with (go_at_call 71; refine (c3 _).mono ?_; rintro e w1 ⟨rfl, hb1⟩; have HE1 := Ext.next (w0 := w) (W := W) hb1)
   obtain ⟨w', hw', e0, e1, e2, e3, hb⟩ := fin4 ho HE1 _ _ _ _
   rw [← hw']
   exact bodyPost_ret (v := PP.v ⟨0, neg, 0, 0⟩) (by simp [results, Tryz.results21, go_sem, e0, e1, e2, e3, PP.v]) rfl ⟨rfl, hb⟩
  ·have hr2 : ((r : Int) == 0) = false := by simp [hr1]
   have hr3 : (r : Int) ≠ 0 := by omega
   go_wp2_with (go_at_call 71; refine (c3 _).mono ?_; rintro e w1 ⟨rfl, hb1⟩; have HE1 := Ext.next (w0 := w) (W := W) hb1)
   obtain ⟨w', hw', e0, e1, e2, e3, hb⟩ := fin4 ho HE1 _ _ _ _
   rw [← hw']
   exact bodyPost_ret (v := PP.v ⟨1, neg, r, -1074⟩) (by simp [results, Tryz.results21, go_sem, e0, e1, e2, e3, PP.v]) rfl ⟨rfl, hb⟩
  ·have hf3 : (f : Int) ≠ 2047 := by omega
   have hf4 : (f : Int) ≠ 0 := by omega
   have b1 : wrap64 ((r : Int) + 4503599627370496) = ((r + 4503599627370496 : Nat) : Int) := N.wr (by omega) (by omega)
   have b2 : wrap64 ((f : Int) - 1) = (f : Int) - 1 := N.wr (by omega) (by omega)
   have b3 : wrap64 ((f : Int) - 1 + (-1074)) = (f : Int) - 1 + (-1074) := N.wr (by omega) (by omega)
   go_wp2_with (go_at_call 71; refine (c3 _).mono ?_; rintro e w1 ⟨rfl, hb1⟩; have HE1 := Ext.next (w0 := w) (W := W) hb1)
   obtain ⟨w', hw', e0, e1, e2, e3, hb⟩ := fin4 ho HE1 _ _ _ _
   rw [← hw']
   exact bodyPost_ret (v := PP.v ⟨1, neg, r + 4503599627370496, (f : Int) - 1 + (-1074)⟩) (by simp [results, Tryz.results21, go_sem, e0, e1, e2, e3, PP.v]) rfl ⟨rfl, hb⟩
 ·unfold fmtV at c1
  show Calls Tryz.prog 21 #[.int .i64 1, .int .u64 (a : Int)] w _
  replace c1 : ∀ w, Calls Tryz.prog 68 #[.int .i64 1] w _ := c1
  replace c2 : ∀ w, Calls Tryz.prog 71 #[.int .i64 8] w (Ret (.int .i64 256) w) := c2
  go_enter Tryz.func21, Tryz.ntmps21
  go_upto_region 2 with (go_at_call 68; refine (c1 _).mono ?_; rintro e w1 ⟨rfl, hb1⟩)
  refine hide_res hb1 (fun W kf hs ho HE => ?_)
  clear hb1 c1
  generalize w1.heap.size = g at *
  go_upto_region 4 with (fail)
  go_region
  go_upto_region 5 with (fail)
  go_region
  go_upto_region 6 with (fail)
  have h1 : IntKind.u64.wrap ((a : Int) / 8388608) = ((a / 8388608 : Nat) : Int) := by
   have : a < 18446744073709551616 := by have : (a : Int) < 4294967296 := ha; omega
   exact kuwrap (n := a / 8388608) (by omega)
  have h2 : wrap64 (((a / 8388608 : Nat) : Int).tmod 256) = ((a / 8388608 % 256 : Nat) : Int) := N.wr_nat (n := a / 8388608 % 256) (by omega)
  have h3 : (a : Int) % 8388608 = ((a % 8388608 : Nat) : Int) := rfl
  have h4 : (((a / 8388608 : Nat) : Int) / 256 == 1) = decide (a / 8388608 / 256 = 1) := by
   rw [Bool.eq_iff_iff]; simp; omega
  have hf : a / 8388608 % 256 < 256 := Nat.mod_lt _ (by decide)
  have hr : a % 8388608 < 8388608 := Nat.mod_lt _ (by decide)
  rw [h1, h2, h3, h4]
  clear h1 h2 h3 h4 ha
  replace hR : partsOf true (a / 8388608 % 256) (a % 8388608) (decide (a / 8388608 / 256 = 1)) = R := hR
  generalize a / 8388608 % 256 = f at *
  generalize a % 8388608 = r at *
  generalize decide (a / 8388608 / 256 = 1) = neg at *
  have hL := parts_leaf hR
  clear hR
  simp only [fieldN, lowN, leastN] at hL
  have HE2 : Ext w W W.drew.drew := HE.drew.drew
  have kf2 : ∀ i, W.drew.drew.cell? ⟨g, i, none⟩ = _ := kf
  generalize W.drew.drew = W2 at *
  rcases hL with ⟨hf1, rfl, rfl⟩ | ⟨hf1, hr1, rfl⟩ | ⟨hf1, rfl, rfl, rfl⟩ | ⟨hf1, rfl, hr1, rfl⟩ | ⟨hf1, hf2, rfl⟩
  ·obtain rfl : f = 255 := by omega
   go_wp2_with (go_at_call 71; refine (c2 _).mono ?_; rintro e w1 ⟨rfl, hb1⟩; have HE1 := Ext.next (w0 := w) (W := W) hb1)
   obtain ⟨w', hw', e0, e1, e2, e3, hb⟩ := fin4 ho HE1 _ _ _ _
   rw [← hw']
   exact bodyPost_ret (v := PP.v ⟨2, neg, 0, 0⟩) (by simp [results, Tryz.results21, go_sem, e0, e1, e2, e3, PP.v]) rfl ⟨rfl, hb⟩
  ·obtain rfl : f = 255 := by omega
   have hr2 : ((r : Int) != 0) = true := by simp [hr1]
   have hr3 : (r : Int) ≠ 0 := by omega
   go_wp2_with (go_at_call 71; refine (c2 _).mono ?_; rintro e w1 ⟨rfl, hb1⟩; have HE1 := Ext.next (w0 := w) (W := W) hb1)
   obtain ⟨w', hw', e0, e1, e2, e3, hb⟩ := fin4 ho HE1 _ _ _ _
   rw [← hw']
   exact bodyPost_ret (v := PP.v ⟨3, false, 0, 0⟩) (by simp [results, Tryz.results21, go_sem, e0, e1, e2, e3, PP.v]) rfl ⟨rfl, hb⟩
  ·go_wp2_with (go_at_call 71; refine (c2 _).mono ?_; rintro e w1 ⟨rfl, hb1⟩; have HE1 := Ext.next (w0 := w) (W := W) hb1)
   obtain ⟨w', hw', e0, e1, e2, e3, hb⟩ := fin4 ho HE1 _ _ _ _
   rw [← hw']
   exact bodyPost_ret (v := PP.v ⟨0, neg, 0, 0⟩) (by simp [results, Tryz.results21, go_sem, e0, e1, e2, e3, PP.v]) rfl ⟨rfl, hb⟩
  ·have hr2 : ((r : Int) == 0) = false := by simp [hr1]
   have hr3 : (r : Int) ≠ 0 := by omega
   go_wp2_with (go_at_call 71; refine (c2 _).mono ?_; rintro e w1 ⟨rfl, hb1⟩; have HE1 := Ext.next (w0 := w) (W := W) hb1)
   obtain ⟨w', hw', e0, e1, e2, e3, hb⟩ := fin4 ho HE1 _ _ _ _
   rw [← hw']
   exact bodyPost_ret (v := PP.v ⟨1, neg, r, -149⟩) (by simp [results, Tryz.results21, go_sem, e0, e1, e2, e3, PP.v]) rfl ⟨rfl, hb⟩
  ·have hf3 : (f : Int) ≠ 255 := by omega
   have hf4 : (f : Int) ≠ 0 := by omega
   have b1 : wrap64 ((r : Int) + 8388608) = ((r + 8388608 : Nat) : Int) := N.wr (by omega) (by omega)
   have b2 : wrap64 ((f : Int) - 1) = (f : Int) - 1 := N.wr (by omega) (by omega)
   have b3 : wrap64 ((f : Int) - 1 + (-149)) = (f : Int) - 1 + (-149) := N.wr (by omega) (by omega)
   go_wp2_with (go_at_call 71; refine (c2 _).mono ?_; rintro e w1 ⟨rfl, hb1⟩; have HE1 := Ext.next (w0 := w) (W := W) hb1)
   obtain ⟨w', hw', e0, e1, e2, e3, hb⟩ := fin4 ho HE1 _ _ _ _
   rw [← hw']
   exact bodyPost_ret (v := PP.v ⟨1, neg, r + 8388608, (f : Int) - 1 + (-149)⟩) (by simp [results, Tryz.results21, go_sem, e0, e1, e2, e3, PP.v]) rfl ⟨rfl, hb⟩
end Go.Proofs.YtmoimcblmmcffaaGreat.NC

namespace Go.Proofs.YtmoimcblmmcffaaGreat.NC
open Go.RowKit Go.Proofs.YtmoimcblmmcffaaGreat.B
set_option linter.unusedSimpArgs false
set_option linter.unusedVariables false
theorem hide_arg {P : Program} {c : Code} {Q : Exit → Act → World → Prop} {a : Act} {w w1 : World} {cs cs' : Array Value} {t t' : TypeId}
  (hb : Below (w.alloc (.cells cs t (0, 0))).heap.size (w.alloc (.cells cs t (0, 0))) w1)
  (h : ∀ W, (∀ i, W.cell? ⟨w.heap.size, i, none⟩ = cs[i]?) → (∀ i, W.cell? ⟨w1.heap.size, i, none⟩ = cs'[i]?) → w.heap.size < W.heap.size → w1.heap.size < W.heap.size → Ext w W W → c.wp P Q a W) :
  c.wp P Q a (w1.alloc (.cells cs' t' (0, 0))) := by
 have e1 : (w.alloc (.cells cs t (0, 0))).heap.size = w.heap.size + 1 := by simp
 have e2 : w.heap.size + 1 ≤ w1.heap.size := by have := hb.size; rw [e1] at this; exact this
 refine h _ (fun i => ?_) (fun i => ?_) (by simp; omega) (by simp) ?_
 ·have h1 := (bcell hb).1 w.heap.size i (by rw [e1]; omega)
  have h2 := cell_of_row (w.alloc (.cells cs t (0, 0))) _ i cs t (0, 0) (heap_alloc_new w _)
  rw [h2] at h1
  rw [← h1]
  exact (bcell (Below.refl w1.heap.size w1 |> fun hb => below_alloc0 hb _)).1 w.heap.size i (by omega)
 ·rw [cell_of_row _ _ i cs' t' (0, 0) (heap_alloc_new w1 _)]
 ·refine Ext.refl ?_
  exact below_alloc0 ((below_alloc0 (Below.refl _ _) _).trans (hb.mono (by rw [e1]; omega))) _
def mostN : Bool → Int
 | true => 104
 | false => 971
def signN : Bool → Nat
 | true => 2147483648
 | false => 9223372036854775808
def nanN : Bool → Nat
 | true => 2143289344
 | false => 9221120237041090560
def PP.ok (s : Bool) (p : PP) : Prop := p.kind = 0 ∨ p.kind = 2 ∨ p.kind = 3 ∨ p.kind = 1 ∧ p.sig < 2 * lowN s ∧ (lowN s ≤ p.sig → leastN s ≤ p.exp ∧ p.exp ≤ mostN s)
def bitsR (s : Bool) (p : PP) : Nat :=
 if p.kind = 3 then nanN s else (if p.neg then signN s else 0) + (if p.kind = 0 then 0 else if p.kind = 2 then lowN s * (fieldN s - 1) else if p.sig < lowN s then p.sig else lowN s * (p.exp - leastN s + 1).toNat + p.sig - lowN s)
theorem ret_eq {x y : Int} (h : x = y) : Ending.returned (.int .u64 x) = .returned (.int .u64 y) := by rw [h]
def sgnN (s neg : Bool) : Nat := if neg then signN s else 0
theorem bits_leaf {s : Bool} {p : PP} (hp : p.ok s) : (p.kind = 0 ∧ bitsR s p = sgnN s p.neg) ∨ (p.kind = 2 ∧ bitsR s p = sgnN s p.neg + lowN s * (fieldN s - 1)) ∨ (p.kind = 3 ∧ bitsR s p = nanN s) ∨ (p.kind = 1 ∧ p.sig < lowN s ∧ bitsR s p = sgnN s p.neg + p.sig) ∨
  (p.kind = 1 ∧ lowN s ≤ p.sig ∧ p.sig < 2 * lowN s ∧ ∃ q : Nat, p.exp = (q : Int) + leastN s ∧ (q : Int) ≤ mostN s - leastN s ∧ bitsR s p = sgnN s p.neg + (lowN s * (q + 1) + p.sig - lowN s)) := by
 unfold bitsR sgnN
 rcases hp with h | h | h | ⟨h, h1, h2⟩
 ·left; simp [h]
 ·right; left; simp [h]
 ·right; right; left; simp [h]
 ·right; right; right
  by_cases hlt : p.sig < lowN s
  ·left; simp [h, hlt]
  ·right
   obtain ⟨h3, h4⟩ := h2 (by omega)
   refine ⟨h, by omega, h1, (p.exp - leastN s).toNat, by omega, by omega, ?_⟩
   simp only [h, hlt, if_false]
   rw [show (p.exp - leastN s + 1).toNat = (p.exp - leastN s).toNat + 1 from by omega]
   simp
set_option maxHeartbeats 8000000 in
theorem bits_c (s : Bool) (p : PP) (w : World) (hp : p.ok s) : Calls Tryz.prog 69 #[.int .i64 (tv s), p.v] w (Ret (.int .u64 (bitsR s p : Int)) w) := by
 have c1 := formatOf_c s
 have c2 := nanR_c s
 have hL := bits_leaf hp
 clear hp
 obtain ⟨R, hR⟩ : ∃ R : Nat, bitsR s p = R := ⟨_, rfl⟩
 rw [hR]
 rw [hR] at hL
 clear hR
 obtain ⟨kind, neg, sig, exp⟩ := p
 unfold PP.v
 simp only at hL ⊢
 cases s
 ·unfold fmtV at c1
  replace c1 : ∀ w, Calls Tryz.prog 68 #[.int .i64 2] w _ := c1
  replace c2 : ∀ w, Calls Tryz.prog 67 #[.int .i64 2] w (Ret (.int .u64 9221120237041090560) w) := c2
  simp only [lowN, fieldN, leastN, mostN, signN, nanN, sgnN] at hL
  show Calls Tryz.prog 69 #[.int .i64 2, _] w _
  go_enter Tryz.func69, Tryz.ntmps69
  go_upto_region 2 with (go_at_call 68; refine (c1 _).mono ?_; rintro e w1 ⟨rfl, hb1⟩)
  refine hide_arg hb1 (fun W kp kf hs0 hs HE => ?_)
  clear hb1 c1
  generalize w1.heap.size = g at *
  rcases hL with ⟨rfl, hR⟩ | ⟨rfl, hR⟩ | ⟨rfl, hR⟩ | ⟨rfl, h1, hR⟩ | ⟨rfl, h1, h2, q, rfl, h3, hR⟩
  ·cases neg
   ·replace hR : R = 0 := by first | exact hR | (rw [hR]; rfl)
    go_wp2_with (go_at_call 67; refine (c2 _).mono ?_; rintro e w1 ⟨rfl, hb1⟩; have HE1 := Ext.next (w0 := w) (W := W) hb1)
    go_ret
    refine ⟨?_, Ext.end⟩
    clear kp kf hs0 hs
    refine ret_eq ?_
    subst hR; rfl
   ·replace hR : R = 9223372036854775808 := by first | exact hR | (rw [hR]; rfl)
    go_wp2_with (go_at_call 67; refine (c2 _).mono ?_; rintro e w1 ⟨rfl, hb1⟩; have HE1 := Ext.next (w0 := w) (W := W) hb1)
    go_ret
    refine ⟨?_, Ext.end⟩
    clear kp kf hs0 hs
    refine ret_eq ?_
    subst hR; rfl
  ·cases neg
   ·replace hR : R = 9218868437227405312 := by first | exact hR | (rw [hR]; rfl)
    go_wp2_with (go_at_call 67; refine (c2 _).mono ?_; rintro e w1 ⟨rfl, hb1⟩; have HE1 := Ext.next (w0 := w) (W := W) hb1)
    go_ret
    refine ⟨?_, Ext.end⟩
    clear kp kf hs0 hs
    refine ret_eq ?_
    subst hR; rfl
   ·replace hR : R = 18442240474082181120 := by first | exact hR | (rw [hR]; rfl)
    go_wp2_with (go_at_call 67; refine (c2 _).mono ?_; rintro e w1 ⟨rfl, hb1⟩; have HE1 := Ext.next (w0 := w) (W := W) hb1)
    go_ret
    refine ⟨?_, Ext.end⟩
    clear kp kf hs0 hs
    refine ret_eq ?_
    subst hR; rfl
  ·cases neg
   ·replace hR : R = 9221120237041090560 := by first | exact hR | (rw [hR]; rfl)
    go_wp2_with (go_at_call 67; refine (c2 _).mono ?_; rintro e w1 ⟨rfl, hb1⟩; have HE1 := Ext.next (w0 := w) (W := W) hb1)
    go_ret
    refine ⟨?_, Ext.end⟩
    clear kp kf hs0 hs
    refine ret_eq ?_
    subst hR; rfl
   ·replace hR : R = 9221120237041090560 := by first | exact hR | (rw [hR]; rfl)
    go_wp2_with (go_at_call 67; refine (c2 _).mono ?_; rintro e w1 ⟨rfl, hb1⟩; have HE1 := Ext.next (w0 := w) (W := W) hb1)
    go_ret
    refine ⟨?_, Ext.end⟩
    clear kp kf hs0 hs
    refine ret_eq ?_
    subst hR; rfl
  ·cases neg
   ·replace hR : R = 0 + sig := by first | exact hR | (rw [hR]; rfl)
    have f1 : IntKind.u64.wrap (sig : Int) = (sig : Int) := kuwrap (by omega)
    have f2 : (sig : Int) < 4503599627370496 := by omega
    go_wp2_with (go_at_call 67; refine (c2 _).mono ?_; rintro e w1 ⟨rfl, hb1⟩; have HE1 := Ext.next (w0 := w) (W := W) hb1)
    go_ret
    refine ⟨?_, Ext.end⟩
    clear kp kf hs0 hs
    refine ret_eq ?_
    (try rw [hR]); (try rw [f1]); (try rw [f3]); first | rfl | omega | (trace_state; omega)
   ·replace hR : R = 9223372036854775808 + sig := by first | exact hR | (rw [hR]; rfl)
    have f1 : IntKind.u64.wrap (sig : Int) = (sig : Int) := kuwrap (by omega)
    have f2 : (sig : Int) < 4503599627370496 := by omega
    have f3 : IntKind.u64.wrap (9223372036854775808 + (sig : Int)) = ((9223372036854775808 + sig : Nat) : Int) := kuwrap (n := 9223372036854775808 + sig) (by omega)
    go_wp2_with (go_at_call 67; refine (c2 _).mono ?_; rintro e w1 ⟨rfl, hb1⟩; have HE1 := Ext.next (w0 := w) (W := W) hb1)
    go_ret
    refine ⟨?_, Ext.end⟩
    clear kp kf hs0 hs
    refine ret_eq ?_
    (try rw [hR]); (try rw [f1]); (try rw [f3]); first | rfl | omega | (trace_state; omega)
  ·cases neg
   ·replace hR : R = 0 + (4503599627370496 * (q + 1) + sig - 4503599627370496) := by first | exact hR | (rw [hR]; rfl)
    have f1 : IntKind.u64.wrap (sig : Int) = (sig : Int) := kuwrap (by omega)
    have f2 : ¬ (sig : Int) < 4503599627370496 := by omega
    have f4 : (q : Int) + (-1074) - (-1074) = (q : Int) := by omega
    go_wp2_with (go_at_call 67; refine (c2 _).mono ?_; rintro e w1 ⟨rfl, hb1⟩; have HE1 := Ext.next (w0 := w) (W := W) hb1)
    go_ret
    refine ⟨?_, Ext.end⟩
    clear kp kf hs0 hs
    refine ret_eq ?_
    (try rw [hR]); (try rw [f1]); (try rw [f3]); first | rfl | omega | (trace_state; omega)
   ·replace hR : R = 9223372036854775808 + (4503599627370496 * (q + 1) + sig - 4503599627370496) := by first | exact hR | (rw [hR]; rfl)
    have f1 : IntKind.u64.wrap (sig : Int) = (sig : Int) := kuwrap (by omega)
    have f2 : ¬ (sig : Int) < 4503599627370496 := by omega
    have f4 : (q : Int) + (-1074) - (-1074) = (q : Int) := by omega
    go_wp2_with (go_at_call 67; refine (c2 _).mono ?_; rintro e w1 ⟨rfl, hb1⟩; have HE1 := Ext.next (w0 := w) (W := W) hb1)
    go_ret
    refine ⟨?_, Ext.end⟩
    clear kp kf hs0 hs
    refine ret_eq ?_
    (try rw [hR]); (try rw [f1]); (try rw [f3]); first | rfl | omega | (trace_state; omega)
 ·unfold fmtV at c1
  replace c1 : ∀ w, Calls Tryz.prog 68 #[.int .i64 1] w _ := c1
  replace c2 : ∀ w, Calls Tryz.prog 67 #[.int .i64 1] w (Ret (.int .u64 2143289344) w) := c2
  simp only [lowN, fieldN, leastN, mostN, signN, nanN, sgnN] at hL
  show Calls Tryz.prog 69 #[.int .i64 1, _] w _
  go_enter Tryz.func69, Tryz.ntmps69
  go_upto_region 2 with (go_at_call 68; refine (c1 _).mono ?_; rintro e w1 ⟨rfl, hb1⟩)
  refine hide_arg hb1 (fun W kp kf hs0 hs HE => ?_)
  clear hb1 c1
  generalize w1.heap.size = g at *
  rcases hL with ⟨rfl, hR⟩ | ⟨rfl, hR⟩ | ⟨rfl, hR⟩ | ⟨rfl, h1, hR⟩ | ⟨rfl, h1, h2, q, rfl, h3, hR⟩
  ·cases neg
   ·replace hR : R = 0 := by first | exact hR | (rw [hR]; rfl)
    go_wp2_with (go_at_call 67; refine (c2 _).mono ?_; rintro e w1 ⟨rfl, hb1⟩; have HE1 := Ext.next (w0 := w) (W := W) hb1)
    go_ret
    refine ⟨?_, Ext.end⟩
    clear kp kf hs0 hs
    refine ret_eq ?_
    subst hR; rfl
   ·replace hR : R = 2147483648 := by first | exact hR | (rw [hR]; rfl)
    go_wp2_with (go_at_call 67; refine (c2 _).mono ?_; rintro e w1 ⟨rfl, hb1⟩; have HE1 := Ext.next (w0 := w) (W := W) hb1)
    go_ret
    refine ⟨?_, Ext.end⟩
    clear kp kf hs0 hs
    refine ret_eq ?_
    subst hR; rfl
  ·cases neg
   ·replace hR : R = 2139095040 := by first | exact hR | (rw [hR]; rfl)
    go_wp2_with (go_at_call 67; refine (c2 _).mono ?_; rintro e w1 ⟨rfl, hb1⟩; have HE1 := Ext.next (w0 := w) (W := W) hb1)
    go_ret
    refine ⟨?_, Ext.end⟩
    clear kp kf hs0 hs
    refine ret_eq ?_
    subst hR; rfl
   ·replace hR : R = 4286578688 := by first | exact hR | (rw [hR]; rfl)
    go_wp2_with (go_at_call 67; refine (c2 _).mono ?_; rintro e w1 ⟨rfl, hb1⟩; have HE1 := Ext.next (w0 := w) (W := W) hb1)
    go_ret
    refine ⟨?_, Ext.end⟩
    clear kp kf hs0 hs
    refine ret_eq ?_
    subst hR; rfl
  ·cases neg
   ·replace hR : R = 2143289344 := by first | exact hR | (rw [hR]; rfl)
    go_wp2_with (go_at_call 67; refine (c2 _).mono ?_; rintro e w1 ⟨rfl, hb1⟩; have HE1 := Ext.next (w0 := w) (W := W) hb1)
    go_ret
    refine ⟨?_, Ext.end⟩
    clear kp kf hs0 hs
    refine ret_eq ?_
    subst hR; rfl
   ·replace hR : R = 2143289344 := by first | exact hR | (rw [hR]; rfl)
    go_wp2_with (go_at_call 67; refine (c2 _).mono ?_; rintro e w1 ⟨rfl, hb1⟩; have HE1 := Ext.next (w0 := w) (W := W) hb1)
    go_ret
    refine ⟨?_, Ext.end⟩
    clear kp kf hs0 hs
    refine ret_eq ?_
    subst hR; rfl
  ·cases neg
   ·replace hR : R = 0 + sig := by first | exact hR | (rw [hR]; rfl)
    have f1 : IntKind.u64.wrap (sig : Int) = (sig : Int) := kuwrap (by omega)
    have f2 : (sig : Int) < 8388608 := by omega
    go_wp2_with (go_at_call 67; refine (c2 _).mono ?_; rintro e w1 ⟨rfl, hb1⟩; have HE1 := Ext.next (w0 := w) (W := W) hb1)
    go_ret
    refine ⟨?_, Ext.end⟩
    clear kp kf hs0 hs
    refine ret_eq ?_
    (try rw [hR]); (try rw [f1]); (try rw [f3]); first | rfl | omega | (trace_state; omega)
   ·replace hR : R = 2147483648 + sig := by first | exact hR | (rw [hR]; rfl)
    have f1 : IntKind.u64.wrap (sig : Int) = (sig : Int) := kuwrap (by omega)
    have f2 : (sig : Int) < 8388608 := by omega
    have f3 : IntKind.u64.wrap (2147483648 + (sig : Int)) = ((2147483648 + sig : Nat) : Int) := kuwrap (n := 2147483648 + sig) (by omega)
    go_wp2_with (go_at_call 67; refine (c2 _).mono ?_; rintro e w1 ⟨rfl, hb1⟩; have HE1 := Ext.next (w0 := w) (W := W) hb1)
    go_ret
    refine ⟨?_, Ext.end⟩
    clear kp kf hs0 hs
    refine ret_eq ?_
    (try rw [hR]); (try rw [f1]); (try rw [f3]); first | rfl | omega | (trace_state; omega)
  ·cases neg
   ·replace hR : R = 0 + (8388608 * (q + 1) + sig - 8388608) := by first | exact hR | (rw [hR]; rfl)
    have f1 : IntKind.u64.wrap (sig : Int) = (sig : Int) := kuwrap (by omega)
    have f2 : ¬ (sig : Int) < 8388608 := by omega
    have f4 : (q : Int) + (-149) - (-149) = (q : Int) := by omega
    go_wp2_with (go_at_call 67; refine (c2 _).mono ?_; rintro e w1 ⟨rfl, hb1⟩; have HE1 := Ext.next (w0 := w) (W := W) hb1)
    go_ret
    refine ⟨?_, Ext.end⟩
    clear kp kf hs0 hs
    refine ret_eq ?_
    (try rw [hR]); (try rw [f1]); (try rw [f3]); first | rfl | omega | (trace_state; omega)
   ·replace hR : R = 2147483648 + (8388608 * (q + 1) + sig - 8388608) := by first | exact hR | (rw [hR]; rfl)
    have f1 : IntKind.u64.wrap (sig : Int) = (sig : Int) := kuwrap (by omega)
    have f2 : ¬ (sig : Int) < 8388608 := by omega
    have f4 : (q : Int) + (-149) - (-149) = (q : Int) := by omega
    go_wp2_with (go_at_call 67; refine (c2 _).mono ?_; rintro e w1 ⟨rfl, hb1⟩; have HE1 := Ext.next (w0 := w) (W := W) hb1)
    go_ret
    refine ⟨?_, Ext.end⟩
    clear kp kf hs0 hs
    refine ret_eq ?_
    (try rw [hR]); (try rw [f1]); (try rw [f3]); first | rfl | omega | (trace_state; omega)
end Go.Proofs.YtmoimcblmmcffaaGreat.NC

namespace Go.Proofs.YtmoimcblmmcffaaGreat.NC
open Go.RowKit Go.Proofs.YtmoimcblmmcffaaGreat.B Go.Proofs.YtmoimcblmmcffaaGreat.N
set_option linter.unusedSimpArgs false
set_option linter.unusedVariables false
def precN : Bool → Nat
 | true => 24
 | false => 53
def moreOf (m : Nat) (more : Bool) : Nat := m * 8 + more.toNat
def placeOf (s : Bool) (m : Nat) (e : Int) : Int := max ((N.bits m : Int) - precN s + e) (leastN s)
def keptOf (m : Nat) (e tp : Int) : Nat := if tp ≤ e then m * 2 ^ (e - tp).toNat else Fl.rnd m (tp - e).toNat
def overOf (s : Bool) (m : Nat) (e : Int) : Nat × Int := if precN s < N.bits m then (m / 2, e + 1) else (m, e)
def packOf (s neg : Bool) (m : Nat) (e : Int) : PP := if m = 0 then ⟨0, neg, 0, 0⟩ else if e > mostN s then ⟨2, neg, 0, 0⟩ else ⟨1, neg, m, e⟩
def roundR (s neg : Bool) (m : Nat) (e : Int) (more : Bool) : Nat :=
 if m = 0 then bitsR s ⟨0, neg, 0, 0⟩ else
  let m1 := moreOf m more
  let tp := placeOf s m1 (e - 3)
  let k := overOf s (keptOf m1 (e - 3) tp) tp
  bitsR s (packOf s neg k.1 k.2)
theorem len_mono {a b : Nat} (h : a ≤ b) : (digs a).length ≤ (digs b).length := by
 by_cases h2 : (digs a).length ≤ (digs b).length
 ·exact h2
 ·have := digs_len_lt (a := b) (b := a) (by omega); omega
theorem rnd_ord (n D : Nat) (hD : 1 ≤ D) : (ordN (n - n / 2 ^ D * 2 ^ D) (2 ^ (D - 1)) = -1 ∧ Fl.rnd n D = n / 2 ^ D) ∨ (ordN (n - n / 2 ^ D * 2 ^ D) (2 ^ (D - 1)) = 1 ∧ Fl.rnd n D = n / 2 ^ D + 1) ∨ (ordN (n - n / 2 ^ D * 2 ^ D) (2 ^ (D - 1)) = 0 ∧ Fl.rnd n D = if n / 2 ^ D % 2 = 1 then n / 2 ^ D + 1 else n / 2 ^ D) := by
 have e1 : n - n / 2 ^ D * 2 ^ D = n % 2 ^ D := by
  have := Nat.div_add_mod n (2 ^ D)
  rw [Nat.mul_comm] at this
  omega
 have e2 : 2 ^ D = 2 * 2 ^ (D - 1) := by
  obtain ⟨k, rfl⟩ : ∃ k, D = k + 1 := ⟨D - 1, by omega⟩
  rw [Nat.pow_succ, Nat.add_sub_cancel]; omega
 rw [e1]
 unfold Fl.rnd ordN
 generalize n / 2 ^ D = q
 generalize n % 2 ^ D = r
 rw [e2]
 generalize 2 ^ (D - 1) = h
 by_cases h1 : r < h
 ·left
  rw [if_pos h1, decide_eq_false (by omega : ¬ 2 * h < 2 * r), show (2 * h == 2 * r) = false from by simp; omega]
  simp
 ·by_cases h2 : r = h
  ·right; right
   subst h2
   rw [if_neg h1, if_pos rfl, decide_eq_false (by omega : ¬ 2 * r < 2 * r)]
   by_cases h3 : q % 2 = 1 <;> simp [h3]
  ·right; left
   rw [if_neg h1, if_neg h2, decide_eq_true (by omega : 2 * h < 2 * r)]
   simp
theorem kept_bound (s : Bool) (m : Nat) (e : Int) : keptOf m e (placeOf s m e) ≤ 2 ^ precN s := by
 have hm := log_lt m
 unfold keptOf
 by_cases hle : placeOf s m e ≤ e
 ·rw [if_pos hle]
  have hb : (N.bits m : Int) - precN s + e ≤ placeOf s m e := by unfold placeOf; omega
  obtain ⟨d, hd⟩ : ∃ d : Nat, e - placeOf s m e = d := ⟨(e - placeOf s m e).toNat, by omega⟩
  rw [hd, Int.toNat_natCast]
  have h1 : m * 2 ^ d ≤ 2 ^ N.bits m * 2 ^ d := Nat.mul_le_mul_right _ (by omega)
  rw [← Nat.pow_add] at h1
  exact Nat.le_trans h1 (Nat.pow_le_pow_right (by decide) (by omega))
 ·rw [if_neg hle]
  have hb : (N.bits m : Int) - precN s + e ≤ placeOf s m e := by unfold placeOf; omega
  obtain ⟨d, hd⟩ : ∃ d : Nat, placeOf s m e - e = d := ⟨(placeOf s m e - e).toNat, by omega⟩
  rw [hd, Int.toNat_natCast]
  have h1 : Fl.rnd m d ≤ m / 2 ^ d + 1 := by
   unfold Fl.rnd
   have : ∀ b : Bool, b.toNat ≤ 1 := by decide
   have := this (2 ^ d < 2 * (m % 2 ^ d) || (2 ^ d == 2 * (m % 2 ^ d) && m / 2 ^ d % 2 == 1))
   omega
  have h2 : m / 2 ^ d < 2 ^ precN s := by
   refine Nat.div_lt_of_lt_mul (Nat.lt_of_lt_of_le hm ?_)
   rw [← Nat.pow_add]
   exact Nat.pow_le_pow_right (by decide) (by omega)
  omega
theorem over_facts (s : Bool) (m : Nat) (e : Int) (hm : m ≤ 2 ^ precN s) : (overOf s m e).1 < 2 * lowN s ∧ (leastN s ≤ e → leastN s ≤ (overOf s m e).2) := by
 have h1 := log_lt m
 have hp : 2 ^ precN s = 2 * lowN s := by cases s <;> rfl
 unfold overOf
 by_cases h : precN s < N.bits m
 ·rw [if_pos h]
  have hl : 0 < lowN s := by cases s <;> decide
  exact ⟨by simp only; omega, fun _ => by simp only; omega⟩
 ·rw [if_neg h]
  refine ⟨?_, fun h => h⟩
  have : 2 ^ N.bits m ≤ 2 ^ precN s := Nat.pow_le_pow_right (by decide) (by omega)
  simp only
  omega
theorem par_facts (q : Nat) : Int.tmod ((q % 65536 : Nat) : Int) 2 = ((q % 2 : Nat) : Int) ∧ ((q % 65536 : Nat) : Int) % 2 = ((q % 2 : Nat) : Int) ∧ (q % 2 = 0 ∨ q % 2 = 1) := by
 refine ⟨?_, by omega, by omega⟩
 show ((q % 65536 % 2 : Nat) : Int) = _
 omega
theorem iwr {n : Int} (h0 : -9223372036854775808 ≤ n) (h1 : n ≤ 9223372036854775807) : IntKind.i64.wrap n = n := by
 unfold IntKind.wrap
 simp [IntKind.signed, IntKind.bits]
 omega
end Go.Proofs.YtmoimcblmmcffaaGreat.NC

namespace Go.Proofs.YtmoimcblmmcffaaGreat.NC
open Go.RowKit Go.Proofs.YtmoimcblmmcffaaGreat.B Go.Proofs.YtmoimcblmmcffaaGreat.N
set_option linter.unusedSimpArgs false
set_option linter.unusedVariables false
theorem hide_fmt {P : Program} {c : Code} {Q : Exit → Act → World → Prop} {a : Act} {w w1 : World} {cs' : Array Value} {t' : TypeId}
  (hb : Below w.heap.size w w1)
  (h : ∀ W, (∀ i, W.cell? ⟨w1.heap.size, i, none⟩ = cs'[i]?) → w1.heap.size < W.heap.size → Ext w W W → c.wp P Q a W) :
  c.wp P Q a (w1.alloc (.cells cs' t' (0, 0))) := by
 refine h _ (fun i => ?_) (by simp) ?_
 ·rw [cell_of_row _ _ i cs' t' (0, 0) (heap_alloc_new w1 _)]
 ·exact Ext.refl (below_alloc0 hb _)
set_option maxHeartbeats 8000000 in
theorem round_c0 (s neg : Bool) (e : Int) (more : Bool) (A : Option Addr) (c : Nat) (w : World) :
  Calls Tryz.prog 74 #[.int .i64 (tv s), .bool neg, .slice A 0 c, .int .i64 e, .bool more] w (Ret (.int .u64 (bitsR s ⟨0, neg, 0, 0⟩ : Int)) w) := by
 have c1 := formatOf_c s
 have hlay : fmtV s = .agg #[.int .i64 (precN s : Int), .int .i64 (if s then 8 else 11), .int .i64 (leastN s), .int .i64 (mostN s)] := by cases s <;> rfl
 rw [hlay] at c1
 clear hlay
 have c2 := fun w => bits_c s ⟨0, neg, 0, 0⟩ w (.inl rfl)
 unfold PP.v at c2
 generalize (if s then (8 : Int) else 11) = f8 at *
 generalize bitsR s ⟨0, neg, 0, 0⟩ = R at *
 generalize precN s = prec at *
 generalize leastN s = least at *
 generalize mostN s = most at *
 generalize tv s = t at *
 go_enter Tryz.func74, Tryz.ntmps74
 go_upto_region 2 with (go_at_call 68; refine (c1 _).mono ?_; rintro e w1 ⟨rfl, hb1⟩)
 refine hide_fmt hb1 (fun W kf hs HE => ?_)
 clear hb1 c1
 generalize w1.heap.size = g at *
 go_wp2_with (go_at_call 69; refine (c2 _).mono ?_; rintro e w1 ⟨rfl, hb1⟩; have HE1 := Ext.next (w0 := w) (W := W) hb1)
 go_ret
 exact ⟨rfl, Ext.end⟩
set_option maxRecDepth 100000 in
set_option maxHeartbeats 8000000 in
theorem round_c1 (s neg : Bool) (m : Nat) (e : Int) (more : Bool) (A : Option Addr) (c : Nat) (w : World) (hm : m ≠ 0) (hB : Big w A m) (hc : (digs m).length ≤ c) (hl : (digs m).length ≤ 1000) (h1 : -10000 ≤ e) (h2 : e ≤ 10000) :
  Calls Tryz.prog 74 #[.int .i64 (tv s), .bool neg, .slice A (digs m).length c, .int .i64 e, .bool more] w (Ret (.int .u64 (roundR s neg m e more : Int)) w) := by
 have c1 := formatOf_c s
 obtain ⟨R, hR⟩ : ∃ R : Nat, roundR s neg m e more = R := ⟨_, rfl⟩
 rw [hR]
 unfold roundR at hR
 rw [if_neg hm] at hR
 have hlay : fmtV s = .agg #[.int .i64 (precN s : Int), .int .i64 (if s then 8 else 11), .int .i64 (leastN s), .int .i64 (mostN s)] := by cases s <;> rfl
 rw [hlay] at c1
 clear hlay
 have hls : leastN s = -149 ∨ leastN s = -1074 := by cases s <;> simp [leastN]
 have hms : mostN s = 104 ∨ mostN s = 971 := by cases s <;> simp [mostN]
 have hps : precN s = 24 ∨ precN s = 53 := by cases s <;> simp [precN]
 have hml : (digs (m * 8)).length ≤ 1001 := by
  have h := val_lt (dig_digs m)
  rw [val_digs] at h
  have := digs_len (n := m * 8) (m := (digs m).length + 1) (by rw [Nat.pow_succ]; omega)
  omega
 have d3 : (digs m).length ≠ 0 := fun h => hm (digs_nil.1 h)
 have d1 : ((digs m).length : Int) ≠ 0 := by omega
 have d2 : wrap64 (e - 3) = e - 3 := wr (by omega) (by omega)
 have cl : ∀ w, Big w A m → Calls Tryz.prog 110 #[.slice A (digs m).length c, .int .i64 3] w (RetBig (m * 8) w) := fun w h => left_c (s := 3) w h hc (by omega) (by decide)
 have hmo1 : (digs (moreOf m more)).length ≤ 1002 := by
  have h := val_lt (dig_digs (m * 8))
  rw [val_digs] at h
  have := digs_len (n := moreOf m more) (m := (digs (m * 8)).length + 1) (by unfold moreOf; rw [Nat.pow_succ]; cases more <;> simp <;> omega)
  omega
 have hmb : N.bits (moreOf m more) ≤ 20000 := by have := bits_len (moreOf m more); omega
 have l1 : (digs 1).length ≤ Lim := by rw [digs_one]; decide
 have cp : ∀ (w : World) (A : Option Addr) (c : Nat) (A' : Option Addr) n, Big w A n → (digs n).length ≤ c → (digs n).length ≤ Lim → Big w A' 1 → Calls Tryz.prog 112 #[.slice A (digs n).length c, .slice A' 1 1] w (RetBig (n + 1) w) := by
  intro w A c A' n h hc hl h'
  have := plus_c (n1 := 1) w h hc h' (by rw [digs_one]; exact Nat.le_refl 1) hl l1
  rwa [digs_one] at this
 have cl1 : ∀ (w : World) (A' : Option Addr) (s : Nat), s ≤ 100000 → Big w A' 1 → Calls Tryz.prog 110 #[.slice A' 1 1, .int .i64 (s : Int)] w (RetBig (2 ^ s) w) := by
  intro w A' s hs h'
  have := left_c (n0 := 1) (s := s) w h' (by rw [digs_one]; exact Nat.le_refl 1) (by rw [digs_one]; decide) hs
  rwa [digs_one, Nat.one_mul] at this
 generalize (if s then (8 : Int) else 11) = f8 at *
 go_enter Tryz.func74, Tryz.ntmps74
 go_upto_region 2 with (go_at_call 68; refine (c1 _).mono ?_; rintro e w1 ⟨rfl, hb1⟩)
 refine hide_fmt hb1 (fun W kf hs HE => ?_)
 clear hb1 c1
 generalize w1.heap.size = g at *
 go_upto_if 31 with (go_at_call 110; refine (cl _ (hB.below (Ext.end))).mono ?_; rintro e w1 ⟨A1, c1, rfl, hc1, hB1, hb1⟩; have HE1 := Ext.next (w0 := w) (W := W) hb1)
 go_cut [2] (fun v2 wc => ∃ A c, v2 = .slice A (digs (moreOf m more)).length c ∧ (digs (moreOf m more)).length ≤ c ∧ Big wc A (moreOf m more) ∧ Ext w W wc)
 case first =>
  cases more
  ·clear hmo1 hmb hR
   go_wp2
   go_meet
   rw [show moreOf m false = m * 8 from rfl]
   exact ⟨A1, c1, rfl, hc1, hB1, HE1⟩
  ·clear hmo1 hmb hR
   go_wp2_with (go_at_call 112; refine (cp _ _ _ _ _ (hB1.alloc _) hc1 (by unfold Lim; omega) (big_lit digs_one)).mono ?_; rintro e w2 ⟨A2, c2, rfl, hc2, hB2, hb2⟩)
   go_meet
   rw [show moreOf m true = m * 8 + 1 from rfl]
   exact ⟨A2, c2, rfl, hc2, hB2, HE1.call (below_call (below_alloc0 (Below.refl _ _) _) hb2)⟩
 case rest =>
  obtain ⟨A2, c2, rfl, hc2, hB2, HE2⟩ := hcut
  generalize wc = V at *
  have kf2 : ∀ i, V.cell? ⟨g, i, none⟩ = _ := fun i => (HE2.1 g i hs).trans (kf i)
  have hs2 : g < V.heap.size := Nat.lt_of_lt_of_le hs HE2.2.2.1
  have HE3 : Ext w V V := Ext.refl HE2.2.2.2
  clear kf hs HE HE1 HE2 hb1 hB1 hc1 hB hc cl d2
  generalize moreOf m more = m1 at *
  have hR' : R = R := rfl
  have h3 : -10003 ≤ e - 3 := by omega
  have h4 : e - 3 ≤ 9997 := by omega
  clear h1 h2
  generalize e - 3 = e3 at *
  obtain ⟨tp, htp⟩ : ∃ x, placeOf s m1 e3 = x := ⟨_, rfl⟩
  rw [htp] at hR
  have htp2 : tp = max ((N.bits m1 : Int) - precN s + e3) (leastN s) := htp.symm
  have htb : -2000 ≤ tp ∧ tp ≤ 40000 := by omega
  go_upto_region 7 with (fail)
  go_cut [12] (fun v12 wx => v12 = .int .i64 tp ∧ Ext w V wx)
  case first =>
   have b1 : IntKind.i64.wrap ((N.bits m1 : Int) - (precN s : Int)) = (N.bits m1 : Int) - (precN s : Int) := iwr (by omega) (by omega)
   have b2 : IntKind.i64.wrap ((N.bits m1 : Int) - (precN s : Int) + e3) = (N.bits m1 : Int) - (precN s : Int) + e3 := iwr (by omega) (by omega)
   clear hR htp htb
   generalize precN s = prec at *
   generalize leastN s = least at *
   generalize mostN s = most at *
   go_region_held3 (fun w' => Ext w V w') (first | exact Ext.drew (by assumption) | exact Ext.next (by assumption)) ((go_at_call 113; refine (length_c _ (hB2.ext (by assumption)) hc2 (by unfold Lim; omega)).mono ?_; rintro e w1 ⟨rfl, hb1⟩))
   go_wp2
   ·go_meet
    refine ⟨?_, by assumption⟩
    congr 1
    omega
   ·go_meet
    refine ⟨?_, by assumption⟩
    congr 1
    omega
  case rest =>
   obtain ⟨rfl, HE4⟩ := hcut
   generalize wc = V1 at *
   have kf3 : ∀ i, V1.cell? ⟨g, i, none⟩ = _ := fun i => (HE4.1 g i hs2).trans (kf2 i)
   have hs3 : g < V1.heap.size := Nat.lt_of_lt_of_le hs2 HE4.2.2.1
   have HE5 : Ext w V1 V1 := Ext.refl HE4.2.2.2
   have hB3 := hB2.ext HE4
   clear kf2 hs2 HE3 HE4 hB2
   have hkb := kept_bound s m1 e3
   rw [htp] at hkb
   obtain ⟨kp, hkp⟩ : ∃ x, keptOf m1 e3 tp = x := ⟨_, rfl⟩
   rw [hkp] at hR hkb
   have htl : leastN s ≤ tp := by omega
   clear htp htp2
   go_upto_if 47 with (fail)
   go_cut [2, 3] (fun v2 v3 wc => ∃ A c, v2 = .slice A (digs kp).length c ∧ v3 = .int .i64 tp ∧ (digs kp).length ≤ c ∧ Big wc A kp ∧ Ext w V1 wc)
   case first =>
    clear hR hkb
    by_cases hle : tp ≤ e3
    ·rw [decide_eq_true hle]
     obtain ⟨d, hd⟩ : ∃ d : Nat, e3 = tp + (d : Int) := ⟨(e3 - tp).toNat, by omega⟩
     have hk : kp = m1 * 2 ^ d := by
      rw [← hkp]
      unfold keptOf
      rw [if_pos hle, show (e3 - tp).toNat = d from by omega]
     clear hkp
     have ce : ∀ w, Big w A2 m1 → Calls Tryz.prog 110 #[.slice A2 (digs m1).length c2, .int .i64 (d : Int)] w (RetBig kp w) := by
      intro w h
      rw [hk]
      exact left_c (s := d) w h hc2 (by omega) (by omega)
     have b3 : wrap64 (e3 - tp) = (d : Int) := by
      have hd9 : d ≤ 9223372036854775807 := by omega
      have hd8 : e3 - tp = (d : Int) := by omega
      rw [hd8]; exact wr_nat hd9
     clear hk hd hle htb h3 h4 htl
     clear hm hml d3 d1 l1 cp cl1 hmo1 hmb
     go_upto_region 9 with (fail)
     go_wp2_with (go_at_call 110; refine (ce _ hB3).mono ?_; rintro e w1 ⟨A1, c1, rfl, hc1, hB1, hb1⟩)
     go_meet
     exact ⟨A1, c1, rfl, rfl, hc1, hB1, Ext.next hb1⟩
    ·rw [decide_eq_false hle]
     obtain ⟨D, hD⟩ : ∃ D : Nat, tp = e3 + (D : Int) := ⟨(tp - e3).toNat, by omega⟩
     have hD1 : 1 ≤ D := by omega
     have hD2 : D ≤ 60000 := by omega
     have hk : Fl.rnd m1 D = kp := by
      rw [← hkp]
      unfold keptOf
      rw [if_neg hle, hD, show (e3 + (D : Int) - e3).toNat = D from by omega]
     clear hkp
     have hro := rnd_ord m1 D hD1
     rw [hk] at hro
     have hqm : m1 / 2 ^ D * 2 ^ D ≤ m1 := Nat.div_mul_le_self _ _
     have hqm2 : m1 / 2 ^ D ≤ m1 := Nat.div_le_self _ _
     have cr : ∀ w, Big w A2 m1 → Calls Tryz.prog 114 #[.slice A2 (digs m1).length c2, .int .i64 (D : Int)] w (fun e w' => ∃ A c, e = .returned (.tuple #[.slice A (digs (m1 / 2 ^ D)).length c, .bool (m1 % 2 ^ D != 0)]) ∧ (digs (m1 / 2 ^ D)).length ≤ c ∧ Big w' A (m1 / 2 ^ D) ∧ Below w.heap.size w w') :=
      fun w h => right_c (s := D) w h hc2 (by unfold Lim; omega) (by omega)
     have hlq := len_mono hqm2
     have hlr := len_mono (show m1 - m1 / 2 ^ D * 2 ^ D ≤ m1 from Nat.sub_le _ _)
     generalize (m1 % 2 ^ D != 0) = flag at *
     generalize m1 / 2 ^ D = q at *
     have cle : ∀ w A c, Big w A q → (digs q).length ≤ c → Calls Tryz.prog 110 #[.slice A (digs q).length c, .int .i64 (D : Int)] w (RetBig (q * 2 ^ D) w) := fun w A c h hc => left_c (s := D) w h hc (by omega) (by omega)
     have cm : ∀ w A c, Big w A2 m1 → Big w A (q * 2 ^ D) → (digs (q * 2 ^ D)).length ≤ c → Calls Tryz.prog 115 #[.slice A2 (digs m1).length c2, .slice A (digs (q * 2 ^ D)).length c] w (RetBig (m1 - q * 2 ^ D) w) := fun w A c h h' hc => minus_c w h hc2 h' hc (by unfold Lim; omega) hqm
     generalize q * 2 ^ D = lq at *
     generalize m1 - lq = rs at *
     have clh := fun w A' => cl1 w A' (D - 1) (by omega)
     have hl2 : (digs rs).length ≤ Lim := by unfold Lim; omega
     have hl3 : (digs q).length ≤ Lim := by unfold Lim; omega
     obtain ⟨b3, b4⟩ : wrap64 (tp - e3) = (D : Int) ∧ wrap64 ((D : Int) - 1) = ((D - 1 : Nat) : Int) := by
      have hd9 : D ≤ 9223372036854775807 := by omega
      have hd7 : D - 1 ≤ 9223372036854775807 := by omega
      have hd8 : tp - e3 = (D : Int) := by omega
      have hd6 : (D : Int) - 1 = ((D - 1 : Nat) : Int) := by omega
      exact ⟨by rw [hd8]; exact wr_nat hd9, by rw [hd6]; exact wr_nat hd7⟩
     generalize D - 1 = Dm at *
     generalize 2 ^ Dm = half at *
     clear htl hD hm hml d3 d1 hmb hmo1 hlq hlr hqm hqm2 l1 hD1 hD2 htb hle h3 h4
     go_upto_region 10 with (fail)
     go_upto_region 11 with (go_at_call 114; refine (cr _ hB3).mono ?_; rintro e w1 ⟨Aq, cq, rfl, hcq, hBq, hb1⟩)
     have hB4 := hB3.below hb1
     have HE6 : Ext w V1 w1 := Ext.next hb1
     clear cr hb1 hB3 HE5
     go_upto_region 12 with (first | (go_at_call 110; refine (cle _ _ _ hBq hcq).mono ?_; rintro e w2 ⟨Al, cl', rfl, hcl, hBl, hb2⟩) | (go_at_call 115; refine (cm _ _ _ (hB4.below hb2) hBl hcl).mono ?_; rintro e w3 ⟨Ar, cr, rfl, hcr, hBr, hb3⟩))
     have HE7 := HE6.call hb2
     have HE8 := HE7.call hb3
     have hBq2 := (hBq.below hb2).below hb3
     clear hBq hBl hB4 HE6 HE7 hb2 hb3 cle cm
     go_upto_region 13 with (go_at_call 110; refine (clh _ _ (big_lit digs_one)).mono ?_; rintro e w4 ⟨Ah, ch, rfl, hch, hBh, hb4⟩)
     have hb5 := below_call (below_alloc0 (Below.refl _ _) _) hb4
     have HE9 := HE8.call hb5
     have hBq3 := hBq2.below hb5
     have hBr2 := hBr.below hb5
     clear hb4 hb5 HE8 hBq2 hBr clh cl1
     go_upto_region 14 with (go_at_call 116; refine (order_c _ hBr2 hcr hBh hch hl2).mono ?_; rintro e w5 ⟨rfl, hb6⟩)
     have HE10 := HE9.call hb6
     have hBq4 := hBq3.below hb6
     clear hb6 HE9 hBq3 hBr2 hBh
     generalize ordN rs half = x at *
     rcases hro with ⟨rfl, rfl⟩ | ⟨rfl, rfl⟩ | ⟨rfl, hpar⟩
     ·go_wp2
      go_meet
      exact ⟨Aq, cq, rfl, rfl, hcq, hBq4, HE10⟩
     ·go_wp2_with (go_at_call 112; refine (cp _ _ _ _ _ (hBq4.alloc _) hcq hl3 (big_lit digs_one)).mono ?_; rintro e w6 ⟨A6, c6, rfl, hc6, hB6, hb7⟩)
      go_meet
      exact ⟨A6, c6, rfl, rfl, hc6, hB6, HE10.call (below_call (below_alloc0 (Below.refl _ _) _) hb7)⟩
     ·have cd := digit_c w5 hBq4 hcq
      obtain ⟨ht, ht2, hq2⟩ := par_facts q
      generalize q % 65536 = z at *
      rcases hq2 with hq2 | hq2
      ·rw [hq2] at ht ht2
       rw [if_neg (by rw [hq2]; decide)] at hpar
       subst hpar
       go_wp2_with (go_at_call 117; refine cd.mono ?_; rintro e w6 ⟨rfl, hb7⟩)
       go_meet
       exact ⟨Aq, cq, rfl, rfl, hcq, hBq4.below hb7, HE10.call hb7⟩
      ·rw [hq2] at ht ht2
       rw [if_pos hq2] at hpar
       subst hpar
       go_wp2_with (first | (go_at_call 117; refine cd.mono ?_; rintro e w6 ⟨rfl, hb7⟩) | (go_at_call 112; refine (cp _ _ _ _ _ ((hBq4.below hb7).alloc _) hcq hl3 (big_lit digs_one)).mono ?_; rintro e w8 ⟨A6, c6, rfl, hc6, hB6, hb8⟩))
       go_meet
       exact ⟨A6, c6, rfl, rfl, hc6, hB6, (HE10.call hb7).call (below_call (below_alloc0 (Below.refl _ _) _) hb8)⟩
   case rest =>
    obtain ⟨A3, c3, rfl, rfl, hc3, hB5, HE6⟩ := hcut
    generalize wc = V2 at *
    have kf4 : ∀ i, V2.cell? ⟨g, i, none⟩ = _ := fun i => (HE6.1 g i hs3).trans (kf3 i)
    have hs4 : g < V2.heap.size := Nat.lt_of_lt_of_le hs3 HE6.2.2.1
    have HE7 : Ext w V2 V2 := Ext.refl HE6.2.2.2
    have hkl : (digs kp).length ≤ 10 := by
     have : (digs kp).length ≤ 54 / 16 + 1 := len_bits (Nat.lt_of_le_of_lt hkb (by rcases hps with h | h <;> rw [h] <;> decide))
     omega
    obtain ⟨hk1, hk2⟩ := over_facts s kp tp hkb
    clear kf3 hs3 HE5 HE6 hB3 hc2 hkp hml hmo1 cp cl1 l1 d1 d3 hkb hmb hl
    obtain ⟨k3, hk3⟩ : ∃ k, overOf s kp tp = k := ⟨_, rfl⟩
    rw [hk3] at hR hk1 hk2
    obtain ⟨m3, e4⟩ := k3
    simp only at hR hk1 hk2
    go_upto_region 17 with (fail)
    have hov : ((precN s : Int) < (N.bits kp : Int) ∧ kp / 2 ^ 1 = m3 ∧ wrap64 (tp + 1) = e4) ∨ ((N.bits kp : Int) ≤ (precN s : Int) ∧ kp = m3 ∧ tp = e4) := by
     unfold overOf at hk3
     by_cases h : precN s < N.bits kp
     ·rw [if_pos h] at hk3
      injection hk3 with h5 h6
      exact .inl ⟨by omega, h5, by rw [← h6]; exact wr (by omega) (by omega)⟩
     ·rw [if_neg h] at hk3
      injection hk3 with h5 h6
      exact .inr ⟨by omega, h5, h6⟩
    have cri : ∀ w, Big w A3 kp → Calls Tryz.prog 114 #[.slice A3 (digs kp).length c3, .int .i64 1] w (fun e w' => ∃ A c, e = .returned (.tuple #[.slice A (digs (kp / 2 ^ 1)).length c, .bool (kp % 2 ^ 1 != 0)]) ∧ (digs (kp / 2 ^ 1)).length ≤ c ∧ Big w' A (kp / 2 ^ 1) ∧ Below w.heap.size w w') :=
     fun w h => right_c (s := 1) w h hc3 (by unfold Lim; omega) (by decide)
    generalize (kp % 2 ^ 1 != 0) = flag at *
    have hk10 : (digs kp).length ≤ Lim := by unfold Lim; omega
    have HOV := Lib.hid hov
    have CRI := Lib.hid cri
    have HK : RowKit.Hid (m3 < 2 * lowN s ∧ leastN s ≤ e4) := ⟨hk1, hk2 htl⟩
    have HR := Lib.hid hR
    clear hR
    clear hov cri hk3 hls hms hps htb htl h3 h4 hkl hk1 hk2 hm
    generalize precN s = prec at *
    go_region_held3 (fun w' => Ext w V2 w') (first | exact Ext.drew (by assumption) | exact Ext.next (by assumption)) ((go_at_call 113; refine (length_c _ (hB5.ext (by assumption)) hc3 hk10).mono ?_; rintro e w1 ⟨rfl, hb1⟩))
    have HE8 := (by assumption : Ext w V2 _)
    go_upto_if 99 with (fail)
    go_cut [2, 3] (fun v2 v3 wc => ∃ A c, v2 = .slice A (digs m3).length c ∧ v3 = .int .i64 e4 ∧ (digs m3).length ≤ c ∧ Big wc A m3 ∧ Ext w V2 wc)
    case first =>
     rcases HOV with ⟨ho, h5, h6⟩ | ⟨ho, h5, h6⟩
     ·first | rw [decide_eq_true (show prec < N.bits kp by omega)] | rw [decide_eq_true ho] | rw [decide_eq_true (p := (N.bits kp : Int) > (prec : Int)) ho]
      have cri2 : ∀ w, Big w A3 kp → _ := CRI
      rw [h5] at cri2
      clear CRI ho h5
      go_upto_region 18 with (fail)
      go_upto_region 19 with (go_at_call 114; refine (cri2 _ (hB5.ext HE8)).mono ?_; rintro e w2 ⟨A5, c5, rfl, hc5, hB6, hb2⟩)
      go_wp2
      go_meet
      exact ⟨A5, c5, rfl, by rw [h6], hc5, hB6, HE8.call hb2⟩
     ·first | rw [decide_eq_false (show ¬ prec < N.bits kp by omega)] | rw [decide_eq_false (p := (N.bits kp : Int) > (prec : Int)) (by omega)] | rw [decide_eq_false (p := (prec : Int) < (N.bits kp : Int)) (by omega)]
      subst h5 h6
      clear CRI ho
      go_wp2
      go_meet
      exact ⟨A3, c3, rfl, rfl, hc3, hB5.ext HE8, HE8⟩
    case rest =>
     obtain ⟨A5, c5, rfl, rfl, hc5, hB7, HE9⟩ := hcut
     generalize wc = V3 at *
     have kf5 : ∀ i, V3.cell? ⟨g, i, none⟩ = _ := fun i => (HE9.1 g i hs4).trans (kf4 i)
     have hs5 : g < V3.heap.size := Nat.lt_of_lt_of_le hs4 HE9.2.2.1
     have HE10 : Ext w V3 V3 := Ext.refl HE9.2.2.2
     clear kf4 hs4 HE7 HE8 HE9 hB5 hc3 hk10 CRI HOV
     have hR : bitsR s (packOf s neg m3 e4) = R := HR
     obtain ⟨hk1, hk2⟩ : m3 < 2 * lowN s ∧ leastN s ≤ e4 := HK
     clear HR
     unfold packOf at hR
     by_cases hz : m3 = 0
     ·subst hz
      rw [if_pos rfl] at hR
      have cb := fun w => bits_c s ⟨0, neg, 0, 0⟩ w (.inl rfl)
      unfold PP.v at cb
      rw [hR] at cb
      clear hR hk1 hk2
      rw [digs_zero] at *
      go_wp2_with (go_at_call 69; refine (cb _).mono ?_; rintro e w2 ⟨rfl, hb2⟩; have HE11 := Ext.next (w0 := w) (W := V3) hb2)
      go_ret
      exact ⟨rfl, Ext.end⟩
     ·rw [if_neg hz] at hR
      have hz2 : (digs m3).length ≠ 0 := fun h => hz (digs_nil.1 h)
      have hz3 : ((digs m3).length : Int) ≠ 0 := by omega
      by_cases hmo : e4 > mostN s
      ·rw [if_pos hmo] at hR
       have cb := fun w => bits_c s ⟨2, neg, 0, 0⟩ w (.inr (.inl rfl))
       unfold PP.v at cb
       rw [hR] at cb
       clear hR hk1 hk2 hz
       generalize mostN s = most at *
       go_wp2_with (go_at_call 69; refine (cb _).mono ?_; rintro e w2 ⟨rfl, hb2⟩; have HE11 := Ext.next (w0 := w) (W := V3) hb2)
       go_ret
       exact ⟨rfl, Ext.end⟩
      ·rw [if_neg hmo] at hR
       have hls : 2 * lowN s ≤ 9223372036854775807 := by cases s <;> decide
       have cb := fun w => bits_c s ⟨1, neg, m3, e4⟩ w (.inr (.inr (.inr ⟨rfl, hk1, fun _ => ⟨hk2, by simp only; omega⟩⟩)))
       have ci := int_c V3 hB7 hc5 (by omega)
       unfold PP.v at cb
       rw [hR] at cb
       clear hR hk1 hk2 hz hls
       generalize mostN s = most at *
       go_wp2_with (first | (go_at_call 69; refine (cb _).mono ?_; rintro e w2 ⟨rfl, hb2⟩; have HE11 := Ext.next (w0 := w) (W := V3) hb2) | (go_at_call 118; refine ci.mono ?_; rintro e w3 ⟨rfl, hb3⟩; have HE12 := Ext.next (w0 := w) (W := V3) hb3))
       go_ret
       exact ⟨rfl, Ext.end⟩
theorem round_c (s neg : Bool) (m : Nat) (e : Int) (more : Bool) (A : Option Addr) (c : Nat) (w : World) (hB : Big w A m) (hc : (digs m).length ≤ c) (hl : (digs m).length ≤ 1000) (h1 : -10000 ≤ e) (h2 : e ≤ 10000) :
  Calls Tryz.prog 74 #[.int .i64 (tv s), .bool neg, .slice A (digs m).length c, .int .i64 e, .bool more] w (Ret (.int .u64 (roundR s neg m e more : Int)) w) := by
 by_cases hm : m = 0
 ·subst hm
  have h := round_c0 s neg e more A c w
  rw [digs_zero]
  unfold roundR
  rw [if_pos rfl]
  exact h
 ·exact round_c1 s neg m e more A c w hm hB hc hl h1 h2
end Go.Proofs.YtmoimcblmmcffaaGreat.NC

namespace Go.Proofs.YtmoimcblmmcffaaGreat.NC
open Go.RowKit Go.Proofs.YtmoimcblmmcffaaGreat.B Go.Proofs.YtmoimcblmmcffaaGreat.N
set_option linter.unusedSimpArgs false
set_option linter.unusedVariables false
theorem infR_c (s neg : Bool) (w : World) : Calls Tryz.prog 104 #[.int .i64 (tv s), .bool neg] w (Ret (.int .u64 (bitsR s ⟨2, neg, 0, 0⟩ : Int)) w) := by
 have cb := fun w => bits_c s ⟨2, neg, 0, 0⟩ w (.inr (.inl rfl))
 unfold PP.v at cb
 generalize bitsR s ⟨2, neg, 0, 0⟩ = R at *
 generalize tv s = t at *
 go_enter Tryz.func104, Tryz.ntmps104
 go_wp2_with (go_at_call 69; refine (cb _).mono ?_; rintro e w1 ⟨rfl, hb1⟩; have HE := Ext.next (w0 := w) (W := w) hb1)
 go_ret
 exact ⟨rfl, Ext.end⟩
theorem zeroR_c (s neg : Bool) (w : World) : Calls Tryz.prog 105 #[.int .i64 (tv s), .bool neg] w (Ret (.int .u64 (bitsR s ⟨0, neg, 0, 0⟩ : Int)) w) := by
 have cb := fun w => bits_c s ⟨0, neg, 0, 0⟩ w (.inl rfl)
 unfold PP.v at cb
 generalize bitsR s ⟨0, neg, 0, 0⟩ = R at *
 generalize tv s = t at *
 go_enter Tryz.func105, Tryz.ntmps105
 go_wp2_with (go_at_call 69; refine (cb _).mono ?_; rintro e w1 ⟨rfl, hb1⟩; have HE := Ext.next (w0 := w) (W := w) hb1)
 go_ret
 exact ⟨rfl, Ext.end⟩
end Go.Proofs.YtmoimcblmmcffaaGreat.NC

namespace Go.Proofs.YtmoimcblmmcffaaGreat.NC
open Go.RowKit Go.Proofs.YtmoimcblmmcffaaGreat.B Go.Proofs.YtmoimcblmmcffaaGreat.N
set_option linter.unusedSimpArgs false
set_option linter.unusedVariables false
theorem parts_ok (s : Bool) (a : Nat) : (partsR s a).ok s := by
 have hl : 0 < lowN s := by cases s <;> decide
 have hr : a % lowN s < lowN s := Nat.mod_lt _ hl
 have hf : 0 < fieldN s := by cases s <;> decide
 have hf2 : a / lowN s % fieldN s < fieldN s := Nat.mod_lt _ hf
 have hm : (fieldN s : Int) - 3 + leastN s = mostN s := by cases s <;> decide
 unfold partsR
 generalize a / lowN s % fieldN s = f at *
 generalize a % lowN s = r at *
 generalize decide (a / lowN s / fieldN s = 1) = neg
 rcases parts_leaf (s := s) (f := f) (r := r) (neg := neg) rfl with ⟨_, _, h⟩ | ⟨_, _, h⟩ | ⟨_, _, _, h⟩ | ⟨_, _, _, h⟩ | ⟨h1, h2, h⟩ <;> rw [h] <;> unfold PP.ok
 ·exact .inr (.inl rfl)
 ·exact .inr (.inr (.inl rfl))
 ·exact .inl rfl
 ·exact .inr (.inr (.inr ⟨rfl, by simp only; omega, fun (h : lowN s ≤ r) => by omega⟩))
 ·exact .inr (.inr (.inr ⟨rfl, by simp only; omega, fun _ => ⟨by simp only; omega, by simp only; omega⟩⟩))
def negR (s : Bool) (a : Nat) : Nat := bitsR s { partsR s a with neg := !(partsR s a).neg && (partsR s a).kind != 3 }
def sizeR (s : Bool) (a : Nat) : Nat := bitsR s { partsR s a with neg := false }
theorem PP.ok_neg {s : Bool} {p : PP} (h : p.ok s) (n : Bool) : ({ p with neg := n } : PP).ok s := h
theorem sizedR_c (s : Bool) (a : Nat) (w : World) (ha : (a : Int) < topV s) : Calls Tryz.prog 84 #[.int .i64 (tv s), .int .u64 (a : Int)] w (Ret (.int .u64 (sizeR s a : Int)) w) := by
 have c1 := fun w => parts_c s a w ha
 have cb := fun w => bits_c s _ w (PP.ok_neg (parts_ok s a) false)
 unfold sizeR
 generalize bitsR s { partsR s a with neg := false } = R at *
 unfold PP.v at cb c1
 simp only at cb
 generalize (partsR s a).kind = k at *
 generalize (partsR s a).neg = n at *
 generalize (partsR s a).sig = g at *
 generalize (partsR s a).exp = x at *
 clear ha
 generalize tv s = t at *
 go_enter Tryz.func84, Tryz.ntmps84
 go_wp2_with (first | (go_at_call 21; refine (c1 _).mono ?_; rintro e w1 ⟨rfl, hb1⟩; have HE1 := Ext.next (w0 := w) (W := w) hb1) | (go_at_call 69; refine (cb _).mono ?_; rintro e w2 ⟨rfl, hb2⟩))
 go_ret
 exact ⟨rfl, below_call (below_alloc0 hb1 _) hb2⟩
theorem negatedR_c (s : Bool) (a : Nat) (w : World) (ha : (a : Int) < topV s) : Calls Tryz.prog 83 #[.int .i64 (tv s), .int .u64 (a : Int)] w (Ret (.int .u64 (negR s a : Int)) w) := by
 have c1 := fun w => parts_c s a w ha
 have cb := fun w => bits_c s _ w (PP.ok_neg (parts_ok s a) (!(partsR s a).neg && (partsR s a).kind != 3))
 unfold negR
 generalize bitsR s { partsR s a with neg := !(partsR s a).neg && (partsR s a).kind != 3 } = R at *
 unfold PP.v at cb c1
 simp only at cb
 generalize (partsR s a).kind = k at *
 generalize (partsR s a).neg = n at *
 generalize (partsR s a).sig = g at *
 generalize (partsR s a).exp = x at *
 clear ha
 generalize tv s = t at *
 obtain ⟨b, hb⟩ : ∃ b, (k != 3) = b := ⟨_, rfl⟩
 rw [hb] at cb
 have hk : (k = 3 ∧ b = false) ∨ (k ≠ 3 ∧ b = true) := by
  subst hb
  by_cases h : k = 3 <;> simp [h]
 cases n <;> rcases hk with ⟨hk, rfl⟩ | ⟨hk, rfl⟩ <;> simp only [Bool.not_false, Bool.not_true, Bool.and_true, Bool.and_false, Bool.true_and, Bool.false_and] at cb
 all_goals
  try subst hk
  go_enter Tryz.func83, Tryz.ntmps83
  go_wp2_with (first | (go_at_call 21; refine (c1 _).mono ?_; rintro e w1 ⟨rfl, hb1⟩; have HE1 := Ext.next (w0 := w) (W := w) hb1) | (go_at_call 69; refine (cb _).mono ?_; rintro e w2 ⟨rfl, hb2⟩))
  go_ret
  exact ⟨rfl, below_call (below_alloc0 hb1 _) hb2⟩
end Go.Proofs.YtmoimcblmmcffaaGreat.NC

namespace Go.Proofs.YtmoimcblmmcffaaGreat.NC
open Go.RowKit Go.Proofs.YtmoimcblmmcffaaGreat.B Go.Proofs.YtmoimcblmmcffaaGreat.N
set_option linter.unusedSimpArgs false
set_option linter.unusedVariables false
theorem Own.read3 {w : World} {g n : Nat} {a b c : Value} (h : Own (((w.setCell ⟨g, 0, none⟩ a).setCell ⟨g, 1, none⟩ b).setCell ⟨g, 2, none⟩ c) g (n + 3)) :
  (((w.setCell ⟨g, 0, none⟩ a).setCell ⟨g, 1, none⟩ b).setCell ⟨g, 2, none⟩ c).cell? ⟨g, 0, none⟩ = some a ∧ (((w.setCell ⟨g, 0, none⟩ a).setCell ⟨g, 1, none⟩ b).setCell ⟨g, 2, none⟩ c).cell? ⟨g, 1, none⟩ = some b ∧
  (((w.setCell ⟨g, 0, none⟩ a).setCell ⟨g, 1, none⟩ b).setCell ⟨g, 2, none⟩ c).cell? ⟨g, 2, none⟩ = some c := by
 have e0 := h.1 0 (by omega)
 have e1 := h.1 1 (by omega)
 have e2 := h.1 2 (by omega)
 refine ⟨?_, ?_, ?_⟩
 ·rw [e0]; rw [cell_put_ne (by decide), cell_put_ne (by decide)] at e0; rw [cell_put e0]
 ·rw [e1]; rw [cell_put_ne (by decide)] at e1; rw [cell_put e1]
 ·rw [e2]; rw [cell_put e2]
def RetEx (neg : Bool) (m : Nat) (e : Int) (w : World) : Ending → World → Prop := fun x w' => ∃ A c, x = .returned (.agg #[.bool neg, .slice A (digs m).length c, .int .i64 e]) ∧ (digs m).length ≤ c ∧ Big w' A m ∧ (∀ g, A = some ⟨g, 0, none⟩ → w.heap.size ≤ g) ∧ Below w.heap.size w w'
set_option maxHeartbeats 4000000 in
theorem exactOf_c (k : Int) (neg : Bool) (sig : Nat) (exp : Int) (w : World) (hp : sig ≤ 9223372036854775807) :
  Calls Tryz.prog 107 #[.agg #[.int .i64 k, .bool neg, .int .i64 (sig : Int), .int .i64 exp]] w (RetEx neg sig exp w) := by
 have c1 := fun w => nat_n w hp
 clear hp
 go_enter Tryz.func107, Tryz.ntmps107
 go_upto_region 1 with (fail)
 refine hide1own w (fun W k0 ho HW => ?_)
 have HO : ExO (w.heap.size + 1) w W (w.heap.size + 1) 3 W := ⟨HW, ho⟩
 go_region_held3 (fun w' => ExO (w.heap.size + 1) w W (w.heap.size + 1) 3 w') (exact ExO.keep) (((go_at_call 75; refine (c1 _).mono ?_; rintro e w1 ⟨A1, c1, rfl, hc1, hB1, hf1, hb1⟩)))
 have hH := (by assumption : ExO _ _ _ _ _ _)
 have hfr : ∀ g, A1 = some ⟨g, 0, none⟩ → w.heap.size + 1 < g := fun g hg => Nat.lt_of_lt_of_le ho.2.2 (hf1 g hg)
 have hB2 := ((hB1.put (p := ⟨w.heap.size + 1, 0, none⟩) hfr (.bool neg)).put (p := ⟨w.heap.size + 1, 1, none⟩) hfr (.slice A1 (digs sig).length c1)).put (p := ⟨w.heap.size + 1, 2, none⟩) hfr (.int .i64 exp)
 obtain ⟨e0, e1, e2⟩ := Own.read3 (n := 0) hH.2
 have hend := hH.end
 have hnew : ∀ g, A1 = some ⟨g, 0, none⟩ → w.heap.size ≤ g := fun g hg => by have := hfr g hg; omega
 clear hH hf1 hfr hB1 hb1 ho HO HW k0
 go_wp2
 exact bodyPost_ret (v := .agg #[.bool neg, .slice A1 (digs sig).length c1, .int .i64 exp]) (by simp [results, Tryz.results107, go_sem, e0, e1, e2]) rfl ⟨A1, c1, rfl, hc1, hB2, hnew, hend⟩
end Go.Proofs.YtmoimcblmmcffaaGreat.NC

namespace Go.Proofs.YtmoimcblmmcffaaGreat.NC
open Go.RowKit Go.Proofs.YtmoimcblmmcffaaGreat.B Go.Proofs.YtmoimcblmmcffaaGreat.N
set_option linter.unusedSimpArgs false
set_option linter.unusedVariables false
theorem lenpos (r : Nat) : decide (0 < (digs r).length) = decide (0 < r) := by
 have := digs_nil (n := r)
 exact decide_eq_decide.2 (by omega)
def sumX (a : Bool) (x : Nat) (b : Bool) (y : Nat) : Bool × Nat := if a = b then (a && decide (0 < x + y), x + y) else if x < y then (b, y - x) else (a && decide (0 < x - y), x - y)
set_option maxRecDepth 100000 in
set_option maxHeartbeats 8000000 in
theorem sum_c (a b : Bool) (m n : Nat) (e1 e2 : Int) (A B : Option Addr) (ca cb : Nat) (w : World) (hA : Big w A m) (hca : (digs m).length ≤ ca) (hB : Big w B n) (hcb : (digs n).length ≤ cb)
  (lm : (digs m).length ≤ 10) (ln : (digs n).length ≤ 10) (h1 : -5000 ≤ e1) (h2 : e1 ≤ 5000) (h3 : -5000 ≤ e2) (h4 : e2 ≤ 5000) :
  Calls Tryz.prog 106 #[.agg #[.bool a, .slice A (digs m).length ca, .int .i64 e1], .agg #[.bool b, .slice B (digs n).length cb, .int .i64 e2]] w
   (RetEx (sumX a (m * 2 ^ (e1 - min e1 e2).toNat) b (n * 2 ^ (e2 - min e1 e2).toNat)).1 (sumX a (m * 2 ^ (e1 - min e1 e2).toNat) b (n * 2 ^ (e2 - min e1 e2).toNat)).2 (min e1 e2) w) := by
 obtain ⟨e, he⟩ : ∃ e, min e1 e2 = e := ⟨_, rfl⟩
 rw [he]
 obtain ⟨d1, hd1⟩ : ∃ d : Nat, (e1 - e).toNat = d := ⟨_, rfl⟩
 obtain ⟨d2, hd2⟩ : ∃ d : Nat, (e2 - e).toNat = d := ⟨_, rfl⟩
 rw [hd1, hd2]
 have b1 : IntKind.i64.wrap (e1 - e) = (d1 : Int) := by rw [iwr (by omega) (by omega)]; omega
 have b2 : IntKind.i64.wrap (e2 - e) = (d2 : Int) := by rw [iwr (by omega) (by omega)]; omega
 have cl1 := fun w' (hb : Below w.heap.size w w') => left_c (s := d1) w' (hA.below hb) hca (by omega) (by omega)
 have cl2 := fun w' (hb : Below w.heap.size w w') => left_c (s := d2) w' (hB.below hb) hcb (by omega) (by omega)
 have lx : (digs (m * 2 ^ d1)).length ≤ Lim := by
  have h := val_lt (dig_digs m)
  rw [val_digs] at h
  have h5 : m * 2 ^ d1 < 2 ^ (160 + d1) := by
   rw [Nat.pow_add]
   refine Nat.mul_lt_mul_of_pos_right (Nat.lt_of_lt_of_le h ?_) (Nat.two_pow_pos _)
   exact Nat.le_trans (Nat.pow_le_pow_right (by decide) lm) (by decide)
  have := len_bits h5
  unfold Lim; omega
 have ly : (digs (n * 2 ^ d2)).length ≤ Lim := by
  have h := val_lt (dig_digs n)
  rw [val_digs] at h
  have h5 : n * 2 ^ d2 < 2 ^ (160 + d2) := by
   rw [Nat.pow_add]
   refine Nat.mul_lt_mul_of_pos_right (Nat.lt_of_lt_of_le h ?_) (Nat.two_pow_pos _)
   exact Nat.le_trans (Nat.pow_le_pow_right (by decide) ln) (by decide)
  have := len_bits h5
  unfold Lim; omega
 generalize m * 2 ^ d1 = x at *
 generalize n * 2 ^ d2 = y at *
 obtain ⟨sg, hsg⟩ : ∃ sg, sumX a x b y = sg := ⟨_, rfl⟩
 obtain ⟨rn, rm⟩ := sg
 rw [hsg]
 have HSG := Lib.hid hsg
 clear hsg
 clear hd1 hd2 lm ln hA hB hca hcb
 generalize (digs m).length = l1 at *
 generalize (digs n).length = l2 at *
 go_enter Tryz.func106, Tryz.ntmps106
 go_upto_region 1 with (fail)
 refine hide2own w (fun W k0 k1 ho HW => ?_)
 have HO : ExO (w.heap.size + 2) w W (w.heap.size + 2) 3 W := ⟨HW, ho⟩
 clear ho HW
 go_cut [5] (fun v5 wc => v5 = .int .i64 e ∧ wc = W)
 case first =>
  clear cl1 cl2 b1 b2
  go_wp2
  all_goals
   go_meet
   refine ⟨?_, rfl⟩
   congr 1
   omega
 case rest =>
  obtain ⟨rfl, rfl⟩ := hcut
  generalize wc = W at *
  go_upto_region 2 with (fail)
  go_cut [6, 7] (fun v6 v7 wc => ∃ A1 c1 B1 d1, v6 = .slice A1 (digs x).length c1 ∧ v7 = .slice B1 (digs y).length d1 ∧ (digs x).length ≤ c1 ∧ (digs y).length ≤ d1 ∧ Big wc A1 x ∧ Big wc B1 y ∧ ExO (w.heap.size + 2) w W (w.heap.size + 2) 3 wc)
  case first =>
   clear he h1 h2 h3 h4 lx ly
   go_region_held3 (fun w' => ExO (w.heap.size + 2) w W (w.heap.size + 2) 3 w') (exact ExO.keep) ((first | (go_at_call 110; (with_reducible refine (cl1 _ (ExO.end (by assumption))).mono ?_); rintro e w1 ⟨A1, c1, rfl, hc1, hB1, hb1⟩) | (go_at_call 110; (with_reducible refine (cl2 _ (ExO.end (by assumption))).mono ?_); rintro e w2 ⟨A2, c2, rfl, hc2, hB2, hb2⟩)))
   all_goals
    go_wp2
    go_meet
    exact ⟨A1, c1, A2, c2, rfl, rfl, hc1, hc2, (by first | exact hB1 | exact hB1.below hb2 | exact hB1.drew.below hb2), (by first | exact hB2 | exact hB2.below hb1 | exact hB2.drew.below hb1), by assumption⟩
  case rest =>
   obtain ⟨A1, c1, B1, d1, rfl, rfl, hc1, hd1, hX, hY, HV⟩ := hcut
   generalize wc = V at *
   have hbV := HV.end
   have kv : (∀ i, V.cell? ⟨w.heap.size, i, none⟩ = _) ∧ (∀ i, V.cell? ⟨w.heap.size + 1, i, none⟩ = _) := ⟨fun i => (HV.1.1 _ i (by omega)).trans (k0 i), fun i => (HV.1.1 _ i (by omega)).trans (k1 i)⟩
   obtain ⟨kv0, kv1⟩ := kv
   have hV : ExO (w.heap.size + 2) w V (w.heap.size + 2) 3 V := ⟨ExtN.refl (Nat.le_of_lt HV.2.2.2) hbV, HV.2⟩
   clear k0 k1 HO HV cl1 cl2 b1 b2 h1 h2 h3 h4 he
   have hgV := hV.2.2.2
   have cp := fun w' (hb : Below V.heap.size V w') => plus_n w' (hX.below hb) hc1 (hY.below hb) hd1 lx ly
   have co := fun w' (hb : Below V.heap.size V w') => order_c w' (hX.below hb) hc1 (hY.below hb) hd1 lx
   have cm1 := fun w' (hb : Below V.heap.size V w') (h : y ≤ x) => minus_n w' (hX.below hb) hc1 (hY.below hb) hd1 lx h
   have cm2 := fun w' (hb : Below V.heap.size V w') (h : x ≤ y) => minus_n w' (hY.below hb) hd1 (hX.below hb) hc1 ly h
   clear hX hY hc1 hd1 lx ly
   have fin : ∀ (V2 : World) (neg : Bool) (A : Option Addr) (r c : Nat), ExO (w.heap.size + 2) w V (w.heap.size + 2) 3 V2 → Big V2 A r → (∀ g, A = some ⟨g, 0, none⟩ → w.heap.size + 2 < g) → (digs r).length ≤ c →
     let V3 := ((V2.setCell ⟨w.heap.size + 2, 0, none⟩ (.bool neg)).setCell ⟨w.heap.size + 2, 1, none⟩ (.slice A (digs r).length c)).setCell ⟨w.heap.size + 2, 2, none⟩ (.int .i64 e)
     (V3.cell? ⟨w.heap.size + 2, 0, none⟩ = some (.bool neg) ∧ V3.cell? ⟨w.heap.size + 2, 1, none⟩ = some (.slice A (digs r).length c) ∧ V3.cell? ⟨w.heap.size + 2, 2, none⟩ = some (.int .i64 e)) ∧ RetEx neg r e w (.returned (.agg #[.bool neg, .slice A (digs r).length c, .int .i64 e])) V3 := by
    intro V2 neg A r c h hB hg hc
    have h3 := (((h.put 0 (.bool neg)).put 1 (.slice A (digs r).length c)).put 2 (.int .i64 e))
    refine ⟨Own.read3 (n := 0) h3.2, A, c, rfl, hc, ?_, fun g hg2 => by have := hg g hg2; omega, h3.end⟩
    exact ((hB.put (p := ⟨w.heap.size + 2, 0, none⟩) hg _).put (p := ⟨w.heap.size + 2, 1, none⟩) hg _).put (p := ⟨w.heap.size + 2, 2, none⟩) hg _
   have hsg := HSG.out
   clear HSG
   unfold sumX at hsg
   cases a <;> cases b
   ·rw [if_pos rfl] at hsg
    simp only [Bool.false_and, Prod.mk.injEq] at hsg
    obtain ⟨rfl, rfl⟩ := hsg
    clear co cm1 cm2
    generalize x + y = r at *
    go_wp2_with (go_at_call 112; refine (cp _ (Below.refl _ _)).mono ?_; rintro e w1 ⟨A2, c2, rfl, hc2, hB2, hg2, hb2⟩; have kw0 : ∀ i, w1.cell? ⟨w.heap.size, i, none⟩ = _ := fun i => ((bcell hb2).1 _ i (by omega)).trans (kv0 i); have kw1 : ∀ i, w1.cell? ⟨w.heap.size + 1, i, none⟩ = _ := fun i => ((bcell hb2).1 _ i (by omega)).trans (kv1 i); have HO1 := hV.call hb2; have HF := fin w1 false A2 r c2 HO1 hB2 (fun g hg => Nat.lt_of_lt_of_le hgV (hg2 g hg)) hc2)
    obtain ⟨⟨f0, f1, f2⟩, hfin⟩ := HF
    clear fin HO1
    
    exact bodyPost_ret (v := .agg #[.bool false, .slice A2 (digs r).length c2, .int .i64 e]) (by simp [results, Tryz.results106, go_sem, f0, f1, f2]) rfl hfin
   ·rw [if_neg (by decide)] at hsg
    clear cp
    have hord : (x < y ∧ ordN x y = -1) ∨ (y ≤ x ∧ 0 ≤ ordN x y) := by
     unfold ordN
     by_cases h : x < y
     ·left; exact ⟨h, if_pos h⟩
     ·right; refine ⟨by omega, ?_⟩; rw [if_neg h]; by_cases h2 : x = y <;> simp [h2]
    generalize ordN x y = o at *
    rcases hord with ⟨hxy, rfl⟩ | ⟨hxy, ho⟩
    ·rw [if_pos hxy] at hsg
     simp only [Prod.mk.injEq] at hsg
     obtain ⟨rfl, rfl⟩ := hsg
     have cm := fun w' hb => cm2 w' hb (Nat.le_of_lt hxy)
     clear cm1 cm2 hxy
     generalize y - x = r at *
     go_upto_region 7 with (go_at_call 116; refine (co _ (Below.refl _ _)).mono ?_; rintro e w1 ⟨rfl, hb2⟩)
     have kw0 : ∀ i, w1.cell? ⟨w.heap.size, i, none⟩ = _ := fun i => ((bcell hb2).1 _ i (by omega)).trans (kv0 i)
     have kw1 : ∀ i, w1.cell? ⟨w.heap.size + 1, i, none⟩ = _ := fun i => ((bcell hb2).1 _ i (by omega)).trans (kv1 i)
     have HO1 := hV.call hb2
     have HO2 : ExO (w.heap.size + 2) w w1 (w.heap.size + 2) 3 w1 := ⟨ExtN.refl (Nat.le_of_lt HO1.2.2.2) HO1.end, HO1.2⟩
     have hb2s := hb2.size
     have cmq := fun w' (hb : Below w1.heap.size w1 w') => cm w' (below_call hb2 hb)
     have hgr := HO2.2.2.2
     clear fin kv0 kv1 cm co HO1 hb2s hgV hV hbV
     go_region_held3 (fun w' => ExO (w.heap.size + 2) w w1 (w.heap.size + 2) 3 w') (exact ExO.keep) (((go_at_call 115; refine (cmq _ ((below_drew' (Below.refl _ _)))).mono ?_; rintro e w2 ⟨A2, c2, rfl, hc2, hB2, hg2, hb3⟩)))
     have hH := (by assumption : ExO _ _ _ _ _ _)
     have hfr : ∀ g, A2 = some ⟨g, 0, none⟩ → w.heap.size + 2 < g := fun g hg => Nat.lt_of_lt_of_le hgr (hg2 g hg)
     have hB3 := ((hB2.put (p := ⟨w.heap.size + 2, 0, none⟩) hfr (.bool true)).put (p := ⟨w.heap.size + 2, 1, none⟩) hfr (.slice A2 (digs r).length c2)).put (p := ⟨w.heap.size + 2, 2, none⟩) hfr (.int .i64 e)
     obtain ⟨f0, f1, f2⟩ := Own.read3 (n := 0) hH.2
     have hend := hH.end
     have hnew : ∀ g, A2 = some ⟨g, 0, none⟩ → w.heap.size ≤ g := fun g hg => by have := hfr g hg; omega
     clear hH hg2 hfr hB2 hb3 HO2 kw0 kw1 cmq
     go_wp2
     exact bodyPost_ret (v := .agg #[.bool true, .slice A2 (digs r).length c2, .int .i64 e]) (by simp [results, Tryz.results106, go_sem, f0, f1, f2]) rfl ⟨A2, c2, rfl, hc2, hB3, hnew, hend⟩
    ·rw [if_neg (by omega)] at hsg
     simp only [Bool.false_and, Prod.mk.injEq] at hsg
     
     obtain ⟨rfl, rfl⟩ := hsg
     have cm := fun w' hb => cm1 w' hb hxy
     clear cm1 cm2 hxy
     have ho' : decide (o < 0) = false := decide_eq_false (by omega)
     generalize x - y = r at *
     go_wp2_with (first | (go_at_call 116; refine (co _ (Below.refl _ _)).mono ?_; rintro e w1 ⟨rfl, hb1⟩) | (go_at_call 115; refine (cm _ hb1).mono ?_; rintro e w2 ⟨A2, c2, rfl, hc2, hB2, hg2, hb2⟩; have hb3 := below_call hb1 hb2; have kw0 : ∀ i, w2.cell? ⟨w.heap.size, i, none⟩ = _ := fun i => ((bcell hb3).1 _ i (by omega)).trans (kv0 i); have kw1 : ∀ i, w2.cell? ⟨w.heap.size + 1, i, none⟩ = _ := fun i => ((bcell hb3).1 _ i (by omega)).trans (kv1 i); have HO1 := hV.call hb3; have HF := fin w2 false A2 r c2 HO1 hB2 (fun g hg => Nat.lt_of_lt_of_le hgV (Nat.le_trans hb1.size (hg2 g hg))) hc2))
     obtain ⟨⟨f0, f1, f2⟩, hfin⟩ := HF
     clear fin HO1
     exact bodyPost_ret (v := .agg #[.bool false, .slice A2 (digs r).length c2, .int .i64 e]) (by simp [results, Tryz.results106, go_sem, f0, f1, f2]) rfl hfin
   ·rw [if_neg (by decide)] at hsg
    clear cp
    have hord : (x < y ∧ ordN x y = -1) ∨ (y ≤ x ∧ 0 ≤ ordN x y) := by
     unfold ordN
     by_cases h : x < y
     ·left; exact ⟨h, if_pos h⟩
     ·right; refine ⟨by omega, ?_⟩; rw [if_neg h]; by_cases h2 : x = y <;> simp [h2]
    generalize ordN x y = o at *
    rcases hord with ⟨hxy, rfl⟩ | ⟨hxy, ho⟩
    ·rw [if_pos hxy] at hsg
     simp only [Prod.mk.injEq] at hsg
     obtain ⟨rfl, rfl⟩ := hsg
     have cm := fun w' hb => cm2 w' hb (Nat.le_of_lt hxy)
     clear cm1 cm2 hxy
     generalize y - x = r at *
     go_upto_region 7 with (go_at_call 116; refine (co _ (Below.refl _ _)).mono ?_; rintro e w1 ⟨rfl, hb2⟩)
     have kw0 : ∀ i, w1.cell? ⟨w.heap.size, i, none⟩ = _ := fun i => ((bcell hb2).1 _ i (by omega)).trans (kv0 i)
     have kw1 : ∀ i, w1.cell? ⟨w.heap.size + 1, i, none⟩ = _ := fun i => ((bcell hb2).1 _ i (by omega)).trans (kv1 i)
     have HO1 := hV.call hb2
     have HO2 : ExO (w.heap.size + 2) w w1 (w.heap.size + 2) 3 w1 := ⟨ExtN.refl (Nat.le_of_lt HO1.2.2.2) HO1.end, HO1.2⟩
     have hb2s := hb2.size
     have cmq := fun w' (hb : Below w1.heap.size w1 w') => cm w' (below_call hb2 hb)
     have hgr := HO2.2.2.2
     clear fin kv0 kv1 cm co HO1 hb2s hgV hV hbV
     go_region_held3 (fun w' => ExO (w.heap.size + 2) w w1 (w.heap.size + 2) 3 w') (exact ExO.keep) (((go_at_call 115; refine (cmq _ ((below_drew' (Below.refl _ _)))).mono ?_; rintro e w2 ⟨A2, c2, rfl, hc2, hB2, hg2, hb3⟩)))
     have hH := (by assumption : ExO _ _ _ _ _ _)
     have hfr : ∀ g, A2 = some ⟨g, 0, none⟩ → w.heap.size + 2 < g := fun g hg => Nat.lt_of_lt_of_le hgr (hg2 g hg)
     have hB3 := ((hB2.put (p := ⟨w.heap.size + 2, 0, none⟩) hfr (.bool false)).put (p := ⟨w.heap.size + 2, 1, none⟩) hfr (.slice A2 (digs r).length c2)).put (p := ⟨w.heap.size + 2, 2, none⟩) hfr (.int .i64 e)
     obtain ⟨f0, f1, f2⟩ := Own.read3 (n := 0) hH.2
     have hend := hH.end
     have hnew : ∀ g, A2 = some ⟨g, 0, none⟩ → w.heap.size ≤ g := fun g hg => by have := hfr g hg; omega
     clear hH hg2 hfr hB2 hb3 HO2 kw0 kw1 cmq
     go_wp2
     exact bodyPost_ret (v := .agg #[.bool false, .slice A2 (digs r).length c2, .int .i64 e]) (by simp [results, Tryz.results106, go_sem, f0, f1, f2]) rfl ⟨A2, c2, rfl, hc2, hB3, hnew, hend⟩
    ·rw [if_neg (by omega)] at hsg
     simp only [Bool.true_and, Prod.mk.injEq] at hsg
     rw [← lenpos (x - y)] at hsg
     obtain ⟨rfl, rfl⟩ := hsg
     have cm := fun w' hb => cm1 w' hb hxy
     clear cm1 cm2 hxy
     have ho' : decide (o < 0) = false := decide_eq_false (by omega)
     generalize x - y = r at *
     go_wp2_with (first | (go_at_call 116; refine (co _ (Below.refl _ _)).mono ?_; rintro e w1 ⟨rfl, hb1⟩) | (go_at_call 115; refine (cm _ hb1).mono ?_; rintro e w2 ⟨A2, c2, rfl, hc2, hB2, hg2, hb2⟩; have hb3 := below_call hb1 hb2; have kw0 : ∀ i, w2.cell? ⟨w.heap.size, i, none⟩ = _ := fun i => ((bcell hb3).1 _ i (by omega)).trans (kv0 i); have kw1 : ∀ i, w2.cell? ⟨w.heap.size + 1, i, none⟩ = _ := fun i => ((bcell hb3).1 _ i (by omega)).trans (kv1 i); have HO1 := hV.call hb3; have HF := fin w2 (decide (0 < (digs r).length)) A2 r c2 HO1 hB2 (fun g hg => Nat.lt_of_lt_of_le hgV (Nat.le_trans hb1.size (hg2 g hg))) hc2))
     obtain ⟨⟨f0, f1, f2⟩, hfin⟩ := HF
     clear fin HO1
     exact bodyPost_ret (v := .agg #[.bool (decide (0 < (digs r).length)), .slice A2 (digs r).length c2, .int .i64 e]) (by simp [results, Tryz.results106, go_sem, f0, f1, f2]) rfl hfin
   ·rw [if_pos rfl] at hsg
    simp only [Bool.true_and, Prod.mk.injEq] at hsg
    rw [← lenpos (x + y)] at hsg
    obtain ⟨rfl, rfl⟩ := hsg
    clear co cm1 cm2
    generalize x + y = r at *
    go_wp2_with (go_at_call 112; refine (cp _ (Below.refl _ _)).mono ?_; rintro e w1 ⟨A2, c2, rfl, hc2, hB2, hg2, hb2⟩; have kw0 : ∀ i, w1.cell? ⟨w.heap.size, i, none⟩ = _ := fun i => ((bcell hb2).1 _ i (by omega)).trans (kv0 i); have kw1 : ∀ i, w1.cell? ⟨w.heap.size + 1, i, none⟩ = _ := fun i => ((bcell hb2).1 _ i (by omega)).trans (kv1 i); have HO1 := hV.call hb2; have HF := fin w1 (decide (0 < (digs r).length)) A2 r c2 HO1 hB2 (fun g hg => Nat.lt_of_lt_of_le hgV (hg2 g hg)) hc2)
    obtain ⟨⟨f0, f1, f2⟩, hfin⟩ := HF
    clear fin HO1
    exact bodyPost_ret (v := .agg #[.bool (decide (0 < (digs r).length)), .slice A2 (digs r).length c2, .int .i64 e]) (by simp [results, Tryz.results106, go_sem, f0, f1, f2]) rfl hfin
end Go.Proofs.YtmoimcblmmcffaaGreat.NC

namespace Go.Proofs.YtmoimcblmmcffaaGreat.NC
open Go.RowKit Go.Proofs.YtmoimcblmmcffaaGreat.B Go.Proofs.YtmoimcblmmcffaaGreat.N
set_option linter.unusedSimpArgs false
set_option linter.unusedVariables false
theorem parts_facts (s : Bool) (a : Nat) {p : PP} (hp : partsR s a = p) : (p.kind = 0 ∧ p.sig = 0 ∧ p.exp = 0) ∨ (p.kind = 1 ∧ 1 ≤ p.sig ∧ p.sig < 2 * lowN s ∧ leastN s ≤ p.exp ∧ p.exp ≤ mostN s) ∨ (p.kind = 2 ∧ p.sig = 0 ∧ p.exp = 0) ∨ (p.kind = 3 ∧ p.neg = false ∧ p.sig = 0 ∧ p.exp = 0) := by
 have hl : 0 < lowN s := by cases s <;> decide
 have hr : a % lowN s < lowN s := Nat.mod_lt _ hl
 have hf2 : a / lowN s % fieldN s < fieldN s := Nat.mod_lt _ (by cases s <;> decide)
 have hm : (fieldN s : Int) - 3 + leastN s = mostN s := by cases s <;> decide
 have hm2 : leastN s ≤ mostN s := by cases s <;> decide
 subst hp
 unfold partsR
 generalize a / lowN s % fieldN s = f at *
 generalize a % lowN s = r at *
 generalize decide (a / lowN s / fieldN s = 1) = neg
 rcases parts_leaf (s := s) (f := f) (r := r) (neg := neg) rfl with ⟨_, _, h⟩ | ⟨_, _, h⟩ | ⟨_, _, _, h⟩ | ⟨_, _, h2, h⟩ | ⟨h1, h2, h⟩ <;> rw [h]
 ·exact .inr (.inr (.inl ⟨rfl, rfl, rfl⟩))
 ·exact .inr (.inr (.inr ⟨rfl, rfl, rfl, rfl⟩))
 ·exact .inl ⟨rfl, rfl, rfl⟩
 ·exact .inr (.inl ⟨rfl, by simp only; omega, by simp only; omega, by simp only; omega, by simp only; omega⟩)
 ·exact .inr (.inl ⟨rfl, by simp only; omega, by simp only; omega, by simp only; omega, by simp only; omega⟩)
def addP (s : Bool) (p q : PP) : Nat :=
 if p.kind = 3 ∨ q.kind = 3 then nanN s
 else if p.kind = 2 then (if q.kind = 2 ∧ p.neg ≠ q.neg then nanN s else bitsR s ⟨2, p.neg, 0, 0⟩)
 else if q.kind = 2 then bitsR s ⟨2, q.neg, 0, 0⟩
 else if p.kind = 0 ∧ q.kind = 0 then bitsR s ⟨0, p.neg && q.neg, 0, 0⟩
 else roundR s (sumX p.neg (p.sig * 2 ^ (p.exp - min p.exp q.exp).toNat) q.neg (q.sig * 2 ^ (q.exp - min p.exp q.exp).toNat)).1
  (sumX p.neg (p.sig * 2 ^ (p.exp - min p.exp q.exp).toNat) q.neg (q.sig * 2 ^ (q.exp - min p.exp q.exp).toNat)).2 (min p.exp q.exp) false
def addR (s : Bool) (a b : Nat) : Nat := addP s (partsR s a) (partsR s b)
theorem Ext.le {w0 W w1 : World} (h : Ext w0 W w1) : W.heap.size ≤ w1.heap.size := h.2.2.1
theorem Ext.put {w0 W w1 : World} (hw : w0.heap.size ≤ W.heap.size) (h : Ext w0 W w1) {p : Addr} (hp : W.heap.size ≤ p.block) (v : Value) : Ext w0 W (w1.setCell p v) := by
 refine ⟨fun b o hb => ?_, fun b o hb => ?_, by simpa [World.setCell] using h.2.2.1, h.2.2.2.setCell (by omega) v⟩
 ·have hne : p ≠ ⟨b, o, none⟩ := by
   intro he
   rw [he] at hp
   exact absurd hb (Nat.not_lt.2 hp)
  exact (World.cell?_setCell_other w1 p ⟨b, o, none⟩ v hne).trans (h.1 b o hb)
 ·rw [World.frozen?_setCell]; exact h.2.1 b o hb
theorem Big.put3 {w : World} {A : Option Addr} {n g3 : Nat} (h : Big w A n) (hq : ∀ g, A = some ⟨g, 0, none⟩ → g3 < g) (a b c : Value) : Big (((w.setCell ⟨g3, 0, none⟩ a).setCell ⟨g3, 1, none⟩ b).setCell ⟨g3, 2, none⟩ c) A n :=
 ((h.put (p := ⟨g3, 0, none⟩) hq a).put (p := ⟨g3, 1, none⟩) hq b).put (p := ⟨g3, 2, none⟩) hq c
theorem sumX_le {a b : Bool} {x y : Nat} {r : Bool × Nat} (h : sumX a x b y = r) : r.2 ≤ x + y := by
 subst h
 unfold sumX
 by_cases h1 : a = b
 ·rw [if_pos h1]; exact Nat.le_refl _
 ·rw [if_neg h1]
  by_cases h2 : x < y
  ·rw [if_pos h2]; simp only; omega
  ·rw [if_neg h2]; simp only; omega
theorem shift_lt {g d N : Nat} (h : g < 2 ^ 53) (hd : d + 53 ≤ N) : g * 2 ^ d < 2 ^ N := by
 have h1 : g * 2 ^ d < 2 ^ 53 * 2 ^ d := Nat.mul_lt_mul_of_pos_right h (Nat.two_pow_pos _)
 rw [← Nat.pow_add] at h1
 exact Nat.lt_of_lt_of_le h1 (Nat.pow_le_pow_right (by decide) (by omega))
theorem len4 {s : Bool} {m : Nat} (h : m < 2 * lowN s) : (digs m).length ≤ 4 := by
 have h2 : m < 2 ^ 53 := by cases s <;> simp [lowN] at h <;> omega
 have := len_bits h2
 omega
set_option maxRecDepth 100000 in
set_option maxHeartbeats 8000000 in
theorem add_c (s : Bool) (a b : Nat) (w : World) (ha : (a : Int) < topV s) (hb : (b : Int) < topV s) : Calls Tryz.prog 63 #[.int .i64 (tv s), .int .u64 (a : Int), .int .u64 (b : Int)] w (Ret (.int .u64 (addR s a b : Int)) w) := by
 have c1 := fun w => parts_c s a w ha
 have c2 := fun w => parts_c s b w hb
 have cn := nanR_c s
 have hnn : nanV s = (nanN s : Int) := by cases s <;> rfl
 rw [hnn] at cn
 clear ha hb hnn
 obtain ⟨p, hp⟩ : ∃ p, partsR s a = p := ⟨_, rfl⟩
 obtain ⟨q, hq⟩ : ∃ q, partsR s b = q := ⟨_, rfl⟩
 have fp := parts_facts s a hp
 have fq := parts_facts s b hq
 unfold addR
 rw [hp, hq]
 rw [hp] at c1
 rw [hq] at c2
 clear hp hq
 obtain ⟨k1, n1, g1, x1⟩ := p
 obtain ⟨k2, n2, g2, x2⟩ := q
 have ci1 := infR_c s n1
 have ci2 := infR_c s n2
 have cz := zeroR_c s (n1 && n2)
 simp only [PP.v] at c1 c2
 obtain ⟨R, hR⟩ : ∃ R, addP s ⟨k1, n1, g1, x1⟩ ⟨k2, n2, g2, x2⟩ = R := ⟨_, rfl⟩
 rw [hR]
 unfold addP at hR
 simp only at hR fp fq
 have HR := Lib.hid hR
 clear hR
 have hls : leastN s = -149 ∨ leastN s = -1074 := by cases s <;> simp [leastN]
 have hms : mostN s = 104 ∨ mostN s = 971 := by cases s <;> simp [mostN]
 go_enter Tryz.func63, Tryz.ntmps63
 go_upto_region 2 with (first | (go_at_call 21; (with_reducible refine (c1 _).mono ?_); rintro e w1 ⟨rfl, hb1⟩) | (go_at_call 21; (with_reducible refine (c2 _).mono ?_); rintro e w2 ⟨rfl, hb2⟩))
 refine hide2 w (fun W kk0 kk1 s0 s1 HE => ?_) (below_call hb1 hb2)
 generalize w2.heap.size = g at *
 clear hb1 hb2 c1 c2
 have hfin : ¬ ((k1 = 0 ∨ k1 = 1) ∧ (k2 = 0 ∨ k2 = 1) ∧ (k1 = 1 ∨ k2 = 1)) ∨ ((k1 = 0 ∨ k1 = 1) ∧ (k2 = 0 ∨ k2 = 1) ∧ (k1 = 1 ∨ k2 = 1)) := (Classical.em _).symm
 rcases hfin with hfin | hfin
 ·have hR := HR.out
  clear HR hls hms
  rcases fp with ⟨rfl, rfl, rfl⟩ | ⟨rfl, -⟩ | ⟨rfl, rfl, rfl⟩ | ⟨rfl, rfl, rfl, rfl⟩ <;> rcases fq with ⟨rfl, rfl, rfl⟩ | ⟨rfl, -⟩ | ⟨rfl, rfl, rfl⟩ | ⟨rfl, rfl, rfl, rfl⟩ <;> (try (exfalso; exact hfin (by decide))) <;> clear hfin
  all_goals
   simp at hR
  all_goals
   try (cases n1 <;> cases n2 <;> simp at hR)
  all_goals
   subst hR
   go_wp2_with (first | (go_at_call 67; refine (cn _).mono ?_; rintro e w3 ⟨rfl, hb3⟩) | (go_at_call 104; refine (ci1 _).mono ?_; rintro e w3 ⟨rfl, hb3⟩) | (go_at_call 104; refine (ci2 _).mono ?_; rintro e w3 ⟨rfl, hb3⟩) | (go_at_call 105; refine (cz _).mono ?_; rintro e w3 ⟨rfl, hb3⟩))
   go_ret
   exact ⟨rfl, Ext.end (HE.call hb3)⟩
 ·obtain ⟨hk1, hk2, hk3⟩ := hfin
  clear cn ci1 ci2 cz
  have bp : g1 < 2 * lowN s ∧ -5000 ≤ x1 ∧ x1 ≤ 5000 := by
   have : 0 < lowN s := by cases s <;> decide
   rcases fp with ⟨_, rfl, rfl⟩ | ⟨_, _, h, h1, h2⟩ | ⟨h, _⟩ | ⟨h, _⟩ <;> omega
  have bq : g2 < 2 * lowN s ∧ -5000 ≤ x2 ∧ x2 ≤ 5000 := by
   have : 0 < lowN s := by cases s <;> decide
   rcases fq with ⟨_, rfl, rfl⟩ | ⟨_, _, h, h1, h2⟩ | ⟨h, _⟩ | ⟨h, _⟩ <;> omega
  clear fp fq
  have hR : roundR s (sumX n1 (g1 * 2 ^ (x1 - min x1 x2).toNat) n2 (g2 * 2 ^ (x2 - min x1 x2).toNat)).1
   (sumX n1 (g1 * 2 ^ (x1 - min x1 x2).toNat) n2 (g2 * 2 ^ (x2 - min x1 x2).toNat)).2 (min x1 x2) false = R := by
   have h := HR.out
   rw [if_neg (by omega), if_neg (by omega), if_neg (by omega), if_neg (by omega)] at h
   exact h
  clear HR
  have hl1 := len4 bp.1
  have hl2 := len4 bq.1
  have hg1 : g1 ≤ 9223372036854775807 := by have := bp.1; cases s <;> simp [lowN] at this <;> omega
  have hg2 : g2 ≤ 9223372036854775807 := by have := bq.1; cases s <;> simp [lowN] at this <;> omega
  have ce1 := fun k w => exactOf_c k n1 g1 x1 w hg1
  have ce2 := fun k w => exactOf_c k n2 g2 x2 w hg2
  have cs := fun A B ca cb w hA hca hB hcb => sum_c n1 n2 g1 g2 x1 x2 A B ca cb w hA hca hB hcb (by omega) (by omega) bp.2.1 bp.2.2 bq.2.1 bq.2.2
  obtain ⟨sg, hsg⟩ : ∃ sg, sumX n1 (g1 * 2 ^ (x1 - min x1 x2).toNat) n2 (g2 * 2 ^ (x2 - min x1 x2).toNat) = sg := ⟨_, rfl⟩
  obtain ⟨sn, sm⟩ := sg
  have hxe : -5000 ≤ min x1 x2 ∧ min x1 x2 ≤ 5000 := by omega
  have hsl : (digs sm).length ≤ 1000 := by
   have h5 := sumX_le hsg
   have m1 : g1 < 2 ^ 53 := by have := bp.1; cases s <;> simp [lowN] at this <;> omega
   have m2 : g2 < 2 ^ 53 := by have := bq.1; cases s <;> simp [lowN] at this <;> omega
   obtain ⟨N, hN⟩ : ∃ N : Nat, N = 10053 := ⟨_, rfl⟩
   have q1 := shift_lt (N := N) m1 (show (x1 - min x1 x2).toNat + 53 ≤ N by omega)
   have q2 := shift_lt (N := N) m2 (show (x2 - min x1 x2).toNat + 53 ≤ N by omega)
   have h6 : sm < 2 ^ (N + 1) := by
    rw [Nat.pow_succ]
    generalize 2 ^ N = Z at *
    omega
   have := len_bits h6
   omega
  rw [hsg] at hR
  simp only [hsg] at cs
  generalize min x1 x2 = xe at *
  have cr := fun A c w hB hc => round_c s sn sm xe false A c w hB hc hsl (by omega) (by omega)
  rw [hR] at cr
  clear hsl hxe hls hms hg1 hg2 hl1 hl2 bp bq hR hsg
  rcases hk1 with rfl | rfl <;> rcases hk2 with rfl | rfl <;> (try (exfalso; revert hk3; decide)) <;> clear hk3
  all_goals
   have hwW : w.heap.size ≤ W.heap.size := HE.2.2.2.size
   go_upto_region 12 with (fail)
   go_region_held3 (fun w' => Ext w W w') (first | assumption | (with_reducible exact Ext.call (by assumption) hb1) | (with_reducible exact Ext.call (by assumption) hb2) | (with_reducible exact Ext.call (by assumption) hb3) | ((with_reducible refine Ext.drew ?_); assumption) | ((with_reducible refine Ext.alloc ?_ _); assumption) | ((with_reducible refine Ext.drew ?_); (with_reducible refine Ext.alloc ?_ _); assumption) | ((repeat (with_reducible refine NC.Ext.put hwW ?_ (NC.Ext.le (by assumption)) _)); assumption)) ((first | (go_at_call 107; (with_reducible refine (ce1 _ _).mono ?_); rintro e w1 ⟨A1, c1, rfl, hc1, hB1, hn1, hb1⟩; (try (have ho1 : Own w1 W.heap.size 3 := (by first | exact Own.call (own_new W _ _) hb1 | exact Own.call (Own.drew (own_new W _ _)) hb1))); have hE1 : Ext w W w1 := Ext.call (by assumption) hb1) | (go_at_call 107; (with_reducible refine (ce2 _ _).mono ?_); rintro e w2 ⟨A2, c2, rfl, hc2, hB2, hn2, hb2⟩; (try (have ho2 : Own w2 W.heap.size 3 := Own.call ho1 hb2)); (try (have ho2 : Own w2 w1.heap.size 3 := Own.call (own_new w1 _ _) hb2)); have hE2 : Ext w W w2 := Ext.call (by assumption) hb2) | (go_at_call 106; (refine (cs _ _ _ _ _ (by first | exact hB1 | exact hB1.below hb2 | exact hB1.alloc _ | exact (hB1.below hb2).alloc _ | exact (hB1.alloc _).below hb2) hc1 (by first | exact hB2 | exact hB2.below hb1 | exact hB2.alloc _ | exact (hB2.below hb1).alloc _ | exact (hB2.alloc _).below hb1) hc2).mono ?_); rintro e w3 ⟨A3, c3, rfl, hc3, hB3, hn3, hb3⟩; (try (have ho3 : Own w3 W.heap.size 3 := Own.call ho2 hb3)); (try (have ho3 : Own w3 w1.heap.size 3 := Own.call ho2 hb3)); (try (have ho3 : Own w3 w2.heap.size 3 := Own.call (own_new w2 _ _) hb3)); have hE3 : Ext w W w3 := Ext.call (by assumption) hb3)))
   ·go_wp2_with (go_at_call 74; refine (cr _ _ _ (hB3.alloc _) hc3).mono ?_; rintro e w4 ⟨rfl, hb4⟩)
    go_ret
    exact ⟨rfl, Ext.end (Ext.call (by assumption) hb4)⟩
   all_goals
    have hz1 := hb1.size
    have hz2 := hb2.size
    simp only [World.size_alloc, World.size_drew] at hz1 hz2 hn3
    have hr := Own.read3 (n := 0) (((ho3.set ⟨_, 0, none⟩ (.bool sn)).set ⟨_, 1, none⟩ (.slice A3 (digs sm).length c3)).set ⟨_, 2, none⟩ (.int .i64 xe))
    obtain ⟨e0, e1, e2⟩ := hr
    have HZ1 := Lib.hid hz1
    have HZ2 := Lib.hid hz2
    have HN := Lib.hid hn3
    clear hz1 hz2 hn3 hn1 hn2 hb1 hb2 hb3 hB1 hB2
    go_wp2_with (go_at_call 74; refine (cr _ _ _ (Big.put3 hB3 (fun g hg => by have := HN.out g hg; have h1 := HZ1.out; have h2 := HZ2.out; omega) _ _ _) hc3).mono ?_; rintro e w4 ⟨rfl, hb4⟩)
    go_ret
    exact ⟨rfl, Ext.end (Ext.call (by assumption) hb4)⟩
end Go.Proofs.YtmoimcblmmcffaaGreat.NC

namespace Go.Proofs.YtmoimcblmmcffaaGreat.NC
open Go.RowKit Go.Proofs.YtmoimcblmmcffaaGreat.B Go.Proofs.YtmoimcblmmcffaaGreat.N
set_option linter.unusedSimpArgs false
set_option linter.unusedVariables false
def mulP (s : Bool) (p q : PP) : Nat :=
 if p.kind = 3 ∨ q.kind = 3 ∨ (p.kind = 2 ∧ q.kind = 0) ∨ (p.kind = 0 ∧ q.kind = 2) then nanN s
 else if p.kind = 2 ∨ q.kind = 2 then bitsR s ⟨2, p.neg != q.neg, 0, 0⟩
 else roundR s (p.neg != q.neg) (p.sig * q.sig) (p.exp + q.exp) false
def mulR (s : Bool) (a b : Nat) : Nat := mulP s (partsR s a) (partsR s b)
set_option maxRecDepth 100000 in
set_option maxHeartbeats 8000000 in
theorem mul_c (s : Bool) (a b : Nat) (w : World) (ha : (a : Int) < topV s) (hb : (b : Int) < topV s) : Calls Tryz.prog 65 #[.int .i64 (tv s), .int .u64 (a : Int), .int .u64 (b : Int)] w (Ret (.int .u64 (mulR s a b : Int)) w) := by
 have c1 := fun w => parts_c s a w ha
 have c2 := fun w => parts_c s b w hb
 have cn := nanR_c s
 have hnn : nanV s = (nanN s : Int) := by cases s <;> rfl
 rw [hnn] at cn
 clear ha hb hnn
 obtain ⟨p, hp⟩ : ∃ p, partsR s a = p := ⟨_, rfl⟩
 obtain ⟨q, hq⟩ : ∃ q, partsR s b = q := ⟨_, rfl⟩
 have fp := parts_facts s a hp
 have fq := parts_facts s b hq
 unfold mulR
 rw [hp, hq]
 rw [hp] at c1
 rw [hq] at c2
 clear hp hq
 obtain ⟨k1, n1, g1, x1⟩ := p
 obtain ⟨k2, n2, g2, x2⟩ := q
 simp only [PP.v] at c1 c2
 obtain ⟨R, hR⟩ : ∃ R, mulP s ⟨k1, n1, g1, x1⟩ ⟨k2, n2, g2, x2⟩ = R := ⟨_, rfl⟩
 rw [hR]
 unfold mulP at hR
 simp only at hR fp fq
 obtain ⟨n, hn⟩ : ∃ n, (n1 != n2) = n := ⟨_, rfl⟩
 rw [hn] at hR
 have ci := infR_c s n
 have HR := Lib.hid hR
 have HN := Lib.hid hn
 clear hR hn
 have hls : leastN s = -149 ∨ leastN s = -1074 := by cases s <;> simp [leastN]
 have hms : mostN s = 104 ∨ mostN s = 971 := by cases s <;> simp [mostN]
 go_enter Tryz.func65, Tryz.ntmps65
 go_upto_region 2 with (first | (go_at_call 21; (with_reducible refine (c1 _).mono ?_); rintro e w1 ⟨rfl, hb1⟩) | (go_at_call 21; (with_reducible refine (c2 _).mono ?_); rintro e w2 ⟨rfl, hb2⟩))
 refine hide2 w (fun W kk0 kk1 s0 s1 HE => ?_) (below_call hb1 hb2)
 generalize w2.heap.size = g at *
 clear hb1 hb2 c1 c2
 go_cut [9] (fun v9 wc => v9 = .bool n ∧ wc = W)
 case first =>
  clear ci cn
  have hn := HN.out
  cases n1 <;> cases n2 <;> simp at hn <;> subst hn
  all_goals
   go_wp2
   go_meet
   exact ⟨rfl, rfl⟩
 case rest =>
  obtain ⟨rfl, rfl⟩ := hcut
  generalize wc = W at *
  clear HN
  have hfin : ¬ ((k1 = 0 ∨ k1 = 1) ∧ (k2 = 0 ∨ k2 = 1)) ∨ ((k1 = 0 ∨ k1 = 1) ∧ (k2 = 0 ∨ k2 = 1)) := (Classical.em _).symm
  rcases hfin with hfin | hfin
  ·have hR := HR.out
   clear HR hls hms
   rcases fp with ⟨rfl, rfl, rfl⟩ | ⟨rfl, -⟩ | ⟨rfl, rfl, rfl⟩ | ⟨rfl, rfl, rfl, rfl⟩ <;> rcases fq with ⟨rfl, rfl, rfl⟩ | ⟨rfl, -⟩ | ⟨rfl, rfl, rfl⟩ | ⟨rfl, rfl, rfl, rfl⟩ <;> (try (exfalso; exact hfin (by decide))) <;> clear hfin
   all_goals
    simp at hR
   all_goals
    subst hR
    go_wp2_with (first | (go_at_call 67; refine (cn _).mono ?_; rintro e w3 ⟨rfl, hb3⟩) | (go_at_call 104; refine (ci _).mono ?_; rintro e w3 ⟨rfl, hb3⟩))
    go_ret
    exact ⟨rfl, Ext.end (HE.call hb3)⟩
  ·obtain ⟨hk1, hk2⟩ := hfin
   clear cn ci
   have bp : g1 < 2 * lowN s ∧ -2000 ≤ x1 ∧ x1 ≤ 2000 := by
    have : 0 < lowN s := by cases s <;> decide
    rcases fp with ⟨_, rfl, rfl⟩ | ⟨_, _, h, h1, h2⟩ | ⟨h, _⟩ | ⟨h, _⟩ <;> omega
   have bq : g2 < 2 * lowN s ∧ -2000 ≤ x2 ∧ x2 ≤ 2000 := by
    have : 0 < lowN s := by cases s <;> decide
    rcases fq with ⟨_, rfl, rfl⟩ | ⟨_, _, h, h1, h2⟩ | ⟨h, _⟩ | ⟨h, _⟩ <;> omega
   clear fp fq
   have hR : roundR s n (g1 * g2) (x1 + x2) false = R := by
    have h := HR.out
    rw [if_neg (by omega), if_neg (by omega)] at h
    exact h
   clear HR
   have m1 : g1 < 2 ^ 53 := by have := bp.1; cases s <;> simp [lowN] at this <;> omega
   have m2 : g2 < 2 ^ 53 := by have := bq.1; cases s <;> simp [lowN] at this <;> omega
   have cn1 := fun w => nat_c w (n := g1) (by omega)
   have cn2 := fun w => nat_c w (n := g2) (by omega)
   have hl1 : (digs g1).length ≤ Lim := by have := len4 bp.1; unfold Lim; omega
   have hl2 : (digs g2).length ≤ Lim := by have := len4 bq.1; unfold Lim; omega
   have ct := fun w A B c d hA hc hB hd => times_c (A0 := A) (A1 := B) (c0 := c) (c1 := d) w hA hc hB hd hl1 hl2
   have hsl : (digs (g1 * g2)).length ≤ 1000 := by
    have h6 : g1 * g2 < 2 ^ 106 := by
     have h1 : g1 * g2 ≤ 2 ^ 53 * g2 := Nat.mul_le_mul_right _ (Nat.le_of_lt m1)
     have h2 : 2 ^ 53 * g2 < 2 ^ 53 * 2 ^ 53 := Nat.mul_lt_mul_of_pos_left m2 (Nat.two_pow_pos _)
     exact Nat.lt_of_lt_of_le (Nat.lt_of_le_of_lt h1 h2) (by decide)
    have := len_bits h6
    omega
   obtain ⟨x, hx0⟩ : ∃ x, x1 + x2 = x := ⟨_, rfl⟩
   have hx : IntKind.i64.wrap (x1 + x2) = x := by rw [hx0]; exact iwr (by omega) (by omega)
   have cr := fun A c w hB hc => round_c s n (g1 * g2) x false A c w hB hc hsl (by omega) (by omega)
   rw [hx0] at hR
   rw [hR] at cr
   generalize g1 * g2 = m at *
   clear hx0 hsl hls hms m1 m2 bp bq hR hl1 hl2
   have f1 : (k1 == 3) = false ∧ (k1 == 2) = false := by rcases hk1 with rfl | rfl <;> decide
   have f2 : (k2 == 3) = false ∧ (k2 == 2) = false := by rcases hk2 with rfl | rfl <;> decide
   rcases hk1 with rfl | rfl <;> rcases hk2 with rfl | rfl <;> clear f1 f2
   all_goals
    go_upto_region 7 with (fail)
    go_region_held3 (fun w' => Ext w W w') (first | assumption | (with_reducible exact Ext.call (by assumption) hb1) | (with_reducible exact Ext.call (by assumption) hb2) | (with_reducible exact Ext.call (by assumption) hb3) | (with_reducible exact Ext.call (by assumption) hb4) | ((with_reducible refine Ext.drew ?_); assumption)) ((first | (go_at_call 75; (with_reducible refine (cn1 _).mono ?_); rintro e w1 ⟨A1, c1, rfl, hc1, hB1, hb1⟩) | (go_at_call 75; (with_reducible refine (cn2 _).mono ?_); rintro e w2 ⟨A2, c2, rfl, hc2, hB2, hb2⟩) | (go_at_call 108; (refine (ct _ _ _ _ _ (by first | exact hB1 | exact hB1.below hb2) hc1 (by first | exact hB2 | exact hB2.below hb1) hc2).mono ?_); rintro e w3 ⟨A3, c3, rfl, hc3, hB3, hb3⟩) | (go_at_call 74; refine (cr _ _ _ hB3 hc3).mono ?_; rintro e w4 ⟨rfl, hb4⟩)))
    go_wp2
    go_ret
    exact ⟨rfl, Ext.end (by assumption)⟩
end Go.Proofs.YtmoimcblmmcffaaGreat.NC

namespace Go.Proofs.YtmoimcblmmcffaaGreat.NC
open Go.RowKit Go.Proofs.YtmoimcblmmcffaaGreat.B Go.Proofs.YtmoimcblmmcffaaGreat.N
set_option linter.unusedSimpArgs false
set_option linter.unusedVariables false
def divP (s : Bool) (p q : PP) : Nat :=
 if p.kind = 3 ∨ q.kind = 3 ∨ (p.kind = q.kind ∧ p.kind ≠ 1) then nanN s
 else if p.kind = 2 ∨ q.kind = 0 then bitsR s ⟨2, p.neg != q.neg, 0, 0⟩
 else if p.kind = 0 ∨ q.kind = 2 then bitsR s ⟨0, p.neg != q.neg, 0, 0⟩
 else roundR s (p.neg != q.neg) (p.sig * 2 ^ 120 / q.sig) (p.exp - q.exp - 120) (decide (0 < p.sig * 2 ^ 120 % q.sig))
def divR (s : Bool) (a b : Nat) : Nat := divP s (partsR s a) (partsR s b)
set_option maxRecDepth 100000 in
set_option maxHeartbeats 8000000 in
theorem div_c (s : Bool) (a b : Nat) (w : World) (ha : (a : Int) < topV s) (hb : (b : Int) < topV s) : Calls Tryz.prog 66 #[.int .i64 (tv s), .int .u64 (a : Int), .int .u64 (b : Int)] w (Ret (.int .u64 (divR s a b : Int)) w) := by
 have c1 := fun w => parts_c s a w ha
 have c2 := fun w => parts_c s b w hb
 have cn := nanR_c s
 have hnn : nanV s = (nanN s : Int) := by cases s <;> rfl
 rw [hnn] at cn
 clear ha hb hnn
 obtain ⟨p, hp⟩ : ∃ p, partsR s a = p := ⟨_, rfl⟩
 obtain ⟨q, hq⟩ : ∃ q, partsR s b = q := ⟨_, rfl⟩
 have fp := parts_facts s a hp
 have fq := parts_facts s b hq
 unfold divR
 rw [hp, hq]
 rw [hp] at c1
 rw [hq] at c2
 clear hp hq
 obtain ⟨k1, n1, g1, x1⟩ := p
 obtain ⟨k2, n2, g2, x2⟩ := q
 simp only [PP.v] at c1 c2
 obtain ⟨R, hR⟩ : ∃ R, divP s ⟨k1, n1, g1, x1⟩ ⟨k2, n2, g2, x2⟩ = R := ⟨_, rfl⟩
 rw [hR]
 unfold divP at hR
 simp only at hR fp fq
 obtain ⟨n, hn⟩ : ∃ n, (n1 != n2) = n := ⟨_, rfl⟩
 rw [hn] at hR
 have ci := infR_c s n
 have cz := zeroR_c s n
 have HR := Lib.hid hR
 have HN := Lib.hid hn
 clear hR hn
 have hls : leastN s = -149 ∨ leastN s = -1074 := by cases s <;> simp [leastN]
 have hms : mostN s = 104 ∨ mostN s = 971 := by cases s <;> simp [mostN]
 go_enter Tryz.func66, Tryz.ntmps66
 go_upto_region 2 with (first | (go_at_call 21; (with_reducible refine (c1 _).mono ?_); rintro e w1 ⟨rfl, hb1⟩) | (go_at_call 21; (with_reducible refine (c2 _).mono ?_); rintro e w2 ⟨rfl, hb2⟩))
 refine hide2 w (fun W kk0 kk1 s0 s1 HE => ?_) (below_call hb1 hb2)
 generalize w2.heap.size = g at *
 clear hb1 hb2 c1 c2
 go_cut [9] (fun v9 wc => v9 = .bool n ∧ wc = W)
 case first =>
  clear ci cn cz
  have hn := HN.out
  cases n1 <;> cases n2 <;> simp at hn <;> subst hn
  all_goals
   go_wp2
   go_meet
   exact ⟨rfl, rfl⟩
 case rest =>
  obtain ⟨rfl, rfl⟩ := hcut
  generalize wc = W at *
  clear HN
  have hfin : ¬ (k1 = 1 ∧ k2 = 1) ∨ (k1 = 1 ∧ k2 = 1) := (Classical.em _).symm
  rcases hfin with hfin | hfin
  ·have hR := HR.out
   clear HR hls hms
   rcases fp with ⟨rfl, rfl, rfl⟩ | ⟨rfl, -⟩ | ⟨rfl, rfl, rfl⟩ | ⟨rfl, rfl, rfl, rfl⟩ <;> rcases fq with ⟨rfl, rfl, rfl⟩ | ⟨rfl, -⟩ | ⟨rfl, rfl, rfl⟩ | ⟨rfl, rfl, rfl, rfl⟩ <;> (try (exfalso; exact hfin (by decide))) <;> clear hfin
   all_goals
    simp at hR
   all_goals
    subst hR
    go_wp2_with (first | (go_at_call 67; refine (cn _).mono ?_; rintro e w3 ⟨rfl, hb3⟩) | (go_at_call 104; refine (ci _).mono ?_; rintro e w3 ⟨rfl, hb3⟩) | (go_at_call 105; refine (cz _).mono ?_; rintro e w3 ⟨rfl, hb3⟩))
    go_ret
    exact ⟨rfl, Ext.end (HE.call hb3)⟩
  ·obtain ⟨rfl, rfl⟩ := hfin
   clear cn ci cz
   have bp : g1 < 2 * lowN s ∧ -2000 ≤ x1 ∧ x1 ≤ 2000 := by
    rcases fp with ⟨h, _⟩ | ⟨_, _, h, h1, h2⟩ | ⟨h, _⟩ | ⟨h, _⟩ <;> omega
   have bq : 1 ≤ g2 ∧ g2 < 2 * lowN s ∧ -2000 ≤ x2 ∧ x2 ≤ 2000 := by
    rcases fq with ⟨h, _⟩ | ⟨_, _, h, h1, h2⟩ | ⟨h, _⟩ | ⟨h, _⟩ <;> omega
   clear fp fq
   have hR : roundR s n (g1 * 2 ^ 120 / g2) (x1 - x2 - 120) (decide (0 < g1 * 2 ^ 120 % g2)) = R := by
    have h := HR.out
    rw [if_neg (by decide), if_neg (by decide), if_neg (by decide)] at h
    exact h
   clear HR
   have m1 : g1 < 2 ^ 53 := by have := bp.1; cases s <;> simp [lowN] at this <;> omega
   have m2 : g2 < 2 ^ 53 := by have := bq.2.1; cases s <;> simp [lowN] at this <;> omega
   have cn1 := fun w => nat_c w (n := g1) (by omega)
   have cn2 := fun w => nat_c w (n := g2) (by omega)
   have hl1 : (digs g1).length ≤ 20000 := by have := len4 bp.1; omega
   have hl2 : (digs g2).length ≤ 1000 := by have := len4 bq.2.1; omega
   have cl : ∀ (w : World) (A : Option Addr) (c : Nat), Big w A g1 → (digs g1).length ≤ c → Calls Tryz.prog 110 #[.slice A (digs g1).length c, .int .i64 120] w (RetBig (g1 * 2 ^ 120) w) := fun w A c h hc => left_c (s := 120) w h hc hl1 (by decide)
   have h6 : g1 * 2 ^ 120 < 2 ^ 173 := by
    rw [show (173 : Nat) = 53 + 120 from rfl, Nat.pow_add]
    exact Nat.mul_lt_mul_of_pos_right m1 (Nat.two_pow_pos _)
   have hsl : (digs (g1 * 2 ^ 120)).length ≤ 1000 := by
    have := len_bits h6
    omega
   have hql : (digs (g1 * 2 ^ 120 / g2)).length ≤ 1000 := Nat.le_trans (len_mono (Nat.div_le_self _ _)) hsl
   have ct := fun w A B c d hA hc hB hd => divide_c (A0 := A) (A1 := B) (c0 := c) (c1 := d) w hA hc hB hd (by omega : g2 ≠ 0) hsl hl2
   obtain ⟨x, hx0⟩ : ∃ x, x1 - x2 - 120 = x := ⟨_, rfl⟩
   have hx : wrap64 (x1 - x2) = x1 - x2 := wr (by omega) (by omega)
   have hx2 : wrap64 (x1 - x2 - 120) = x := by rw [hx0]; exact wr (by omega) (by omega)
   have cr := fun A c w hB hc => round_c s n (g1 * 2 ^ 120 / g2) x (decide (0 < (digs (g1 * 2 ^ 120 % g2)).length)) A c w hB hc hql (by omega) (by omega)
   rw [hx0, ← lenpos] at hR
   rw [hR] at cr
   generalize g1 * 2 ^ 120 / g2 = q at *
   generalize g1 * 2 ^ 120 % g2 = rest at *
   generalize g1 * 2 ^ 120 = m at *
   clear hx0 hsl hls hms m1 m2 bp bq hR hl1 hl2 h6 hql
   go_upto_region 9 with (fail)
   go_region_held3 (fun w' => Ext w W w') (first | assumption | (with_reducible exact Ext.call (by assumption) hb1) | (with_reducible exact Ext.call (by assumption) hb2) | (with_reducible exact Ext.call (by assumption) hb3) | (with_reducible exact Ext.call (by assumption) hb4) | ((with_reducible refine Ext.drew ?_); assumption)) ((first | (go_at_call 75; (with_reducible refine (cn1 _).mono ?_); rintro e w1 ⟨A1, c1, rfl, hc1, hB1, hb1⟩) | (go_at_call 75; (with_reducible refine (cn2 _).mono ?_); rintro e w2 ⟨A2, c2, rfl, hc2, hB2, hb2⟩) | (go_at_call 110; (refine (cl _ _ _ (by first | exact hB1 | exact hB1.below hb2) hc1).mono ?_); rintro e w3 ⟨A3, c3, rfl, hc3, hB3, hb3⟩) | (go_at_call 109; (refine (ct _ _ _ _ _ (by first | exact hB3 | exact hB3.below hb2) hc3 (by first | exact hB2 | exact hB2.below hb3) hc2).mono ?_); rintro e w4 ⟨A4, c4, A5, c5, rfl, hc4, hB4, hc5, hB5, hb4⟩)))
   all_goals
    go_wp2_with (go_at_call 74; refine (cr _ _ _ hB4 hc4).mono ?_; rintro e w5 ⟨rfl, hb5⟩)
    go_ret
    exact ⟨rfl, Ext.end (Ext.call (by assumption) hb5)⟩
end Go.Proofs.YtmoimcblmmcffaaGreat.NC
