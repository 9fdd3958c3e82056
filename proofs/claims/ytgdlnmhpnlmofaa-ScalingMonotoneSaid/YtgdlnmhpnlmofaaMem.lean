/- Words for memory: a slice of digits that is read, a block of digits of the call's own. -/
import Derived.Test.YtgdlnmhpnlmofaaMath
import Derived.WalkKit
import Derived.Below
import Derived.KernelRfl
import Derived.Outline
import Derived.Lib.Hide
import Derived.BigQuiet
import Derived.Deep.QuietTactic
import Derived.RowKit3
import Derived.Deep.LoopGhost
import Derived.IntWalk
namespace Go.Proofs.Ytgdlnmhpnlmofaa.M
open Go.RowKit

/-- A slice of whole numbers that is read. -/
def Rk (w : World) (k : IntKind) (A : Option Addr) (c : Nat) (xs : List Int) : Prop :=
  xs.length ≤ c ∧ c ≤ 9223372036854775807 ∧ ∀ j, j < xs.length → ∃ ad, A = some ad ∧ w.cell? (ad.add j) = some (.int k (dg xs j))
theorem Rk.below {w w1 : World} {k : IntKind} {A : Option Addr} {c : Nat} {xs : List Int} (h : Rk w k A c xs) (hb : Below w.heap.size w w1) : Rk w1 k A c xs :=
  ⟨h.1, h.2.1, fun j hj => by
    obtain ⟨ad, e, hc⟩ := h.2.2 j hj
    exact ⟨ad, e, (hb.cell (World.block_lt_of_cell? w _ hc)).trans hc⟩⟩
theorem Rk.take {w : World} {k : IntKind} {A : Option Addr} {c m : Nat} {xs : List Int} (h : Rk w k A c xs) (hm : m ≤ xs.length) : Rk w k A m (xs.take m) := by
  have hl : (xs.take m).length = m := by rw [List.length_take]; omega
  obtain ⟨h1, h2, h3⟩ := h
  refine ⟨by omega, by omega, fun j hj => ?_⟩
  obtain ⟨ad, e, hc⟩ := h3 j (by omega)
  exact ⟨ad, e, by rw [dg_take, if_pos (by omega)]; exact hc⟩
/-- A number that is read: its limbs. -/
def RN (w : World) (A : Option Addr) (c : Nat) (xs : List Int) : Prop := Rk w .u32 A c xs ∧ Lim xs
theorem RN.below {w w1 : World} {A : Option Addr} {c : Nat} {xs : List Int} (h : RN w A c xs) (hb : Below w.heap.size w w1) : RN w1 A c xs := ⟨h.1.below hb, h.2⟩
theorem RN.nil (w : World) : RN w none 0 [] := ⟨⟨Nat.le_refl _, by omega, fun j hj => by simp at hj⟩, Lim.nil⟩

/-- A block of the call's own, that holds these numbers and no more. -/
def Bk (w : World) (g e : Nat) (k : IntKind) (l : List Int) : Prop := w.heap[g]? = some (.cells (l.map (Value.int k)).toArray e (0, 0))
theorem Bk.lt {w : World} {g e : Nat} {k : IntKind} {l : List Int} (h : Bk w g e k l) : g < w.heap.size := (Array.getElem?_eq_some_iff.1 h).1
theorem add_at (g j : Nat) : (⟨g, 0, none⟩ : Addr).add j = ⟨g, j, none⟩ := by unfold Addr.add; split <;> simp_all
theorem Bk.cell {w : World} {g e : Nat} {k : IntKind} {l : List Int} (h : Bk w g e k l) {j : Nat} (hj : j < l.length) : w.cell? ⟨g, j, none⟩ = some (.int k (dg l j)) ∧ w.frozen? ⟨g, j, none⟩ = false := by
  unfold Bk at h
  constructor
  · simp only [World.cell?, h]
    simp [dg_get hj, hj]
  · simp [World.frozen?, h]
theorem Bk.set {w : World} {g e : Nat} {k : IntKind} {l : List Int} (h : Bk w g e k l) (j : Nat) (x : Int) : Bk (w.setCell ⟨g, j, none⟩ (.int k x)) g e k (l.set j x) := by
  have hb := Bk.lt h
  unfold Bk at h ⊢
  simp only [World.setCell, Array.getElem?_modify, if_true, h, Option.map_some]
  simp
theorem heap_new (w : World) (o : Obj) : (w.alloc o).heap[w.heap.size]? = some o := by
  show (w.heap.push o)[w.heap.size]? = some o
  rw [Array.getElem?_push, if_pos rfl]
theorem Bk.made {w : World} {e : Nat} {k : IntKind} (n : Nat) : Bk (w.alloc (.cells (madeCells #[.int k 0] n) e (0, 0))) w.heap.size e k (List.replicate n 0) := by
  unfold Bk
  have : madeCells #[.int k 0] n = ((List.replicate n 0).map (Value.int k)).toArray := by
    apply Array.ext
    · simp [size_madeCells]
    · intro i h1 h2
      simp [madeCells, Nat.mod_one]
  rw [this]
  exact heap_new w _
theorem Bk.lit {w : World} {e : Nat} {k : IntKind} (l : List Int) : Bk (w.alloc (.cells (l.map (Value.int k)).toArray e (0, 0))) w.heap.size e k l := by
  exact heap_new w _
/-- The whole block as a slice that is read. -/
theorem Bk.reads {w : World} {g e : Nat} {k : IntKind} {l : List Int} (h : Bk w g e k l) (hm : l.length ≤ 9223372036854775807) : Rk w k (some ⟨g, 0, none⟩) l.length l :=
  ⟨Nat.le_refl _, hm, fun j hj => ⟨_, rfl, by rw [add_at]; exact (h.cell hj).1⟩⟩
theorem Bk.below {w w1 : World} {B g e : Nat} {k : IntKind} {l : List Int} (h : Bk w g e k l) (hb : Below B w w1) (hg : g < B) : Bk w1 g e k l := by
  unfold Bk at h ⊢
  rw [hb.block g hg]; exact h
theorem Bk.below' {w w1 : World} {g e : Nat} {k : IntKind} {l : List Int} (h : Bk w g e k l) (hb : Below w.heap.size w w1) : Bk w1 g e k l := h.below hb h.lt
theorem below_set {B g j : Nat} {w w1 : World} (h : Below B w w1) (hg : B ≤ g) (v : Value) : Below B w (w1.setCell ⟨g, j, none⟩ v) := h.setCell (p := ⟨g, j, none⟩) hg v
/-- Two calls one behind the other. -/
theorem below_then {B : Nat} {w w1 w2 : World} (h : Below B w w1) (hB : B ≤ w1.heap.size) (k : Below w1.heap.size w1 w2) : Below B w w2 := h.trans (k.mono hB)
theorem below_seq {w w1 w2 : World} (h : Below w.heap.size w w1) (k : Below w1.heap.size w1 w2) : Below w.heap.size w w2 := h.trans (k.mono h.size)
theorem below_drewN {B : Nat} {w W : World} (h : Below B w W) (n : Nat) : Below B w (W.drewN n) := ⟨h.os, h.tape, h.output, h.size, h.block⟩

end Go.Proofs.Ytgdlnmhpnlmofaa.M
