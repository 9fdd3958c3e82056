/- A variable in memory: a block of the call's own that holds a struct's cells. -/
import Derived.Test.YtocpncjmcaecoaaGreatNatH
import Derived.Test.YtocpncjmcaecoaaGreatOwn
import Derived.Deep.RegionHeld3
namespace Go.Proofs.YtocpncjmcaecoaaGreat.M
set_option maxRecDepth 10000
open Go.RowKit

/-- A variable: its block and its cells. -/
def Vr (w : World) (g t : Nat) (cs : Array Value) : Prop := w.heap[g]? = some (.cells cs t (0, 0))
theorem Vr.lt {w : World} {g t : Nat} {cs : Array Value} (h : Vr w g t cs) : g < w.heap.size := (Array.getElem?_eq_some_iff.1 h).1
theorem Vr.cell {w : World} {g t : Nat} {cs : Array Value} (h : Vr w g t cs) (j : Nat) {v : Value} (hv : cs[j]? = some v) : w.cell? ⟨g, j, none⟩ = some v := by
  unfold Vr at h
  simp only [World.cell?, h]
  exact hv
theorem Vr.thaw {w : World} {g t : Nat} {cs : Array Value} (h : Vr w g t cs) (j : Nat) : w.frozen? ⟨g, j, none⟩ = false := by
  unfold Vr at h
  simp [World.frozen?, h]
theorem Vr.below {w w1 : World} {B g t : Nat} {cs : Array Value} (h : Vr w g t cs) (hb : Below B w w1) (hg : g < B) : Vr w1 g t cs := by
  unfold Vr at h ⊢
  rw [hb.block g hg]; exact h
theorem Vr.below' {w w1 : World} {g t : Nat} {cs : Array Value} (h : Vr w g t cs) (hb : Below w.heap.size w w1) : Vr w1 g t cs := h.below hb h.lt
theorem Vr.new (w : World) (t : Nat) (cs : Array Value) : Vr (w.alloc (.cells cs t (0, 0))) w.heap.size t cs := heap_new w _
theorem Vr.alloc {w : World} {g t : Nat} {cs : Array Value} (h : Vr w g t cs) (o : Obj) : Vr (w.alloc o) g t cs := h.below' ((Below.refl _ _).alloc (Nat.le_refl _) _)
theorem size_alloc (w : World) (o : Obj) : (w.alloc o).heap.size = w.heap.size + 1 := by
  show (w.heap.push o).size = _
  simp
theorem Vr.drew {w : World} {g t : Nat} {cs : Array Value} (h : Vr w g t cs) : Vr w.drew g t cs := h
theorem Vr.set {w : World} {g t : Nat} {cs : Array Value} (h : Vr w g t cs) (j : Nat) (v : Value) : Vr (w.setCell ⟨g, j, none⟩ v) g t (cs.setIfInBounds j v) := by
  unfold Vr at h ⊢
  simp only [World.setCell, Array.getElem?_modify, if_true, h, Option.map_some]
  simp
theorem grown_set' (w : World) (g j : Nat) (v : Value) : w.grownBy (w.setCell ⟨g, j, none⟩ v) (some g) := by
  have h := World.grownBy.refl w (some g)
  refine ⟨h.os, h.tape, h.output, Nat.le_trans h.size (by simp [World.setCell]), fun k hk hne => ?_⟩
  simp only [World.setCell, Array.getElem?_modify]
  rw [if_neg (fun e => hne (by rw [e]))]
theorem RN.set {w : World} {A : Option Addr} {c : Nat} {xs : List Int} (h : RN w A c xs) {g : Nat} (hne : ∀ ad, A = some ad → ad.block ≠ g) (j : Nat) (v : Value) : RN (w.setCell ⟨g, j, none⟩ v) A c xs := by
  refine ⟨⟨h.1.1, h.1.2.1, fun i hi => ?_⟩, h.2⟩
  obtain ⟨ad, e, hc⟩ := h.1.2.2 i hi
  exact ⟨ad, e, (grown_set' w g j v).cell hc (by rw [ad_blk]; exact fun e2 => hne ad e (by injection e2))⟩
theorem Vr.other {w : World} {g b t : Nat} {cs : Array Value} (h : Vr w b t cs) (hne : b ≠ g) (j : Nat) (v : Value) : Vr (w.setCell ⟨g, j, none⟩ v) b t cs := by
  have hl := h.lt
  unfold Vr at h ⊢
  rw [(grown_set' w g j v).block b hl (fun e => hne (by injection e))]
  exact h
theorem Vr.new' (w : World) (t : Nat) (cs : Array Value) {g : Nat} (hg : g = w.heap.size) : Vr (w.alloc (.cells cs t (0, 0))) g t cs := by
  rw [hg]; exact Vr.new w t cs
/-- A block of cells that are no digits is none of a number's. -/
def NoDigits (cs : Array Value) : Prop := ∀ j : Nat, ∀ n, cs[j]? ≠ some (.int .u32 n)
theorem RN.apart {w : World} {A : Option Addr} {c : Nat} {xs : List Int} {g t : Nat} {cs : Array Value} (h : RN w A c xs) (hv : Vr w g t cs) (hn : NoDigits cs) (j : Nat) (v : Value) : RN (w.setCell ⟨g, j, none⟩ v) A c xs := by
  refine ⟨⟨h.1.1, h.1.2.1, fun i hi => ?_⟩, h.2⟩
  obtain ⟨ad, e, hc⟩ := h.1.2.2 i hi
  refine ⟨ad, e, (grown_set' w g j v).cell hc (fun e2 => ?_)⟩
  have e3 : (ad.add i).block = g := by injection e2
  unfold Vr at hv
  simp only [World.cell?, e3, hv] at hc
  split at hc
  · first | exact hn _ _ hc | cases hc
  · first | exact hn _ _ hc | cases hc
theorem nd_int (b : Bool) (A : Option Addr) (m c : Nat) : NoDigits #[.bool b, .slice A m c] := by
  intro j n
  match j with
  | 0 => simp
  | 1 => simp
  | k + 2 => simp
theorem nd_rat (b : Bool) (A B : Option Addr) (m c m2 c2 : Nat) : NoDigits #[.bool b, .slice A m c, .slice B m2 c2] := by
  intro j n
  match j with
  | 0 => simp
  | 1 => simp
  | 2 => simp
  | k + 3 => simp

end Go.Proofs.YtocpncjmcaecoaaGreat.M
