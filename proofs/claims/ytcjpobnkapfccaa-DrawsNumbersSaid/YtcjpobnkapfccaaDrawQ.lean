/- Permutations and picks in plain numbers. No program in it. -/
import Derived.Test.YtcjpobnkapfccaaDrawP
namespace Go.Proofs.Ytcjpobnkapfccaa.M
open Go.RowKit
set_option linter.unusedVariables false

def swap (l : List Int) (i j : Nat) : List Int := (l.set i (dg l j)).set j (dg l i)
theorem swap_len (l : List Int) (i j : Nat) : (swap l i j).length = l.length := by simp [swap]
/-- The swaps of a shuffle: position k, then those below. -/
def shufs : Nat → Int → List Int → List Int
  | 0, _, l => l
  | k + 1, s, l => shufs k (lcg s) (swap l (k + 1) (below s ((k + 2 : Nat) : Int)).toNat)
def iota (n : Nat) : List Int := (List.range n).map Int.ofNat
theorem iota_len (n : Nat) : (iota n).length = n := by simp [iota]
theorem iota_dg {n j : Nat} (h : j < n) : dg (iota n) j = (j : Int) := by
  rw [dg_get (by rw [iota_len]; exact h)]
  simp [iota]
theorem eq_iota {l : List Int} {n : Nat} (hl : l.length = n) (h : ∀ j, j < n → dg l j = (j : Int)) : l = iota n := by
  refine List.ext_getElem (by rw [iota_len]; exact hl) fun j h1 h2 => ?_
  rw [← dg_get h1, ← dg_get h2, h j (by omega), iota_dg (by omega)]
def shuf (s n : Int) : List Int := if n < 0 ∨ 1024 < n then [] else shufs (n.toNat - 1) s (iota n.toNat)
def shufS (s n : Int) : Int := if n < 0 ∨ 1024 < n then s else skips s (n.toNat - 1)
theorem shufs_len (k : Nat) : ∀ s l, (shufs k s l).length = l.length := by
  induction k with
  | zero => intro s l; rfl
  | succ k ih => intro s l; show (shufs k _ _).length = _; rw [ih, swap_len]

/-- The index that a number below the sum falls on. -/
def pickAt : Int → List Int → Int → Int
  | _, [], _ => -1
  | x, w :: ws, i => if x - w < 0 then i else pickAt (x - w) ws (i + 1)
def badW (ws : List Int) : Prop := ∃ w ∈ ws, w < 0 ∨ 1000000 < w
open Classical in
noncomputable def pickI (s : Int) (ws : List Int) : Int := if 1024 < ws.length ∨ badW ws ∨ ws.sum = 0 then -1 else pickAt (below s ws.sum) ws 0
open Classical in
noncomputable def pickS (s : Int) (ws : List Int) : Int := if 1024 < ws.length ∨ badW ws ∨ ws.sum = 0 then s else lcg s
theorem drop_dg {ws : List Int} {k : Nat} (h : k < ws.length) : ws.drop k = dg ws k :: ws.drop (k + 1) := by
  rw [List.drop_eq_getElem_cons h, dg_get h]
theorem take_sum {ws : List Int} {k : Nat} (h : k < ws.length) : (ws.take (k + 1)).sum = (ws.take k).sum + dg ws k := by
  rw [List.take_succ_eq_append_getElem h, List.sum_append, dg_get h]
  simp
theorem sum_bound {ws : List Int} (h : ∀ k, k < ws.length → 0 ≤ dg ws k ∧ dg ws k ≤ 1000000) : 0 ≤ ws.sum ∧ ws.sum ≤ 1000000 * ws.length := by
  induction ws with
  | nil => simp
  | cons w ws ih =>
    have h0 := h 0 (by simp)
    rw [dg_cons0] at h0
    have h1 := ih (fun k hk => by have := h (k + 1) (by simp; omega); rwa [dg_cons] at this)
    rw [List.sum_cons, List.length_cons]
    omega
theorem pickAt_found {ws : List Int} (h : ∀ k, k < ws.length → 0 ≤ dg ws k) : ∀ x i, 0 ≤ x → x < ws.sum → 0 ≤ i → i ≤ pickAt x ws i ∧ pickAt x ws i < i + ws.length ∧ 0 < dg ws (pickAt x ws i - i).toNat := by
  induction ws with
  | nil => intro x i h0 h1 h2; simp at h1; omega
  | cons w ws ih =>
    intro x i h0 h1 h2
    have hw := h 0 (by simp)
    rw [dg_cons0] at hw
    rw [List.sum_cons] at h1
    unfold pickAt
    by_cases hx : x - w < 0
    · rw [if_pos hx, List.length_cons, Int.sub_self]
      refine ⟨Int.le_refl _, by omega, ?_⟩
      show 0 < dg (w :: ws) 0
      rw [dg_cons0]
      omega
    · rw [if_neg hx, List.length_cons]
      obtain ⟨a1, a2, a3⟩ := ih (fun k hk => by have := h (k + 1) (by simp; omega); rwa [dg_cons] at this) (x - w) (i + 1) (by omega) (by omega) (by omega)
      refine ⟨by omega, by omega, ?_⟩
      rw [show (pickAt (x - w) ws (i + 1) - i).toNat = (pickAt (x - w) ws (i + 1) - (i + 1)).toNat + 1 by omega, dg_cons]
      exact a3

end Go.Proofs.Ytcjpobnkapfccaa.M
