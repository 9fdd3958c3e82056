/- The difference of two numbers of the program. -/
import Derived.Test.YtcjpobnkapfccaaNatD
namespace Go.Proofs.Ytcjpobnkapfccaa.M
open Go.RowKit
set_option linter.unusedVariables false

/-- A number and a bool. -/
def RetNB (N : Nat) (b : Bool) (w : World) (e : Ending) (w' : World) : Prop := ∃ A c xs, e = .returned (.tuple #[.slice A xs.length c, .bool b]) ∧ Hid (xs = limbs N) ∧ RN w' A c xs ∧ Below w.heap.size w w'

/-- The difference so far. -/
def SubI (x y p : List Int) (k : Nat) (q : Int) : Prop := Lim p ∧ p.length = x.length ∧ (∀ j, k ≤ j → dg p j = 0) ∧ V p - q * pw k = S (dg x) k - S (dg y) k
theorem sub_start (x y : List Int) : SubI x y (List.replicate x.length 0) 0 0 := ⟨Lim.replicate _, by simp, fun j _ => dg_replicate _ j, by rw [V_replicate, S_zero, S_zero]; simp⟩
theorem sub_round {x y p : List Int} {k : Nat} {q d q' : Int} (h : SubI x y p k q) (hk : k < x.length) (hd : d - q' * 4294967296 = dg x k - (q + dg y k)) (h0 : 0 ≤ d) (h1 : d ≤ 4294967295) : SubI x y (p.set k d) (k + 1) q' := by
  obtain ⟨a1, a2, a3, a4⟩ := h
  refine ⟨a1.set _ h0 h1, by simp [a2], fun j hj => ?_, ?_⟩
  · rw [dg_set, if_neg (fun h => by have := h.1; omega)]; exact a3 j (by omega)
  · rw [V_set (by omega), a3 k (Nat.le_refl _), S_succ, S_succ, pw_succ, ← Int.mul_assoc, Int.sub_zero]
    have e : d * pw k - q' * 4294967296 * pw k = dg x k * pw k - q * pw k - dg y k * pw k := by
      rw [← Int.sub_mul, hd, Int.sub_mul, Int.add_mul]
      omega
    omega
theorem sub_end {x y p : List Int} {q : Int} (h : SubI x y p x.length q) (hy : Lim y) (hl : y.length ≤ x.length) (hv : V y ≤ V x) (hq : 0 ≤ q) : V p = V x - V y := by
  obtain ⟨a1, a2, a3, a4⟩ := h
  rw [V_at hl] at a4
  have h1 := V_lt a1
  rw [a2] at h1
  have h2 := pw_pos x.length
  rcases (show q = 0 ∨ 1 ≤ q by omega) with rfl | h3
  · rw [Int.zero_mul, Int.sub_zero] at a4; exact a4
  · have : 1 * pw x.length ≤ q * pw x.length := Int.mul_le_mul_of_nonneg_right h3 (by omega)
    have a5 : V p - q * pw x.length = V x - V y := a4
    omega


/-- A number in memory that is new, and a bool. -/
def RetFB (N : Nat) (b : Bool) (w : World) (e : Ending) (w' : World) : Prop := ∃ g c xs, w.heap.size ≤ g ∧ e = .returned (.tuple #[.slice (some ⟨g, 0, none⟩) xs.length c, .bool b]) ∧ Hid (xs = limbs N) ∧ RN w' (some ⟨g, 0, none⟩) c xs ∧ Below w.heap.size w w'

end Go.Proofs.Ytcjpobnkapfccaa.M
