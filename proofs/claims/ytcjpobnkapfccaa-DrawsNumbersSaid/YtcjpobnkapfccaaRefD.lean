/- The reference: Add. -/
import Derived.Test.YtcjpobnkapfccaaRefC
namespace Go.Proofs.Ytcjpobnkapfccaa.M
open Go.RowKit
set_option linter.unusedVariables false

/-- The reference's sum so far, in a row of n digits. -/
def RAddI (x y p : List Int) (n k : Nat) (q : Int) : Prop := Lim p ∧ p.length = n ∧ (∀ j, k ≤ j → dg p j = 0) ∧ V p + q * pw k = S (dg x) k + S (dg y) k
theorem radd_start (x y : List Int) (n : Nat) : RAddI x y (List.replicate n 0) n 0 0 := ⟨Lim.replicate _, by simp, fun j _ => dg_replicate _ j, by rw [V_replicate, S_zero, S_zero]; simp⟩
theorem radd_round {x y p : List Int} {n k : Nat} {q t : Int} (h : RAddI x y p n k q) (hk : k < n) (ht : dg x k + dg y k + q = t) (h0 : 0 ≤ t) : RAddI x y (p.set k (t % 4294967296)) n (k + 1) (t / 4294967296) := by
  obtain ⟨a1, a2, a3, a4⟩ := h
  refine ⟨a1.set _ (by omega) (by omega), by simp [a2], fun j hj => ?_, ?_⟩
  · rw [dg_set, if_neg (fun h => by have := h.1; omega)]; exact a3 j (by omega)
  · rw [V_set (by omega), a3 k (Nat.le_refl _), S_succ, S_succ, pw_succ, ← Int.mul_assoc, Int.sub_zero]
    have e : t % 4294967296 * pw k + t / 4294967296 * 4294967296 * pw k = t * pw k := by
      rw [← Int.add_mul]
      congr 1
      omega
    rw [← ht] at e ⊢
    rw [Int.add_mul, Int.add_mul] at e
    omega
theorem radd_end {x y p : List Int} {n : Nat} {q : Int} (h : RAddI x y p (n + 1) (n + 1) q) (hx : Lim x) (hy : Lim y) (hlx : x.length ≤ n) (hly : y.length ≤ n) (hq : 0 ≤ q) : V p = V x + V y := by
  obtain ⟨a1, a2, a3, a4⟩ := h
  rw [V_at (show x.length ≤ n + 1 by omega), V_at (show y.length ≤ n + 1 by omega)] at a4
  have h1 := V_lt hx
  have h2 := V_lt hy
  have h3 := pw_le hlx
  have h4 := pw_le hly
  have h5 := pw_pos n
  have h6 := V_nonneg a1
  rw [pw_succ] at a4
  rcases (show q = 0 ∨ 1 ≤ q by omega) with rfl | h7
  · rw [Int.zero_mul, Int.add_zero] at a4; exact a4
  · have : 1 * (4294967296 * pw n) ≤ q * (4294967296 * pw n) := Int.mul_le_mul_of_nonneg_right h7 (by omega)
    omega


end Go.Proofs.Ytcjpobnkapfccaa.M
