/- Draws in plain numbers: the generator, numbers below a bound, permutations, picks. No program in it. -/
import Derived.Test.YtcjpobnkapfccaaRatP
namespace Go.Proofs.Ytcjpobnkapfccaa.M
open Go.RowKit
set_option linter.unusedVariables false

/-- The next state. -/
def lcg (s : Int) : Int := (s * 6364136223846793005 + 1442695040888963407) % 18446744073709551616
theorem lcg_bound (s : Int) : 0 ≤ lcg s ∧ lcg s ≤ 18446744073709551615 := by unfold lcg; omega
theorem u64_wrap (x : Int) : IntKind.u64.wrap x = x % 18446744073709551616 := by simp [IntKind.wrap, IntKind.bits, IntKind.signed]
theorem lcg_wrap (s : Int) : IntKind.u64.wrap (IntKind.u64.wrap (s * 6364136223846793005) + 1442695040888963407) = lcg s := by
  rw [u64_wrap, u64_wrap]
  unfold lcg
  omega
/-- The 32 bits that are drawn. -/
def hi (s : Int) : Int := lcg s / 4294967296
theorem hi_bound (s : Int) : 0 ≤ hi s ∧ hi s ≤ 4294967295 := by have := lcg_bound s; unfold hi; omega
/-- A number below n. -/
def below (s n : Int) : Int := if n < 1 ∨ 2147483648 < n then 0 else hi s * n / 4294967296
def belowS (s n : Int) : Int := if n < 1 ∨ 2147483648 < n then s else lcg s
theorem below_bound {s n : Int} (h1 : 1 ≤ n) : 0 ≤ below s n ∧ below s n < n := by
  unfold below
  split
  · omega
  · have h := hi_bound s
    have h3 : hi s * n ≤ 4294967295 * n := Int.mul_le_mul_of_nonneg_right h.2 (by omega)
    have h4 : 0 ≤ hi s * n := Int.mul_nonneg h.1 (by omega)
    omega
/-- The state after k transitions. -/
def skips (s : Int) : Nat → Int
  | 0 => s
  | k + 1 => lcg (skips s k)
theorem skips_bound {s : Int} (h : 0 ≤ s ∧ s ≤ 18446744073709551615) (k : Nat) : 0 ≤ skips s k ∧ skips s k ≤ 18446744073709551615 := by
  cases k with
  | zero => exact h
  | succ k => exact lcg_bound _
theorem skips_succ (s : Int) (k : Nat) : skips s (k + 1) = skips (lcg s) k := by
  induction k with
  | zero => rfl
  | succ k ih =>
    show lcg (skips s (k + 1)) = _
    rw [ih]
    rfl
theorem skips_add (s : Int) (a b : Nat) : skips s (a + b) = skips (skips s a) b := by
  induction b with
  | zero => rfl
  | succ b ih =>
    show lcg (skips s (a + b)) = _
    rw [ih]
    rfl

end Go.Proofs.Ytcjpobnkapfccaa.M
