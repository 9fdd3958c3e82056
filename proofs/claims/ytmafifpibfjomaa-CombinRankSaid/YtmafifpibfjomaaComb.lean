/- Plain mathematics: factorials and binomial coefficients. No program in it. -/
import Derived.Test.YtmafifpibfjomaaMath
namespace Go.Proofs.Ytmafifpibfjomaa.M

def fact : Nat → Nat
  | 0 => 1
  | n + 1 => fact n * (n + 1)
def ch : Nat → Nat → Nat
  | _, 0 => 1
  | 0, _ + 1 => 0
  | n + 1, k + 1 => ch n k + ch n (k + 1)
theorem fact_pos (n : Nat) : 0 < fact n := by
  induction n with
  | zero => decide
  | succ n ih => exact Nat.mul_pos ih (by omega)
theorem ch_zero (n : Nat) : ch n 0 = 1 := by cases n <;> rfl
theorem ch_succ (n k : Nat) : ch (n + 1) (k + 1) = ch n k + ch n (k + 1) := rfl
theorem ch_gt : ∀ (n k : Nat), n < k → ch n k = 0
  | 0, k + 1, _ => rfl
  | n + 1, k + 1, h => by rw [ch_succ, ch_gt n k (by omega), ch_gt n (k + 1) (by omega)]
theorem ch_self (n : Nat) : ch n n = 1 := by
  induction n with
  | zero => rfl
  | succ n ih => rw [ch_succ, ih, ch_gt n (n + 1) (by omega)]
theorem ch_fact : ∀ (s a b : Nat), a + b = s → ch (a + b) a * (fact a * fact b) = fact (a + b) := by
  intro s
  induction s with
  | zero =>
    intro a b h
    have ha : a = 0 := by omega
    have hb : b = 0 := by omega
    subst ha hb
    rfl
  | succ s ih =>
    intro a b h
    cases a with
    | zero => rw [ch_zero, Nat.zero_add]; simp [fact]
    | succ a =>
      cases b with
      | zero => rw [Nat.add_zero, ch_self]; simp [fact]
      | succ b =>
        have h1 := ih a (b + 1) (by omega)
        have h2 := ih (a + 1) b (by omega)
        rw [show a + (b + 1) = s by omega] at h1
        rw [show a + 1 + b = s by omega] at h2
        rw [show a + 1 + (b + 1) = s + 1 by omega, ch_succ, Nat.add_mul]
        have e1 : ch s a * (fact (a + 1) * fact (b + 1)) = fact s * (a + 1) := by
          rw [← h1]
          simp only [fact, Nat.mul_assoc, Nat.mul_comm, Nat.mul_left_comm]
        have e2 : ch s (a + 1) * (fact (a + 1) * fact (b + 1)) = fact s * (b + 1) := by
          rw [← h2]
          simp only [fact, Nat.mul_assoc, Nat.mul_comm, Nat.mul_left_comm]
        rw [e1, e2, ← Nat.mul_add]
        show _ = fact s * (s + 1)
        rw [show a + 1 + (b + 1) = s + 1 by omega]
theorem ch_fact' {n k : Nat} (h : k ≤ n) : ch n k * (fact k * fact (n - k)) = fact n := by
  have := ch_fact n k (n - k) (by omega)
  rwa [show k + (n - k) = n by omega] at this
theorem ch_pos {n k : Nat} (h : k ≤ n) : 0 < ch n k := by
  rcases Nat.eq_zero_or_pos (ch n k) with h0 | h0
  · have h1 := ch_fact' h
    have h2 := fact_pos n
    rw [h0, Nat.zero_mul] at h1
    omega
  · exact h0
theorem ch_step {n k : Nat} (h : k < n) : ch n k * (n - k) = ch n (k + 1) * (k + 1) := by
  have h1 := ch_fact' (Nat.le_of_lt h)
  have h2 := ch_fact' (show k + 1 ≤ n from h)
  have e : n - k = (n - (k + 1)) + 1 := by omega
  rw [e] at h1
  have hp := Nat.mul_pos (fact_pos k) (fact_pos (n - (k + 1)))
  refine Nat.eq_of_mul_eq_mul_right hp ?_
  have a1 : ch n k * (n - k) * (fact k * fact (n - (k + 1))) = fact n := by
    rw [← h1, e]
    simp only [fact, Nat.mul_assoc, Nat.mul_comm, Nat.mul_left_comm]
  have a2 : ch n (k + 1) * (k + 1) * (fact k * fact (n - (k + 1))) = fact n := by
    rw [← h2]
    simp only [fact, Nat.mul_assoc, Nat.mul_comm, Nat.mul_left_comm]
  rw [a1, a2]
theorem ch_div {n k : Nat} (h : k < n) : ch n k * (n - k) / (k + 1) = ch n (k + 1) := by
  rw [ch_step h, Nat.mul_div_cancel _ (by omega)]
theorem ch_symm {n k : Nat} (h : k ≤ n) : ch n (n - k) = ch n k := by
  have h1 := ch_fact' h
  have h2 := ch_fact' (show n - k ≤ n by omega)
  rw [show n - (n - k) = k by omega, Nat.mul_comm (fact (n - k))] at h2
  exact Nat.eq_of_mul_eq_mul_right (Nat.mul_pos (fact_pos k) (fact_pos (n - k))) (h2.trans h1.symm)
theorem ch_min {n k : Nat} (h : k ≤ n) : ch n (min k (n - k)) = ch n k := by
  rcases Nat.le_total k (n - k) with h1 | h1
  · rw [Nat.min_eq_left h1]
  · rw [Nat.min_eq_right h1, ch_symm h]
theorem ch_le_pw : ∀ (n k : Nat), (ch n k : Int) ≤ pw n
  | n, 0 => by rw [ch_zero]; have := pw_pos n; omega
  | 0, k + 1 => by show ((0 : Nat) : Int) ≤ 1; omega
  | n + 1, k + 1 => by
    have h1 := ch_le_pw n k
    have h2 := ch_le_pw n (k + 1)
    have h3 := pw_pos n
    rw [ch_succ, pw_succ]
    omega
theorem ch_len (n k : Nat) : (limbs (ch n k)).length ≤ n + 1 := by
  refine limbs_len ?_
  have h1 := ch_le_pw n k
  have h2 := pw_pos n
  rw [pw_succ]
  omega
theorem fact_le_pw {n : Nat} (h : n ≤ 4294967295) : (fact n : Int) ≤ pw n := by
  induction n with
  | zero => exact Int.le_refl _
  | succ n ih =>
    have h1 := ih (by omega)
    have h2 := pw_pos n
    have h3 : (fact n : Int) * ((n : Int) + 1) ≤ pw n * 4294967296 := Int.mul_le_mul h1 (by omega) (by omega) (by omega)
    rw [pw_succ, show fact (n + 1) = fact n * (n + 1) from rfl, Int.natCast_mul, Int.natCast_add]
    have e : ((1 : Nat) : Int) = 1 := rfl
    rw [e]
    omega
theorem fact_len {n : Nat} (h : n ≤ 4294967295) : (limbs (fact n)).length ≤ n + 1 := by
  refine limbs_len ?_
  have h1 := fact_le_pw h
  have h2 := pw_pos n
  rw [pw_succ]
  omega
theorem limbs_len1 {n : Nat} (h : n ≤ 4294967295) : (limbs n).length ≤ 1 := limbs_len (by rw [pw_succ, pw_zero]; omega)
theorem limbs_mul_len {a b m n : Nat} (ha : (limbs a).length ≤ m) (hb : (limbs b).length ≤ n) : (limbs (a * b)).length ≤ m + n := by
  refine limbs_len ?_
  have h1 := limbs_lt a
  have h2 := limbs_lt b
  have h3 := pw_le ha
  have h4 := pw_le hb
  have h5 := pw_pos (m + n)
  rw [pw_add] at h5 ⊢
  rcases Nat.eq_zero_or_pos b with rfl | hb0
  · simpa using h5
  · have h6 := pw_pos m
    have : (a : Int) * b < pw m * pw n := by
      have e1 : (a : Int) * b < pw m * b := Int.mul_lt_mul_of_pos_right (by omega) (by omega)
      have e2 : pw m * (b : Int) ≤ pw m * pw n := Int.mul_le_mul_of_nonneg_left (by omega) (by omega)
      omega
    simpa using this

end Go.Proofs.Ytmafifpibfjomaa.M
