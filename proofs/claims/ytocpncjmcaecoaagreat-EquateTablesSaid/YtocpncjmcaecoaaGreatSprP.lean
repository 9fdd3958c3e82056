/- The mean is a possible score, and the variance is no less than 0: in plain numbers. -/
import Derived.Test.YtocpncjmcaecoaaGreatEqU
namespace Go.Proofs.YtocpncjmcaecoaaGreat.M
set_option maxRecDepth 10000
open Go.RowKit
set_option linter.unusedVariables false
set_option linter.unusedSimpArgs false
/-- How many of the first k numbers are above 0. -/
def cnt (f : List Int) : Nat → Int
  | 0 => 0
  | k + 1 => cnt f k + if 0 < dg f k then 1 else 0
theorem cnt_succ (f : List Int) (k : Nat) : cnt f (k + 1) = cnt f k + if 0 < dg f k then 1 else 0 := rfl
/-- The spread of the first k numbers, measured from x. -/
theorem spread_from {f : List Int} (h : freq f) : ∀ k : Nat, k ≤ f.length → ∀ x : Int, (k : Int) ≤ x → tot f k ≤ sq f k - 2 * x * sm f k + x * x * tot f k ∧ 0 ≤ tot f k ∧ 0 ≤ cnt f k ∧ cnt f k ≤ (k : Int) ∧ (cnt f k = 0 → tot f k = 0 ∧ sm f k = 0 ∧ sq f k = 0) ∧ (0 < cnt f k → 0 < tot f k)
  | 0, _, x, _ => by
    show (0 : Int) ≤ 0 - 2 * x * 0 + x * x * 0 ∧ (0 : Int) ≤ 0 ∧ (0 : Int) ≤ 0 ∧ (0 : Int) ≤ _ ∧ ((0 : Int) = 0 → (0 : Int) = 0 ∧ (0 : Int) = 0 ∧ (0 : Int) = 0) ∧ ((0 : Int) < 0 → (0 : Int) < 0)
    refine ⟨by rw [Int.mul_zero, Int.mul_zero]; decide, Int.le_refl _, Int.le_refl _, by omega, fun _ => ⟨rfl, rfl, rfl⟩, fun h => h⟩
  | k + 1, hk, x, hx => by
    obtain ⟨h1, h2, h3, h4, h5, h6⟩ := spread_from h k (by omega) x (by omega)
    have hf := h k (by omega)
    rw [tot_succ, sm_succ, sq_succ, cnt_succ]
    obtain ⟨n, hn⟩ : ∃ n, dg f k = n := ⟨_, rfl⟩
    rw [hn] at hf ⊢
    obtain ⟨d, hd⟩ : ∃ d, x = (k : Int) + d := ⟨x - k, by omega⟩
    have hd1 : 1 ≤ d := by omega
    have e1 : sq f k + (k : Int) * (k : Int) * n - 2 * x * (sm f k + (k : Int) * n) + x * x * (tot f k + n) = (sq f k - 2 * x * sm f k + x * x * tot f k) + n * (d * d) := by
      subst hd
      grind
    have hdd : 1 ≤ d * d := by
      have := Int.mul_le_mul hd1 hd1 (by decide) (by omega)
      omega
    have hnd : n ≤ n * (d * d) := by
      have := Int.mul_le_mul_of_nonneg_left hdd hf.1
      omega
    rw [e1]
    refine ⟨by omega, by omega, by split <;> omega, by split <;> omega, fun h0 => ?_, fun h0 => ?_⟩
    · by_cases hp : 0 < n
      · rw [if_pos hp] at h0; omega
      · rw [if_neg hp] at h0
        obtain ⟨a1, a2, a3⟩ := h5 (by omega)
        have : n = 0 := by omega
        rw [this, a1, a2, a3, Int.mul_zero, Int.mul_zero]
        exact ⟨rfl, rfl, rfl⟩
    · by_cases hp : 0 < n
      · omega
      · rw [if_neg hp] at h0
        have := h6 (by omega)
        omega
theorem spread_all {f : List Int} (h : freq f) : ∀ k : Nat, k ≤ f.length → 0 ≤ sq f k * tot f k - sm f k * sm f k ∧ (sq f k * tot f k - sm f k * sm f k = 0 ↔ cnt f k ≤ 1) ∧ sm f k ≤ ((k : Int) - 1) * tot f k ∧ 0 ≤ sm f k
  | 0, _ => by
    show (0 : Int) ≤ 0 * 0 - 0 * 0 ∧ ((0 : Int) * 0 - 0 * 0 = 0 ↔ (0 : Int) ≤ 1) ∧ (0 : Int) ≤ _ * (0 : Int) ∧ (0 : Int) ≤ 0
    refine ⟨by decide, ⟨fun _ => by decide, fun _ => by decide⟩, by rw [Int.mul_zero]; decide, by decide⟩
  | k + 1, hk => by
    obtain ⟨h1, h2, h3, h4⟩ := spread_all h k (by omega)
    obtain ⟨s1, s2, s3, s4, s5, s6⟩ := spread_from h k (by omega) (k : Int) (Int.le_refl _)
    have hf := h k (by omega)
    rw [tot_succ, sm_succ, sq_succ, cnt_succ]
    obtain ⟨n, hn⟩ : ∃ n, dg f k = n := ⟨_, rfl⟩
    rw [hn] at hf ⊢
    obtain ⟨E, hE⟩ : ∃ E, sq f k - 2 * (k : Int) * sm f k + (k : Int) * (k : Int) * tot f k = E := ⟨_, rfl⟩
    rw [hE] at s1
    have e1 : (sq f k + (k : Int) * (k : Int) * n) * (tot f k + n) - (sm f k + (k : Int) * n) * (sm f k + (k : Int) * n) = (sq f k * tot f k - sm f k * sm f k) + n * E := by
      subst hE
      grind
    have hE0 : 0 ≤ E := by omega
    have hnE := Int.mul_nonneg hf.1 hE0
    have hkn := Int.mul_nonneg (show 0 ≤ (k : Int) by omega) hf.1
    have e2 : ((((k + 1 : Nat) : Int)) - 1) * (tot f k + n) = ((k : Int) - 1) * tot f k + tot f k + (k : Int) * n := by
      have : (((k + 1 : Nat) : Int)) - 1 = (k : Int) := by omega
      rw [this]
      grind
    rw [e1, e2]
    refine ⟨by omega, ?_, by omega, by omega⟩
    by_cases hp : 0 < n
    · rw [if_pos hp]
      by_cases hc : cnt f k = 0
      · obtain ⟨a1, a2, a3⟩ := s5 hc
        rw [a1, a2, a3] at hE
        have hz : E = 0 := by rw [← hE]; simp
        rw [hz, hc, Int.mul_zero, Int.add_zero, h2, hc]
        constructor <;> intro _ <;> omega
      · have ht := s6 (by omega)
        have hE1 : 1 ≤ E := by omega
        have := Int.mul_pos hp (show 0 < E by omega)
        constructor <;> intro h <;> omega
    · rw [if_neg hp]
      have hz : n = 0 := by omega
      rw [hz, Int.zero_mul, Int.add_zero, Int.add_zero]
      exact h2
theorem var_mk {a b : Int} {T : Int} (hT : 0 < T) : mkRat a T.toNat - mkRat b T.toNat * mkRat b T.toNat = mkRat (a * T - b * b) (T.toNat * T.toNat) := by
  have h0 : T.toNat ≠ 0 := by omega
  have hc : (T.toNat : Int) = T := Int.toNat_of_nonneg (by omega)
  rw [Rat.mkRat_mul_mkRat, Rat.sub_eq_add_neg, Rat.neg_mkRat, Rat.mkRat_add_mkRat _ _ h0 (Nat.mul_ne_zero h0 h0), Rat.mkRat_eq_iff (Nat.mul_ne_zero h0 (Nat.mul_ne_zero h0 h0)) (Nat.mul_ne_zero h0 h0)]
  simp only [Int.natCast_mul, hc]
  grind
theorem cmp_mk0 {n : Int} {d : Nat} (hd : d ≠ 0) : cmpQ (mkRat n d) 0 = cmpI n 0 := by
  have h := cmpQ_mk (n := n) (n' := 0) (d := d) (d' := 1) hd (by decide)
  rw [Rat.zero_mkRat] at h
  rw [← h]
  congr 1 <;> omega
theorem cmp_mk1 {n m : Int} {T : Int} (hT : 0 < T) : cmpQ (mkRat n T.toNat) ((m : Int) : Rat) = cmpI n (m * T) := by
  have h := cmpQ_mk (n := n) (n' := m) (d := T.toNat) (d' := 1) (by omega) (by decide)
  rw [mkRat_int] at h
  rw [← h]
  have : (T.toNat : Int) = T := Int.toNat_of_nonneg (by omega)
  rw [this]
  congr 1
  omega
/-- What EquateSpread says of a table that is in order. -/
theorem spread_says {f : List Int} (h : validE f = 0) : 0 ≤ cmpQ (momM f) 0 ∧ cmpQ (momM f) (((f.length : Int) - 1 : Int) : Rat) ≤ 0 ∧ 0 ≤ cmpQ (momV f) 0 ∧ (cmpQ (momV f) 0 = 0 ↔ cnt f f.length = 1) := by
  obtain ⟨h1, h2, h3⟩ := valid_parts h
  obtain ⟨a1, a2, a3, a4⟩ := spread_all h2 f.length (Nat.le_refl _)
  have s5 := (spread_from h2 f.length (Nat.le_refl _) (f.length : Int) (Int.le_refl _)).2.2.2.2.1
  have s3 := (spread_from h2 f.length (Nat.le_refl _) (f.length : Int) (Int.le_refl _)).2.2.1
  have hc : cnt f f.length ≠ 0 := fun hc => by have := (s5 hc).1; omega
  unfold momM momV varQ meanQ
  rw [if_pos h, if_pos h, var_mk h3, cmp_mk0 (by omega), cmp_mk1 h3, cmp_mk0 (Nat.mul_ne_zero (by omega) (by omega))]
  unfold cmpI
  refine ⟨?_, ?_, ?_, ?_⟩
  · split
    · omega
    · split <;> decide
  · split
    · decide
    · split
      · decide
      · omega
  · split
    · omega
    · split <;> decide
  · split
    · omega
    · split
      · rename_i hz
        exact ⟨fun _ => by have := a2.1 hz; omega, fun _ => rfl⟩
      · rename_i hz
        exact ⟨fun h => absurd h (by decide), fun h => absurd (a2.2 (by omega)) hz⟩

end Go.Proofs.YtocpncjmcaecoaaGreat.M
