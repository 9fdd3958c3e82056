/- Rounding in plain numbers: a greater number is never rounded to a smaller one. -/
import Derived.Test.YtgdlnmhpnlmofaaDec
namespace Go.Proofs.Ytgdlnmhpnlmofaa.M
set_option maxRecDepth 10000
open Go.RowKit
set_option linter.unusedVariables false
theorem cmpQ_le' {p q : Rat} : cmpQ p q ≤ 0 ↔ ¬ q < p := by
  unfold cmpQ
  by_cases h : p < q
  · rw [if_pos h]
    exact ⟨fun _ h2 => by grind, fun _ => by decide⟩
  · rw [if_neg h]
    by_cases h2 : p = q
    · rw [if_pos h2, h2]
      exact ⟨fun _ => Rat.lt_irrefl, fun _ => by decide⟩
    · rw [if_neg h2]
      constructor
      · intro h3; omega
      · intro h3
        exact absurd (Rat.le_antisymm (Rat.not_lt.1 h3) (Rat.not_lt.1 h)) h2
theorem rnd_le (q : Rat) (mode : Int) : q.num / q.den ≤ rnd q mode ∧ rnd q mode ≤ q.num / q.den + 1 := by
  unfold rnd
  split
  · omega
  · split <;> omega
theorem rup_mono {mode s t f : Int} {n : Bool} (hm : 1 ≤ mode ∧ mode ≤ 7) (h : s ≤ t) : rup mode s n f = true → rup mode t n f = true := by
  rcases (show mode = 1 ∨ mode = 2 ∨ mode = 3 ∨ mode = 4 ∨ mode = 5 ∨ mode = 6 ∨ mode = 7 by omega) with rfl | rfl | rfl | rfl | rfl | rfl | rfl
  all_goals by_cases hs : s = 0
  all_goals by_cases ht : t = 0
  all_goals simp [rup, hs, ht]
  all_goals first | omega | (intros; omega)
theorem rnd_mono {p q : Rat} {mode : Int} (h : p ≤ q) (hm : 1 ≤ mode ∧ mode ≤ 7) : rnd p mode ≤ rnd q mode := by
  have hp : 0 < (p.den : Int) := by have := p.den_nz; omega
  have hq : 0 < (q.den : Int) := by have := q.den_nz; omega
  have hle := (Rat.le_iff p q).1 h
  have a1 := Int.mul_ediv_add_emod p.num p.den
  have a2 := Int.emod_nonneg p.num (show (p.den : Int) ≠ 0 by omega)
  have a3 := Int.emod_lt_of_pos p.num hp
  have b1 := Int.mul_ediv_add_emod q.num q.den
  have b2 := Int.emod_nonneg q.num (show (q.den : Int) ≠ 0 by omega)
  have b3 := Int.emod_lt_of_pos q.num hq
  have hfl : p.num / p.den ≤ q.num / q.den := by
    have h1 : p.num / p.den = (p.num * q.den) / (p.den * q.den) := (Int.mul_ediv_mul_of_pos_left _ _ hq).symm
    have h2 : q.num / q.den = (q.num * p.den) / (p.den * q.den) := by rw [Int.mul_comm (p.den : Int)]; exact (Int.mul_ediv_mul_of_pos_left _ _ hp).symm
    rw [h1, h2]
    exact Int.ediv_le_ediv (Int.mul_pos hp hq) hle
  have r1 := rnd_le p mode
  have r2 := rnd_le q mode
  rcases Int.lt_or_le (p.num / p.den) (q.num / q.den) with hlt | hge
  · omega
  · have hf : p.num / p.den = q.num / q.den := by omega
    unfold rnd
    rw [hf] at a1 ⊢
    generalize hdp : (p.den : Int) = dp at *
    generalize hdq : (q.den : Int) = dq at *
    generalize q.num / dq = f at *
    generalize hrp : p.num % dp = rp at *
    generalize hrq : q.num % dq = rq at *
    -- the rests, crosswise
    have hx : rp * dq ≤ rq * dp := by
      have e1 : p.num * dq = dp * f * dq + rp * dq := by rw [← Int.add_mul, a1]
      have e2 : q.num * dp = dq * f * dp + rq * dp := by rw [← Int.add_mul, b1]
      have e3 : dp * f * dq = dq * f * dp := by simp only [Int.mul_comm, Int.mul_left_comm]
      omega
    have hneg : q.num < 0 → p.num < 0 := by
      intro h1
      have h2 : f < 0 := by
        rcases Int.lt_or_le f 0 with h3 | h3
        · exact h3
        · have := Int.mul_nonneg (Int.le_of_lt hq) h3
          omega
      have h3 : dp * f ≤ dp * (-1) := Int.mul_le_mul_of_nonneg_left (by omega) (Int.le_of_lt hp)
      omega
    have hpos : p.num < 0 → rp ≠ 0 → q.num < 0 := by
      intro h1 _
      have h2 : f < 0 := by
        rcases Int.lt_or_le f 0 with h3 | h3
        · exact h3
        · have := Int.mul_nonneg (Int.le_of_lt hp) h3
          omega
      have h3 : dq * f ≤ dq * (-1) := Int.mul_le_mul_of_nonneg_left (by omega) (Int.le_of_lt hq)
      omega
    by_cases hr : rp = 0
    · rw [if_pos hr]
      split
      · omega
      · split <;> omega
    · have hrq0 : rq ≠ 0 := by
        intro h1
        rw [h1, Int.zero_mul] at hx
        have := Int.mul_pos (show 0 < rp by omega) hq
        omega
      rw [if_neg hr, if_neg hrq0]
      have key : rup mode (cmpI (rp + rp) dp) (decide (p.num < 0)) f = true → rup mode (cmpI (rq + rq) dq) (decide (q.num < 0)) f = true := by
        have hn : decide (p.num < 0) = decide (q.num < 0) := decide_eq_decide.2 ⟨fun h1 => hpos h1 hr, hneg⟩
        rw [hn]
        have h1 : (rp + rp) * dq = rp * dq + rp * dq := Int.add_mul _ _ _
        have h2 : (rq + rq) * dp = rq * dp + rq * dp := Int.add_mul _ _ _
        have hhalf : cmpI (rp + rp) dp ≤ cmpI (rq + rq) dq := by
          rcases (show rp + rp < dp ∨ rp + rp = dp ∨ dp < rp + rp by omega) with h3 | h3 | h3
          · rw [cmpI_lt h3]; unfold cmpI; split <;> (try split) <;> omega
          · rw [cmpI_eq h3]
            have h4 : dq * dp ≤ (rq + rq) * dp := by rw [h2]; rw [h3] at h1; rw [Int.mul_comm dq]; omega
            have h5 := Int.le_of_mul_le_mul_right h4 hp
            unfold cmpI; split <;> (try split) <;> omega
          · rw [cmpI_gt h3]
            have h4 : dq * dp < (rq + rq) * dp := by
              have h5 := Int.mul_lt_mul_of_pos_right h3 hq
              rw [Int.mul_comm dq]
              omega
            have h5 := Int.lt_of_mul_lt_mul_right h4 (Int.le_of_lt hp)
            rw [cmpI_gt h5]
            omega
        generalize cmpI (rp + rp) dp = s at *
        generalize cmpI (rq + rq) dq = t at *
        exact rup_mono hm hhalf
      split
      · rw [if_pos (key (by assumption))]
        omega
      · split <;> omega

end Go.Proofs.Ytgdlnmhpnlmofaa.M
