/- What the reference's ranks and scores are worth: the program's numbers, in plain Lean. -/
import Derived.Test.YtocpncjmcaecoaaGreatBq
namespace Go.Proofs.YtocpncjmcaecoaaGreat.M
set_option maxRecDepth 10000
open Go.RowKit
set_option linter.unusedVariables false
set_option linter.unusedSimpArgs false
theorem half_up (n c : Int) : mkRat (2 * n + c) 2 = ((n : Int) : Rat) + mkRat c 2 := by
  rw [show ((n : Int) : Rat) = mkRat n 1 from (Rat.mkRat_one n).symm, Rat.mkRat_add_mkRat _ _ (by decide) (by decide)]
  congr 1
  omega
theorem half_neg : mkRat (-1) 2 = -mkRat 1 2 := by decide +kernel
theorem half_two2 : mkRat 1 2 + mkRat 1 2 = 1 := by decide +kernel
theorem mul_mk1 (a : Rat) {n : Int} (h : 0 < n) : a * mkRat 1 n.toNat = a / ((n : Int) : Rat) := by
  have h1 : ((n : Int) : Rat) ≠ 0 := fun h4 => by
    have h5 := Rat.intCast_inj.1 (show ((n : Int) : Rat) = ((0 : Int) : Rat) from h4)
    omega
  have e : ((n.toNat : Nat) : Int) = n := Int.toNat_of_nonneg (by omega)
  have h2 : mkRat 1 n.toNat * ((n : Int) : Rat) = 1 := by
    rw [show ((n : Int) : Rat) = mkRat n 1 from (Rat.mkRat_one n).symm, Rat.mkRat_mul_mkRat, show (1 : Rat) = mkRat 1 1 from rfl, Rat.mkRat_eq_iff (by omega) (by decide)]
    omega
  have h3 : mkRat 1 n.toNat = ((n : Int) : Rat)⁻¹ := by
    rw [← Rat.mul_one (mkRat 1 n.toNat), ← Rat.mul_inv_cancel _ h1, ← Rat.mul_assoc, h2, Rat.one_mul]
  rw [h3, Rat.div_def]
/-- What the reference's Rank answers at a score. -/
def rrankV (f : List Int) (x : Rat) (k : Nat) : Rat := (((tot f k : Int) : Rat) + ((dg f k : Int) : Rat) * (x - mkRat (2 * (k : Int) - 1) 2)) * mkRat 1 (tot f f.length).toNat
theorem rrank_low {f : List Int} {x : Rat} (hv : validE f = 0) (h : cmpQ x (mkRat (-1) 2) ≤ 0) : rankQ f x = 0 := by
  rw [cmpQ_leE, half_neg] at h
  rw [rank_BQ hv, BQ_low f (by grind), Rat.div_def, Rat.zero_mul]
theorem rrank_at {f : List Int} {x : Rat} {k : Nat} (hv : validE f = 0) (hk : k < f.length) (h0' : 0 < cmpQ x (mkRat (-1) 2)) (h1' : ∀ j : Nat, j < k → 0 < cmpQ x (mkRat (2 * (j : Int) + 1) 2)) (h2 : cmpQ x (mkRat (2 * (k : Int) + 1) 2) ≤ 0) : rankQ f x = rrankV f x k := by
  have h0 : ¬ cmpQ x (mkRat (-1) 2) ≤ 0 := by omega
  have h1 : ∀ j : Nat, j < k → ¬ cmpQ x (mkRat (2 * (j : Int) + 1) 2) ≤ 0 := fun j hj => by have := h1' j hj; omega
  have hT := (valid_parts hv).2.2
  have e0 : mkRat (2 * (k : Int) - 1) 2 = ((k : Int) : Rat) - mkRat 1 2 := by
    rw [show 2 * (k : Int) - 1 = 2 * (k : Int) + -1 by omega, half_up, half_neg, Rat.sub_eq_add_neg]
  have hh := half_two2
  have hd0 : 0 ≤ x - mkRat (2 * (k : Int) - 1) 2 := by
    rw [e0]
    rcases Nat.eq_zero_or_pos k with rfl | hp
    · rw [cmpQ_leE, half_neg] at h0
      have h3 := Classical.not_not.1 h0
      have : (((0 : Nat) : Int) : Rat) = 0 := rfl
      rw [this]
      grind
    · have h3 := h1 (k - 1) (by omega)
      rw [cmpQ_leE, half_up] at h3
      have h4 := Classical.not_not.1 h3
      have e1 : (((k - 1 : Nat) : Int) : Rat) + 1 = ((k : Int) : Rat) := by
        rw [← icast_succ]
        congr 2
        omega
      grind
  have hd1 : x - mkRat (2 * (k : Int) - 1) 2 ≤ 1 := by
    rw [cmpQ_leE, half_up] at h2
    rw [e0]
    have h3 := Rat.not_lt.1 h2
    grind
  rw [rank_BQ hv, show x + mkRat 1 2 = ((k : Int) : Rat) + (x - mkRat (2 * (k : Int) - 1) 2) by rw [e0]; grind, BQ_at f hd0 hd1 f.length hk]
  unfold rrankV
  rw [mul_mk1 _ hT]
theorem rrank_end {f : List Int} {x : Rat} (hv : validE f = 0) (h1' : ∀ j : Nat, j < f.length → 0 < cmpQ x (mkRat (2 * (j : Int) + 1) 2)) : rankQ f x = 1 := by
  have h1 : ∀ j : Nat, j < f.length → ¬ cmpQ x (mkRat (2 * (j : Int) + 1) 2) ≤ 0 := fun j hj => by have := h1' j hj; omega
  have hT := (valid_parts hv).2.2
  have h0 : ((tot f f.length : Int) : Rat) ≠ 0 := fun h4 => by
    have h5 := Rat.intCast_inj.1 (show ((tot f f.length : Int) : Rat) = ((0 : Int) : Rat) from h4)
    omega
  have hl : 0 < f.length := by
    rcases Nat.eq_zero_or_pos f.length with h | h
    · rw [h, tot_zero] at hT
      exact absurd hT (by decide)
    · exact h
  have h3 := h1 (f.length - 1) (by omega)
  rw [cmpQ_leE, half_up] at h3
  have h4 := Classical.not_not.1 h3
  have e1 : (((f.length - 1 : Nat) : Int) : Rat) + 1 = ((f.length : Int) : Rat) := by
    rw [← icast_succ]
    congr 2
    omega
  have hh := half_two2
  rw [rank_BQ hv, BQ_full f f.length _ (by grind), Rat.div_def, Rat.mul_inv_cancel _ h0]
/-- What the reference's Inverse answers at a score. -/
def rinvV (f : List Int) (want : Rat) (k : Nat) : Rat := mkRat (2 * (k : Int) - 1) 2 + (want - ((tot f k : Int) : Rat)) * mkRat 1 (dg f k).toNat
theorem rinv_eq {f : List Int} {want : Rat} {k : Nat} (h : 0 < dg f k) : rinvV f want k = invV f want k := by
  unfold rinvV invV
  rw [mul_mk1 _ h]
/-- Two tables of the same forms hold the same numbers. -/
theorem tab_same {f g : List Int} {rs ss : List Rt} {e e' : Int} (h : TabR f g rs e) (h' : TabR f g ss e') : e' = e ∧ nfL rs (rs.map Rt.q) ∧ nfL ss (rs.map Rt.q) := by
  rcases h with ⟨h0, h1, h2⟩ | ⟨h0, h1, h2, h3⟩
  · rcases h' with ⟨k0, k1, k2⟩ | ⟨k0, _⟩
    · subst h1 k1
      refine ⟨k2.trans h2.symm, ⟨rfl, fun j r hj => by simp at hj⟩, ⟨rfl, fun j r hj => by simp at hj⟩⟩
    · exact absurd k0 h0
  · rcases h' with ⟨k0, _⟩ | ⟨k0, k1, k2, k3⟩
    · exact absurd h0 k0
    · refine ⟨k1.trans h1.symm, ⟨by rw [List.length_map], fun j r hj => ?_⟩, ⟨by rw [List.length_map, k2, h2], fun j r hj => ?_⟩⟩
      · have hl := (List.getElem?_eq_some_iff.1 hj).1
        obtain ⟨r', q, e1, a1, a2, a3⟩ := h3 j (by omega)
        rw [hj] at a1
        injection a1 with a1
        subst a1
        exact ⟨r.q, by rw [List.getElem?_map, hj]; rfl, by rw [a2.q]; exact a2⟩
      · have hl := (List.getElem?_eq_some_iff.1 hj).1
        obtain ⟨r1, q1, e1, a1, a2, a3⟩ := h3 j (by omega)
        obtain ⟨r2, q2, e2, b1, b2, b3⟩ := k3 j (by omega)
        rw [hj] at b1
        injection b1 with b1
        subst b1
        obtain ⟨rfl, _⟩ := scoreR_one a3 b3
        exact ⟨r1.q, by rw [List.getElem?_map, a1]; rfl, by rw [a2.q]; exact b2⟩

end Go.Proofs.YtocpncjmcaecoaaGreat.M
