/- Ranks and inverse ranks in plain numbers. -/
import Derived.Test.YtocpncjmcaecoaaBq
namespace Go.Proofs.Ytocpncjmcaecoaa.M
set_option maxRecDepth 10000
open Go.RowKit
set_option linter.unusedVariables false
set_option linter.unusedSimpArgs false
theorem div_le_div {a b T : Rat} (hT : 0 < T) (h : a ≤ b) : a / T ≤ b / T := by
  refine Rat.not_lt.1 fun h2 => ?_
  rw [Rat.div_lt_iff hT] at h2
  have hne : T ≠ 0 := fun h3 => by grind
  have h4 : a / T * T = a := by rw [Rat.div_def, Rat.mul_assoc, Rat.inv_mul_cancel _ hne, Rat.mul_one]
  rw [h4] at h2
  grind
theorem mul_div_same {a T : Rat} (hT : T ≠ 0) : a * T / T = a := by rw [Rat.div_def, Rat.mul_assoc, Rat.mul_inv_cancel _ hT, Rat.mul_one]
theorem div_mul_same {a T : Rat} (hT : T ≠ 0) : T * (a / T) = a := by rw [Rat.div_def, Rat.mul_comm a, ← Rat.mul_assoc, Rat.mul_inv_cancel _ hT, Rat.one_mul]
theorem icast_pos {a : Int} (h : 0 < a) : (0 : Rat) < ((a : Int) : Rat) := (Rat.intCast_lt_intCast (a := 0)).2 h
theorem shares_says {f : List Int} (h : validE f = 0) {x y : Rat} (hxy : x ≤ y) : 0 ≤ rankQ f x ∧ rankQ f x ≤ rankQ f y ∧ rankQ f y ≤ 1 := by
  obtain ⟨h1, h2, h3⟩ := valid_parts h
  have hT := icast_pos h3
  have hne : ((tot f f.length : Int) : Rat) ≠ 0 := fun h4 => by grind
  rw [rank_BQ h, rank_BQ h]
  have a1 := BQ_in h2 (x + mkRat 1 2) f.length (Nat.le_refl _)
  have a2 := BQ_in h2 (y + mkRat 1 2) f.length (Nat.le_refl _)
  have a3 := BQ_mono h2 (y := x + mkRat 1 2) (z := y + mkRat 1 2) (by grind) f.length (Nat.le_refl _)
  refine ⟨?_, div_le_div hT a3, ?_⟩
  · have := div_le_div hT a1.1
    rwa [Rat.div_def 0, Rat.zero_mul] at this
  · have := div_le_div hT a2.2
    rwa [Rat.div_def _ ((tot f f.length : Int) : Rat), Rat.div_def, Rat.mul_inv_cancel _ hne] at this
theorem least {P : Nat → Prop} : ∀ n, (∃ j, j < n ∧ P j) → ∃ k, k < n ∧ P k ∧ ∀ j, j < k → ¬ P j
  | 0, h => by obtain ⟨j, hj, _⟩ := h; omega
  | n + 1, h => by
    by_cases h1 : ∃ j, j < n ∧ P j
    · obtain ⟨k, k1, k2, k3⟩ := least n h1
      exact ⟨k, by omega, k2, k3⟩
    · obtain ⟨j, hj, hp⟩ := h
      have hjn : j = n := by
        rcases Nat.lt_or_ge j n with h2 | h2
        · exact absurd ⟨j, h2, hp⟩ h1
        · omega
      subst hjn
      exact ⟨j, by omega, hp, fun i hi hpi => h1 ⟨i, hi, hpi⟩⟩
theorem want_in {f : List Int} {p : Rat} (h : validE f = 0) (hp : ¬ (p < 0 ∨ 1 < p)) : 0 ≤ wantQ f p ∧ wantQ f p ≤ ((tot f f.length : Int) : Rat) := by
  obtain ⟨h1, h2, h3⟩ := valid_parts h
  have hT := Rat.le_of_lt (icast_pos h3)
  have p0 : 0 ≤ p := Rat.not_lt.1 (fun h => hp (.inl h))
  have p1 : p ≤ 1 := Rat.not_lt.1 (fun h => hp (.inr h))
  unfold wantQ
  refine ⟨Rat.mul_nonneg p0 hT, ?_⟩
  have := Rat.mul_le_mul_of_nonneg_right p1 hT
  rwa [Rat.one_mul] at this
theorem inv_there {f : List Int} {p : Rat} (h : validE f = 0) (hp : ¬ (p < 0 ∨ 1 < p)) : ∃ k, InvK f (wantQ f p) k := by
  obtain ⟨h1, h2, h3⟩ := valid_parts h
  obtain ⟨w0, w1⟩ := want_in h hp
  have key : ∃ j, j < f.length ∧ (dg f j ≠ 0 ∧ ¬ ((tot f (j + 1) : Int) : Rat) < wantQ f p) := by
    refine Classical.byContradiction fun hn => ?_
    have hall : ∀ m, m ≤ f.length → tot f m = 0 ∨ ((tot f m : Int) : Rat) < wantQ f p := by
      intro m
      induction m with
      | zero => exact fun _ => .inl rfl
      | succ m ih =>
        intro hm
        by_cases hd : dg f m = 0
        · rw [tot_succ, hd, Int.add_zero]
          exact ih (by omega)
        · refine .inr (Classical.byContradiction fun h4 => hn ⟨m, by omega, hd, h4⟩)
    rcases hall f.length (Nat.le_refl _) with h4 | h4
    · omega
    · grind
  obtain ⟨k, k1, k2, k3⟩ := least f.length key
  refine ⟨k, k1, k2.1, k2.2, fun j hj => ?_⟩
  by_cases hd : dg f j = 0
  · exact .inl hd
  · exact .inr (Classical.byContradiction fun h4 => k3 j hj ⟨hd, h4⟩)
theorem tot_below {f : List Int} {w : Rat} {k : Nat} (hw : 0 ≤ w) (hk : ∀ j, j < k → dg f j = 0 ∨ ((tot f (j + 1) : Int) : Rat) < w) : ∀ m, m ≤ k → ((tot f m : Int) : Rat) ≤ w
  | 0, _ => hw
  | m + 1, h => by
    rcases hk m (by omega) with h1 | h1
    · rw [tot_succ, h1, Int.add_zero]
      exact tot_below hw hk m (by omega)
    · exact Rat.le_of_lt h1
theorem half_add (k : Nat) : mkRat (2 * (k : Int) - 1) 2 + mkRat 1 2 = ((k : Int) : Rat) := by
  rw [Rat.mkRat_add_mkRat _ _ (by decide) (by decide), ← mkRat_int, Rat.mkRat_eq_iff (by decide) (by decide)]
  omega
/-- Where a number of persons is reached. -/
theorem inv_parts {f : List Int} {w : Rat} {k : Nat} (hf : freq f) (hw : 0 ≤ w) (h : InvK f w k) : 0 < dg f k ∧ 0 ≤ (w - ((tot f k : Int) : Rat)) / ((dg f k : Int) : Rat) ∧ (w - ((tot f k : Int) : Rat)) / ((dg f k : Int) : Rat) ≤ 1 ∧ ((tot f k : Int) : Rat) + ((dg f k : Int) : Rat) * ((w - ((tot f k : Int) : Rat)) / ((dg f k : Int) : Rat)) = w := by
  obtain ⟨h1, h2, h3, h4⟩ := h
  have hp : 0 < dg f k := by have := (hf k h1).1; omega
  have hc := icast_pos hp
  have hne : ((dg f k : Int) : Rat) ≠ 0 := fun h5 => by grind
  have hlo := tot_below hw h4 k (Nat.le_refl _)
  have hhi : w ≤ ((tot f k : Int) : Rat) + ((dg f k : Int) : Rat) := by
    have := Rat.not_lt.1 h3
    rwa [tot_succ, Rat.intCast_add] at this
  refine ⟨hp, ?_, ?_, ?_⟩
  · have := div_le_div (a := 0) (b := w - ((tot f k : Int) : Rat)) hc (by grind)
    rwa [Rat.div_def 0, Rat.zero_mul] at this
  · have := div_le_div (a := w - ((tot f k : Int) : Rat)) (b := ((dg f k : Int) : Rat)) hc (by grind)
    rwa [Rat.div_def ((dg f k : Int) : Rat), Rat.mul_inv_cancel _ hne] at this
  · rw [div_mul_same hne]
    grind
theorem rank_inv {f : List Int} {p : Rat} {k : Nat} (h : validE f = 0) (hp : ¬ (p < 0 ∨ 1 < p)) (hk : InvK f (wantQ f p) k) : rankQ f (invV f (wantQ f p) k) = p := by
  obtain ⟨h1, h2, h3⟩ := valid_parts h
  obtain ⟨w0, w1⟩ := want_in h hp
  obtain ⟨a1, a2, a3, a4⟩ := inv_parts h2 w0 hk
  have hT := icast_pos h3
  have hne : ((tot f f.length : Int) : Rat) ≠ 0 := fun h4 => by grind
  rw [rank_BQ h]
  unfold invV
  rw [show mkRat (2 * (k : Int) - 1) 2 + (wantQ f p - ((tot f k : Int) : Rat)) / ((dg f k : Int) : Rat) + mkRat 1 2 = ((k : Int) : Rat) + (wantQ f p - ((tot f k : Int) : Rat)) / ((dg f k : Int) : Rat) from by rw [← half_add]; grind]
  rw [BQ_at f a2 a3 f.length hk.1, a4]
  unfold wantQ
  exact mul_div_same hne
/-- A greater number of persons is reached no earlier. -/
theorem inv_mono {f : List Int} {w w' : Rat} {k k' : Nat} (hf : freq f) (hw : 0 ≤ w) (hww : w ≤ w') (h : InvK f w k) (h' : InvK f w' k') : invV f w k ≤ invV f w' k' := by
  obtain ⟨a1, a2, a3, a4⟩ := inv_parts hf hw h
  obtain ⟨b1, b2, b3, b4⟩ := inv_parts hf (Rat.le_trans hw hww) h'
  have hle : k ≤ k' := by
    rcases Nat.lt_or_ge k' k with e | e
    · rcases h.2.2.2 k' e with h1 | h1
      · exact absurd h1 h'.2.1
      · exact absurd (Rat.not_lt.1 h'.2.2.1) (fun h2 => by grind)
    · exact e
  unfold invV
  rcases Nat.lt_or_ge k k' with e | e
  · have h1 : ((k : Int) : Rat) + 1 ≤ ((k' : Int) : Rat) := by
      rw [← icast_succ]
      exact icast_le (by omega)
    have h2 := half_add k
    have h3 := half_add k'
    grind
  · obtain rfl : k = k' := by omega
    have := div_le_div (a := w - ((tot f k : Int) : Rat)) (b := w' - ((tot f k : Int) : Rat)) (icast_pos a1) (by grind)
    grind

end Go.Proofs.Ytocpncjmcaecoaa.M
