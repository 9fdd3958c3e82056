/- Frequencies times a number; a form whose scores are raised by 1: in plain numbers. -/
import Derived.Test.YtocpncjmcaecoaaIdeP
namespace Go.Proofs.Ytocpncjmcaecoaa.M
set_option maxRecDepth 10000
open Go.RowKit
set_option linter.unusedVariables false
set_option linter.unusedSimpArgs false
/-- Every frequency is c times as great. -/
def timesL (f g : List Int) (c : Int) : Prop := g.length = f.length ∧ ∀ i, i < f.length → dg g i = dg f i * c
theorem times_tot {f g : List Int} {c : Int} (h : timesL f g c) : ∀ k, k ≤ f.length → tot g k = tot f k * c
  | 0, _ => by show (0 : Int) = 0 * c; rw [Int.zero_mul]
  | k + 1, hk => by rw [tot_succ, tot_succ, times_tot h k (by omega), h.2 k (by omega), Int.add_mul]
theorem times_sm {f g : List Int} {c : Int} (h : timesL f g c) : ∀ k, k ≤ f.length → sm g k = sm f k * c ∧ sq g k = sq f k * c
  | 0, _ => by
    constructor
    · show (0 : Int) = 0 * c; rw [Int.zero_mul]
    · show (0 : Int) = 0 * c; rw [Int.zero_mul]
  | k + 1, hk => by
    obtain ⟨h1, h2⟩ := times_sm h k (by omega)
    refine ⟨?_, ?_⟩
    · rw [sm_succ, sm_succ, h1, h.2 k (by omega)]
      grind
    · rw [sq_succ, sq_succ, h2, h.2 k (by omega)]
      grind
theorem times_BQ {f g : List Int} {c : Int} (h : timesL f g c) (y : Rat) : ∀ k, k ≤ f.length → BQ g k y = BQ f k y * ((c : Int) : Rat)
  | 0, _ => by show (0 : Rat) = 0 * _; rw [Rat.zero_mul]
  | k + 1, hk => by
    rw [BQ_succ, BQ_succ, times_BQ h y k (by omega), h.2 k (by omega), Rat.intCast_mul]
    grind
theorem div_times {a T c : Rat} (hT : T ≠ 0) (hc : c ≠ 0) : a * c / (T * c) = a / T := by
  have h1 : T * c ≠ 0 := fun h => by
    have h2 : T * c * c⁻¹ = 0 := by rw [h, Rat.zero_mul]
    rw [Rat.mul_assoc, Rat.mul_inv_cancel _ hc, Rat.mul_one] at h2
    exact hT h2
  have h2 : a / T * (T * c) = a * c := by
    rw [← Rat.mul_assoc, Rat.mul_comm (a / T) T, div_mul_same hT]
  rw [← h2]
  exact mul_div_same h1
theorem times_rank {f g : List Int} {c : Int} (h : timesL f g c) (hc : 0 < c) (hf : validE f = 0) (hg : validE g = 0) (x : Rat) : rankQ g x = rankQ f x := by
  have hT := icast_pos (valid_parts hf).2.2
  have hcp := icast_pos hc
  rw [rank_BQ hf, rank_BQ hg, h.1, times_BQ h _ f.length (Nat.le_refl _), times_tot h f.length (Nat.le_refl _), Rat.intCast_mul]
  exact div_times (fun h4 => by grind) (fun h4 => by grind)
theorem times_want {f g : List Int} {c : Int} (h : timesL f g c) (p : Rat) : wantQ g p = wantQ f p * ((c : Int) : Rat) := by
  unfold wantQ
  rw [h.1, times_tot h f.length (Nat.le_refl _), Rat.intCast_mul, Rat.mul_assoc]
theorem lt_times {a b c : Rat} (hc : 0 < c) : a * c < b * c ↔ a < b := Rat.mul_lt_mul_right hc
theorem times_invK {f g : List Int} {c : Int} (h : timesL f g c) (hc : 0 < c) {w : Rat} {k : Nat} (hk : InvK f w k) : InvK g (w * ((c : Int) : Rat)) k := by
  obtain ⟨h1, h2, h3, h4⟩ := hk
  have hcp := icast_pos hc
  refine ⟨by rw [h.1]; exact h1, by rw [h.2 k h1]; exact Int.mul_ne_zero h2 (by omega), ?_, fun j hj => ?_⟩
  · rw [times_tot h (k + 1) h1, Rat.intCast_mul, lt_times hcp]
    exact h3
  · rw [times_tot h (j + 1) (by omega), Rat.intCast_mul, lt_times hcp, h.2 j (by omega)]
    rcases h4 j hj with h5 | h5
    · exact .inl (by rw [h5, Int.zero_mul])
    · exact .inr h5
theorem times_invV {f g : List Int} {c : Int} (h : timesL f g c) (hc : 0 < c) {w : Rat} {k : Nat} (hk : InvK f w k) : invV g (w * ((c : Int) : Rat)) k = invV f w k := by
  obtain ⟨h1, h2, h3, h4⟩ := hk
  have hcp := icast_pos hc
  unfold invV
  rw [times_tot h k (by omega), h.2 k h1, Rat.intCast_mul, Rat.intCast_mul]
  rw [show w * ((c : Int) : Rat) - ((tot f k : Int) : Rat) * ((c : Int) : Rat) = (w - ((tot f k : Int) : Rat)) * ((c : Int) : Rat) by grind]
  rw [div_times (fun h5 => h2 (Rat.intCast_inj.1 (show ((dg f k : Int) : Rat) = ((0 : Int) : Rat) from h5))) (fun h4 => by grind)]
theorem times_inv {f g : List Int} {c : Int} (h : timesL f g c) (hc : 0 < c) (hf : validE f = 0) (hg : validE g = 0) {p q q' : Rat} {e e' : Int} (h1 : InvR f p q e) (h2 : InvR g p q' e') : q' = q ∧ e' = e := by
  by_cases hp : p < 0 ∨ 1 < p
  · have k1 : InvR f p 0 3 := .inr ⟨hf, .inl ⟨hp, rfl, rfl⟩⟩
    have k2 : InvR g p 0 3 := .inr ⟨hg, .inl ⟨hp, rfl, rfl⟩⟩
    obtain ⟨a1, a2⟩ := invR_one k1 h1
    obtain ⟨b1, b2⟩ := invR_one k2 h2
    exact ⟨b1.trans a1.symm, b2.trans a2.symm⟩
  · obtain ⟨k, hk⟩ := inv_there hf hp
    have hk2 := times_invK h hc hk
    rw [← times_want h] at hk2
    obtain ⟨a1, a2⟩ := invR_one (inv_hit hf hp hk) h1
    obtain ⟨b1, b2⟩ := invR_one (inv_hit hg hp hk2) h2
    refine ⟨?_, b2.trans a2.symm⟩
    rw [a1, b1, times_want h]
    exact times_invV h hc hk
theorem times_mom {f g : List Int} {c : Int} (h : timesL f g c) (hc : 0 < c) (hf : validE f = 0) (hg : validE g = 0) : momM g = momM f ∧ momV g = momV f := by
  have hT := (valid_parts hf).2.2
  have key : ∀ S : Int, mkRat (S * c) (tot f f.length * c).toNat = mkRat S (tot f f.length).toNat := fun S => by
    have hTc := Int.mul_pos hT hc
    have e1 : ((tot f f.length * c).toNat : Int) = tot f f.length * c := Int.toNat_of_nonneg (by omega)
    have e2 : ((tot f f.length).toNat : Int) = tot f f.length := Int.toNat_of_nonneg (by omega)
    rw [Rat.mkRat_eq_iff (by omega) (by omega), e1, e2]
    grind
  unfold momM momV varQ meanQ
  rw [if_pos hf, if_pos hf, if_pos hg, if_pos hg, h.1, times_tot h f.length (Nat.le_refl _), (times_sm h f.length (Nat.le_refl _)).1, (times_sm h f.length (Nat.le_refl _)).2, key, key]
  exact ⟨rfl, rfl⟩
/-- A form whose scores are raised by 1. -/
theorem dg_zero (f : List Int) : dg (0 :: f) 0 = 0 := rfl
theorem dg_up (f : List Int) (i : Nat) : dg (0 :: f) (i + 1) = dg f i := dg_cons _ _ _
theorem tot_up (f : List Int) : ∀ k, tot (0 :: f) (k + 1) = tot f k
  | 0 => by rw [tot_succ, tot_zero, dg_zero, tot_zero]; rfl
  | k + 1 => by rw [tot_succ, tot_up f k, dg_up, tot_succ]
theorem valid_up {f : List Int} (h : validE f = 0) : (f.length = 61 ∧ validE (0 :: f) = 5) ∨ (f.length < 61 ∧ validE (0 :: f) = 0) := by
  obtain ⟨h1, h2, h3⟩ := valid_parts h
  rcases Nat.lt_or_ge f.length 61 with hl | hl
  · refine .inr ⟨hl, validE_ok (by rw [List.length_cons]; omega) (fun i hi => ?_) ?_⟩
    · match i with
      | 0 => rw [dg_zero]; omega
      | i + 1 => rw [dg_up]; exact h2 i (by rw [List.length_cons] at hi; omega)
    · rw [List.length_cons, tot_up]
      omega
  · exact .inl ⟨by omega, validE_long (by rw [List.length_cons]; omega)⟩
theorem up_score {f : List Int} (h : validE f = 0) (hu : validE (0 :: f) = 0) {k : Nat} (hk : k < f.length) (hp : 0 < dg f k) : ScoreR (0 :: f) f ((k + 1 : Nat) : Int) ((k : Int) : Rat) 0 := by
  have hT := icast_pos (valid_parts h).2.2
  have hne : ((tot f f.length : Int) : Rat) ≠ 0 := fun h4 => by grind
  have hr : rankQ (0 :: f) (((k + 1 : Nat) : Int) : Rat) = rankQ f ((k : Int) : Rat) := by
    rw [rank_at hu (by rw [List.length_cons]; omega), rank_at h hk, tot_up, dg_up, List.length_cons, tot_up]
  have hw : wantQ f (rankQ f ((k : Int) : Rat)) = ((tot f k : Int) : Rat) + ((dg f k : Int) : Rat) * mkRat 1 2 := by
    unfold wantQ
    rw [rank_at h hk, Rat.mul_comm]
    exact div_mul_same hne
  obtain ⟨a1, a2⟩ := inv_mid h hk hp hw
  refine .inr ⟨by unfold pairE; rw [if_pos hu]; exact h, .inr ⟨by rw [List.length_cons]; omega, ?_⟩⟩
  rw [hr]
  have := inv_hit h (rank_ok h ((k : Int) : Rat)) a1
  rwa [a2] at this
theorem tab_up {f : List Int} (h : validE f = 0) (hu : validE (0 :: f) = 0) {rs : List Rt} {e : Int} (ht : TabR (0 :: f) f rs e) {k : Nat} {r : Rt} (hr : rs[k + 1]? = some r) (hk : k < f.length) (hp : 0 < dg f k) : nfR r ((k : Int) : Rat) := by
  rcases ht with ⟨_, h1, _⟩ | ⟨h0, _, h2, h3⟩
  · rw [h1] at hr
    cases hr
  · obtain ⟨r', q, e1, k1, k2, k3⟩ := h3 (k + 1) (by rw [List.length_cons]; omega)
    rw [hr] at k1
    injection k1 with k1
    subst k1
    obtain ⟨rfl, _⟩ := scoreR_one (up_score h hu hk hp) k3
    exact k2

end Go.Proofs.Ytocpncjmcaecoaa.M
