/- Equated scores in plain numbers: a form equated to itself, and their order. -/
import Derived.Test.YtocpncjmcaecoaaShaP
namespace Go.Proofs.Ytocpncjmcaecoaa.M
set_option maxRecDepth 10000
open Go.RowKit
set_option linter.unusedVariables false
set_option linter.unusedSimpArgs false
theorem pair_self (f : List Int) : pairE f f = validE f := by
  unfold pairE
  split
  · rfl
  · rfl
theorem pair_ok {f g : List Int} (h : pairE f g = 0) : validE f = 0 ∧ validE g = 0 := by
  unfold pairE at h
  split at h
  · exact ⟨by assumption, h⟩
  · contradiction
theorem tab_err {f g : List Int} {rs : List Rt} {e : Int} (h : TabR f g rs e) : e = pairE f g := by
  rcases h with ⟨_, _, h⟩ | ⟨h1, h2, _⟩
  · exact h
  · rw [h1, h2]
theorem tab_nil {f g : List Int} {rs : List Rt} {e : Int} (h : TabR f g rs e) (h0 : pairE f g ≠ 0) : rs = [] := by
  rcases h with ⟨_, h, _⟩ | ⟨h1, _⟩
  · exact h
  · exact absurd h1 h0
theorem tab_len {f g : List Int} {rs : List Rt} {e : Int} (h : TabR f g rs e) (h0 : pairE f g = 0) : rs.length = f.length := by
  rcases h with ⟨h1, _⟩ | ⟨_, _, h, _⟩
  · exact absurd h0 h1
  · exact h
theorem tot_mono {f : List Int} (h : freq f) {a : Nat} : ∀ b, a ≤ b → b ≤ f.length → tot f a ≤ tot f b
  | 0, h1, _ => by
    obtain rfl : a = 0 := by omega
    exact Int.le_refl _
  | b + 1, h1, h2 => by
    by_cases e : a = b + 1
    · rw [e]; exact Int.le_refl _
    · have := tot_mono h (a := a) b (by omega) (by omega)
      have h3 := (h b (by omega)).1
      rw [tot_succ]
      omega
theorem half_in : (0 : Rat) ≤ mkRat 1 2 ∧ mkRat 1 2 ≤ 1 := by decide +kernel
theorem half_two (a : Rat) : a * mkRat 1 2 + a * mkRat 1 2 = a := by
  have h : mkRat 1 2 + mkRat 1 2 = 1 := by decide +kernel
  rw [← Rat.mul_add, h, Rat.mul_one]
/-- The rank at a score. -/
theorem rank_at {f : List Int} (h : validE f = 0) {k : Nat} (hk : k < f.length) : rankQ f ((k : Int) : Rat) = (((tot f k : Int) : Rat) + ((dg f k : Int) : Rat) * mkRat 1 2) / ((tot f f.length : Int) : Rat) := by
  rw [rank_BQ h, BQ_at f half_in.1 half_in.2 f.length hk]
theorem rank_ok {f : List Int} (h : validE f = 0) (x : Rat) : ¬ (rankQ f x < 0 ∨ 1 < rankQ f x) := by
  have h1 := shares_says h (x := x) (y := x) Rat.le_refl
  intro h2
  rcases h2 with h2 | h2
  · exact absurd h1.1 (Rat.not_le.2 h2)
  · exact absurd h1.2.2 (Rat.not_le.2 h2)
/-- A number of persons in the middle of a score that persons have. -/
theorem inv_mid {g : List Int} (h : validE g = 0) {k : Nat} (hk : k < g.length) (hp : 0 < dg g k) {w : Rat} (hw : w = ((tot g k : Int) : Rat) + ((dg g k : Int) : Rat) * mkRat 1 2) : InvK g w k ∧ invV g w k = ((k : Int) : Rat) := by
  obtain ⟨h1, h2, h3⟩ := valid_parts h
  have hc := icast_pos hp
  have hne : ((dg g k : Int) : Rat) ≠ 0 := fun h5 => by grind
  have h2a := half_two ((dg g k : Int) : Rat)
  have hpos : 0 < ((dg g k : Int) : Rat) * mkRat 1 2 := by grind
  refine ⟨⟨hk, by omega, ?_, fun j hj => ?_⟩, ?_⟩
  · rw [hw, tot_succ, Rat.intCast_add]
    refine Rat.not_lt.2 ?_
    grind
  · refine .inr ?_
    have := icast_le (tot_mono h2 (a := j + 1) k (by omega) (by omega))
    rw [hw]
    grind
  · have h4 : (w - ((tot g k : Int) : Rat)) / ((dg g k : Int) : Rat) = mkRat 1 2 := by
      rw [hw, show ((tot g k : Int) : Rat) + ((dg g k : Int) : Rat) * mkRat 1 2 - ((tot g k : Int) : Rat) = mkRat 1 2 * ((dg g k : Int) : Rat) by grind]
      exact mul_div_same hne
    unfold invV
    rw [h4]
    exact half_add k
theorem self_score {f : List Int} (h : validE f = 0) {k : Nat} (hk : k < f.length) (hp : 0 < dg f k) : ScoreR f f (k : Int) ((k : Int) : Rat) 0 := by
  obtain ⟨h1, h2, h3⟩ := valid_parts h
  have hT := icast_pos h3
  have hne : ((tot f f.length : Int) : Rat) ≠ 0 := fun h4 => by grind
  have hw : wantQ f (rankQ f ((k : Int) : Rat)) = ((tot f k : Int) : Rat) + ((dg f k : Int) : Rat) * mkRat 1 2 := by
    unfold wantQ
    rw [rank_at h hk, Rat.mul_comm]
    exact div_mul_same hne
  obtain ⟨a1, a2⟩ := inv_mid h hk hp hw
  refine .inr ⟨(pair_self f).trans h, .inr ⟨by omega, ?_⟩⟩
  have := inv_hit h (rank_ok h ((k : Int) : Rat)) a1
  rwa [a2] at this
theorem tab_self {f : List Int} {rs : List Rt} {e : Int} (h : TabR f f rs e) {k : Nat} {r : Rt} (hr : rs[k]? = some r) (hp : 0 < dg f k) : nfR r ((k : Int) : Rat) := by
  rcases h with ⟨_, h1, _⟩ | ⟨h0, _, h2, h3⟩
  · rw [h1] at hr
    cases hr
  · have hk : k < f.length := by rw [← h2]; exact (List.getElem?_eq_some_iff.1 hr).1
    obtain ⟨r', q, e1, k1, k2, k3⟩ := h3 k hk
    rw [hr] at k1
    injection k1 with k1
    subst k1
    obtain ⟨rfl, _⟩ := scoreR_one (self_score ((pair_self f).symm.trans h0) hk hp) k3
    exact k2
theorem score_le {f g : List Int} (h : pairE f g = 0) {a b : Nat} (hab : a ≤ b) (hb : b < f.length) {q q' : Rat} {e e' : Int} (h1 : ScoreR f g (a : Int) q e) (h2 : ScoreR f g (b : Int) q' e') : q ≤ q' := by
  obtain ⟨hf, hg⟩ := pair_ok h
  have hr := (shares_says hf (x := ((a : Int) : Rat)) (y := ((b : Int) : Rat)) (icast_le (by omega))).2.1
  have key : ∀ (c : Nat) (u : Rat) (eu : Int), c < f.length → ScoreR f g (c : Int) u eu → InvR g (rankQ f ((c : Int) : Rat)) u eu := fun c u eu hc hs => by
    rcases hs with ⟨hs, _⟩ | ⟨_, ⟨hs, _⟩ | ⟨_, hs⟩⟩
    · exact absurd h hs
    · omega
    · exact hs
  obtain ⟨k, hk⟩ := inv_there hg (rank_ok hf ((a : Int) : Rat) |> fun h3 => (h3 : ¬ (rankQ f ((a : Int) : Rat) < 0 ∨ 1 < rankQ f ((a : Int) : Rat))))
  obtain ⟨k', hk'⟩ := inv_there hg (rank_ok hf ((b : Int) : Rat))
  obtain ⟨e1, _⟩ := invR_one (inv_hit hg (rank_ok hf _) hk) (key a q e (by omega) h1)
  obtain ⟨e2, _⟩ := invR_one (inv_hit hg (rank_ok hf _) hk') (key b q' e' hb h2)
  rw [e1, e2]
  obtain ⟨g1, g2, g3⟩ := valid_parts hg
  refine inv_mono g2 (want_in hg (rank_ok hf _)).1 ?_ hk hk'
  unfold wantQ
  exact Rat.mul_le_mul_of_nonneg_right hr (Rat.le_of_lt (icast_pos g3))
theorem tab_mono {f g : List Int} {rs : List Rt} {e : Int} (h : TabR f g rs e) {k : Nat} {r s : Rt} (hr : rs[k]? = some r) (hs : rs[k + 1]? = some s) : r.q ≤ s.q := by
  rcases h with ⟨_, h1, _⟩ | ⟨h0, _, h2, h3⟩
  · rw [h1] at hr
    cases hr
  · have hk : k + 1 < f.length := by rw [← h2]; exact (List.getElem?_eq_some_iff.1 hs).1
    obtain ⟨r', q, e1, k1, k2, k3⟩ := h3 k (by omega)
    obtain ⟨s', q', e2, l1, l2, l3⟩ := h3 (k + 1) hk
    rw [hr] at k1
    rw [hs] at l1
    injection k1 with k1
    injection l1 with l1
    subst k1 l1
    rw [k2.q, l2.q]
    exact score_le h0 (by omega) hk k3 l3
theorem tab_sz {f g : List Int} {rs : List Rt} {e : Int} (h : TabR f g rs e) {k : Nat} {r : Rt} (hr : rs[k]? = some r) : r.xs.length ≤ 41 ∧ r.ys.length ≤ 41 := by
  rcases h with ⟨_, h1, _⟩ | ⟨h0, _, h2, h3⟩
  · rw [h1] at hr
    cases hr
  · have hk : k < f.length := by rw [← h2]; exact (List.getElem?_eq_some_iff.1 hr).1
    obtain ⟨r', q, e1, k1, k2, k3⟩ := h3 k hk
    rw [hr] at k1
    injection k1 with k1
    subst k1
    obtain ⟨hf, hg⟩ := pair_ok h0
    have hl := (valid_parts hf).1
    have hz : sz q 41 := by
      rcases k3 with ⟨_, h5, _⟩ | ⟨_, ⟨_, h5, _⟩ | ⟨_, h5⟩⟩
      · rw [h5]; exact sz_zero.mono (by omega)
      · rw [h5]; exact sz_zero.mono (by omega)
      · have hp : sz (rankQ f ((k : Int) : Rat)) 21 := rank_sz (n := 1) (sz_int (by omega))
        rcases h5 with ⟨_, h6, _⟩ | ⟨h7, ⟨_, h6, _⟩ | ⟨_, ⟨i, h8, h6, _⟩ | ⟨_, h6, _⟩⟩⟩
        · rw [h6]; exact sz_zero.mono (by omega)
        · rw [h6]; exact sz_zero.mono (by omega)
        · rw [h6]; exact inv_sz h7 hp h8.1 h8.2.1
        · rw [h6]; exact sz_zero.mono (by omega)
    exact szl k2.2.1 k2.2.2 hz

end Go.Proofs.Ytocpncjmcaecoaa.M
