/- What the program answers is one answer; the chapter's examples. -/
import Derived.Test.YtocpncjmcaecoaaGreatEqG
namespace Go.Proofs.YtocpncjmcaecoaaGreat.M
set_option maxRecDepth 10000
open Go.RowKit
set_option linter.unusedVariables false
set_option linter.unusedSimpArgs false
theorem invK_one {f : List Int} {want : Rat} {k k' : Nat} (h : InvK f want k) (h' : InvK f want k') : k' = k := by
  rcases Nat.lt_trichotomy k k' with e | e | e
  · rcases h'.2.2.2 k e with h1 | h1
    · exact absurd h1 h.2.1
    · exact absurd h1 h.2.2.1
  · exact e.symm
  · rcases h.2.2.2 k' e with h1 | h1
    · exact absurd h1 h'.2.1
    · exact absurd h1 h'.2.2.1
theorem invR_one {f : List Int} {p q q' : Rat} {e e' : Int} (h : InvR f p q e) (h' : InvR f p q' e') : q' = q ∧ e' = e := by
  rcases h with ⟨h1, h2, h3⟩ | ⟨h1, h2⟩
  · rcases h' with ⟨k1, k2, k3⟩ | ⟨k1, k2⟩
    · exact ⟨k2.trans h2.symm, k3.trans h3.symm⟩
    · exact absurd k1 h1
  · rcases h' with ⟨k1, k2, k3⟩ | ⟨k1, k2⟩
    · exact absurd h1 k1
    · rcases h2 with ⟨a1, a2, a3⟩ | ⟨a1, a2⟩
      · rcases k2 with ⟨b1, b2, b3⟩ | ⟨b1, b2⟩
        · exact ⟨b2.trans a2.symm, b3.trans a3.symm⟩
        · exact absurd a1 b1
      · rcases k2 with ⟨b1, b2, b3⟩ | ⟨b1, b2⟩
        · exact absurd b1 a1
        · rcases a2 with ⟨k, c1, c2, c3⟩ | ⟨c1, c2, c3⟩
          · rcases b2 with ⟨k', d1, d2, d3⟩ | ⟨d1, d2, d3⟩
            · rw [invK_one c1 d1] at d2
              exact ⟨d2.trans c2.symm, d3.trans c3.symm⟩
            · rcases d1 k c1.1 with h | h
              · exact absurd h c1.2.1
              · exact absurd h c1.2.2.1
          · rcases b2 with ⟨k', d1, d2, d3⟩ | ⟨d1, d2, d3⟩
            · rcases c1 k' d1.1 with h | h
              · exact absurd h d1.2.1
              · exact absurd h d1.2.2.1
            · exact ⟨d2.trans c2.symm, d3.trans c3.symm⟩
theorem scoreR_one {f g : List Int} {x : Int} {q q' : Rat} {e e' : Int} (h : ScoreR f g x q e) (h' : ScoreR f g x q' e') : q' = q ∧ e' = e := by
  rcases h with ⟨h1, h2, h3⟩ | ⟨h1, h2⟩
  · rcases h' with ⟨k1, k2, k3⟩ | ⟨k1, k2⟩
    · exact ⟨k2.trans h2.symm, k3.trans h3.symm⟩
    · exact absurd k1 h1
  · rcases h' with ⟨k1, k2, k3⟩ | ⟨k1, k2⟩
    · exact absurd h1 k1
    · rcases h2 with ⟨a1, a2, a3⟩ | ⟨a1, a2⟩
      · rcases k2 with ⟨b1, b2, b3⟩ | ⟨b1, b2⟩
        · exact ⟨b2.trans a2.symm, b3.trans a3.symm⟩
        · exact absurd a1 b1
      · rcases k2 with ⟨b1, b2, b3⟩ | ⟨b1, b2⟩
        · exact absurd b1 a1
        · exact invR_one a2 b2
/-- A frequency table given by its numbers. -/
theorem freq_of {f : List Int} (h : ∀ x ∈ f, 0 ≤ x ∧ x ≤ 1000000) : freq f := fun i hi => by
  rw [dg_get hi]
  exact h _ (List.getElem_mem hi)
theorem aw_f : validE [1, 2, 1] = 0 := validE_ok (by decide) (freq_of (by decide)) (by decide)
theorem aw_g : validE [0, 1, 2, 1] = 0 := validE_ok (by decide) (freq_of (by decide)) (by decide)
theorem rankQ_mid {f : List Int} {x : Rat} (h0 : validE f = 0) (h1 : ¬ cmpQ (x + mkRat 1 2) 0 ≤ 0) (h2 : ¬ 0 ≤ cmpQ (x + mkRat 1 2) ((f.length : Int) : Rat)) : rankQ f x = rankM f (x + mkRat 1 2) := by
  unfold rankQ
  rw [if_neg (fun h => h h0), if_neg h1, if_neg h2]
theorem aw_rank : rankQ [1, 2, 1] (mkRat 0 1) = mkRat 1 8 := by
  rw [rankQ_mid aw_f (by decide +kernel) (by decide +kernel)]
  decide +kernel
theorem aw_inv : InvR [1, 2, 1] (mkRat 1 4) (mkRat 1 2) 0 := by
  have h := inv_hit (f := [1, 2, 1]) (p := mkRat 1 4) (k := 0) aw_f (by decide +kernel) (by unfold InvK; decide +kernel)
  have e : invV [1, 2, 1] (wantQ [1, 2, 1] (mkRat 1 4)) 0 = mkRat 1 2 := by decide +kernel
  rw [e] at h
  exact h
theorem aw_pair : pairE [1, 2, 1] [0, 1, 2, 1] = 0 := by unfold pairE; rw [if_pos aw_f]; exact aw_g
theorem aw_s0 : ScoreR [1, 2, 1] [0, 1, 2, 1] 0 (mkRat 1 1) 0 := by
  refine .inr ⟨aw_pair, .inr ⟨by decide, ?_⟩⟩
  have e0 : rankQ [1, 2, 1] ((0 : Int) : Rat) = mkRat 1 8 := by
    rw [rankQ_mid aw_f (by decide +kernel) (by decide +kernel)]
    decide +kernel
  rw [e0]
  have h := inv_hit (f := [0, 1, 2, 1]) (p := mkRat 1 8) (k := 1) aw_g (by decide +kernel) (by unfold InvK; decide +kernel)
  have e : invV [0, 1, 2, 1] (wantQ [0, 1, 2, 1] (mkRat 1 8)) 1 = mkRat 1 1 := by decide +kernel
  rw [e] at h
  exact h
theorem aw_s1 : ScoreR [1, 2, 1] [0, 1, 2, 1] 1 (mkRat 2 1) 0 := by
  refine .inr ⟨aw_pair, .inr ⟨by decide, ?_⟩⟩
  have e0 : rankQ [1, 2, 1] ((1 : Int) : Rat) = mkRat 1 2 := by
    rw [rankQ_mid aw_f (by decide +kernel) (by decide +kernel)]
    decide +kernel
  rw [e0]
  have h := inv_hit (f := [0, 1, 2, 1]) (p := mkRat 1 2) (k := 2) aw_g (by decide +kernel) (by unfold InvK; decide +kernel)
  have e : invV [0, 1, 2, 1] (wantQ [0, 1, 2, 1] (mkRat 1 2)) 2 = mkRat 2 1 := by decide +kernel
  rw [e] at h
  exact h
theorem aw_s2 : ScoreR [1, 2, 1] [0, 1, 2, 1] 2 (mkRat 3 1) 0 := by
  refine .inr ⟨aw_pair, .inr ⟨by decide, ?_⟩⟩
  have e0 : rankQ [1, 2, 1] ((2 : Int) : Rat) = mkRat 7 8 := by
    rw [rankQ_mid aw_f (by decide +kernel) (by decide +kernel)]
    decide +kernel
  rw [e0]
  have h := inv_hit (f := [0, 1, 2, 1]) (p := mkRat 7 8) (k := 3) aw_g (by decide +kernel) (by unfold InvK; decide +kernel)
  have e : invV [0, 1, 2, 1] (wantQ [0, 1, 2, 1] (mkRat 7 8)) 3 = mkRat 3 1 := by decide +kernel
  rw [e] at h
  exact h
theorem aw_tab {rs : List Rt} {e0 : Int} (h : TabR [1, 2, 1] [0, 1, 2, 1] rs e0) : e0 = 0 ∧ nfL rs [mkRat 1 1, mkRat 2 1, mkRat 3 1] := by
  rcases h with ⟨h, _⟩ | ⟨_, h1, h2, h3⟩
  · exact absurd aw_pair h
  · refine ⟨h1, h2, fun j r hj => ?_⟩
    have hl : j < 3 := by have h4 := (List.getElem?_eq_some_iff.1 hj).1; rw [h2] at h4; exact h4
    obtain ⟨r', q, e1, k1, k2, k3⟩ := h3 j hl
    rw [hj] at k1
    injection k1 with k1
    subst k1
    rcases (show j = 0 ∨ j = 1 ∨ j = 2 by omega) with rfl | rfl | rfl
    · obtain ⟨rfl, _⟩ := scoreR_one aw_s0 k3
      exact ⟨_, rfl, k2⟩
    · obtain ⟨rfl, _⟩ := scoreR_one aw_s1 k3
      exact ⟨_, rfl, k2⟩
    · obtain ⟨rfl, _⟩ := scoreR_one aw_s2 k3
      exact ⟨_, rfl, k2⟩
theorem aw_round {r s t : Rt} (h1 : nfR r (mkRat 1 2)) (h2 : nfR s (mkRat (-3) 2)) (h3 : nfR t (mkRat 9 1)) : roundV [r, s, t] 1 (-1) 5 = [0, -1, 5] := by
  unfold roundV roundL
  rw [if_pos (by rfl)]
  show [limI (rnd r.q 1) (-1) 5, limI (rnd s.q 1) (-1) 5, limI (rnd t.q 1) (-1) 5] = _
  rw [h1.q, h2.q, h3.q]
  decide +kernel
theorem aw_mom : momM [1, 2, 1] = mkRat 1 1 ∧ momV [1, 2, 1] = mkRat 1 2 := by
  unfold momM momV
  rw [if_pos aw_f, if_pos aw_f]
  decide +kernel
/-- Three ratios in a new block. -/
theorem lit3 (w : World) (r s t : Rt) (h1 : RN w r.A r.c r.xs ∧ RN w r.B r.d r.ys) (h2 : RN w s.A s.c s.xs ∧ RN w s.B s.d s.ys) (h3 : RN w t.A t.c t.xs ∧ RN w t.B t.d t.ys) :
    Rs (w.alloc (.cells #[.bool r.b, .slice r.A r.xs.length r.c, .slice r.B r.ys.length r.d, .bool s.b, .slice s.A s.xs.length s.c, .slice s.B s.ys.length s.d, .bool t.b, .slice t.A t.xs.length t.c, .slice t.B t.ys.length t.d] 28 (0, 0))) (some ⟨w.heap.size, 0, none⟩) 3 [r, s, t] := by
  have hb : Below w.heap.size w (w.alloc (.cells #[.bool r.b, .slice r.A r.xs.length r.c, .slice r.B r.ys.length r.d, .bool s.b, .slice s.A s.xs.length s.c, .slice s.B s.ys.length s.d, .bool t.b, .slice t.A t.xs.length t.c, .slice t.B t.ys.length t.d] 28 (0, 0))) := (Below.refl _ _).alloc (Nat.le_refl _) _
  have hT : Tq (w.alloc (.cells #[.bool r.b, .slice r.A r.xs.length r.c, .slice r.B r.ys.length r.d, .bool s.b, .slice s.A s.xs.length s.c, .slice s.B s.ys.length s.d, .bool t.b, .slice t.A t.xs.length t.c, .slice t.B t.ys.length t.d] 28 (0, 0))) w.heap.size [r, s, t] := by
    refine ⟨_, Vr.new _ _ _, rfl, fun j u hj => ?_⟩
    match j, hj with
    | 0, hj => injection hj with hj; subst hj; exact ⟨rfl, rfl, rfl⟩
    | 1, hj => injection hj with hj; subst hj; exact ⟨rfl, rfl, rfl⟩
    | 2, hj => injection hj with hj; subst hj; exact ⟨rfl, rfl, rfl⟩
    | k + 3, hj => simp at hj
  exact hT.reads (fun j u hj => by
    match j, hj with
    | 0, hj => injection hj with hj; subst hj; exact ⟨h1.1.below hb, h1.2.below hb⟩
    | 1, hj => injection hj with hj; subst hj; exact ⟨h2.1.below hb, h2.2.below hb⟩
    | 2, hj => injection hj with hj; subst hj; exact ⟨h3.1.below hb, h3.2.below hb⟩
    | k + 3, hj => simp at hj) (by simp)

end Go.Proofs.YtocpncjmcaecoaaGreat.M
