/- For every list of cut scores and every two scores: a higher score never gets a lower band, each cut score lies in its own band, bands are from 0 to the number of cut scores, and errors do not depend on the score. No condition. -/
import Derived.Test.YtgdlnmhpnlmofaaPScalingGradesx1
import Derived.Test.YtgdlnmhpnlmofaaWSized
namespace Go.Proofs.Ytgdlnmhpnlmofaa.PrintWords
/-- The word's name as the law's row asks for it. -/
abbrev sized_ints := @Go.Proofs.YtgdlnmhpnlmofaaW.PrintWords.sized_ints
end Go.Proofs.Ytgdlnmhpnlmofaa.PrintWords
namespace Go.Proofs.Ytgdlnmhpnlmofaa.Pure
open Go.RowKit Go.Proofs.Ytgdlnmhpnlmofaa.PScalingGrades Go.Proofs.YtgdlnmhpnlmofaaW.PrintWords Go.Proofs.YtgdlnmhpnlmofaaW.PrintLast

/-- What the loop comes to from index i on, d cut scores being left. -/
def bandG (l : List Int) (s : Int) : Nat → Nat → Int → Int × Int
  | 0, _, n => (n, 0)
  | d + 1, i, n => if 0 < i ∧ rd l (i : Int) ≤ rd l ((i : Int) - 1) then (0, 23) else bandG l s d (i + 1) (if rd l (i : Int) ≤ s then n + 1 else n)

theorem wrap_fits {x : Int} (h : -9223372036854775808 ≤ x) (h' : x ≤ 9223372036854775807) : wrap64 x = x := by
  unfold wrap64
  omega

theorem band_runs (l : List Int) (s : Int) (hl : l.length ≤ 60) (d : Nat) : ∀ (i k : Nat) (n : Int), i + d = l.length → 0 ≤ n → n ≤ i → 2 * d < k →
    scaling_Band.l0 k l s n l (l.length : Int) (i : Int) = some (bandG l s d i n) := by
  induction d with
  | zero =>
    intro i k n hi h0 h1 hk
    obtain ⟨k, rfl⟩ : ∃ m, k = m + 1 := ⟨k - 1, by omega⟩
    simp only [scaling_Band.l0]
    rw [if_neg (by omega)]
    rfl
  | succ d ih =>
    intro i k n hi h0 h1 hk
    obtain ⟨k, rfl⟩ : ∃ m, k = m + 2 := ⟨k - 2, by omega⟩
    simp only [scaling_Band.l0, scaling_Band.j1, bandG]
    rw [if_pos (by omega), if_pos (by omega), if_pos (by omega)]
    have hw1 : wrap64 ((i : Int) + 1) = ((i + 1 : Nat) : Int) := by rw [wrap_fits (by omega) (by omega)]; omega
    have hw2 : wrap64 (n + 1) = n + 1 := wrap_fits (by omega) (by omega)
    have hr1 := ih (i + 1) k (n + 1) (by omega) (by omega) (by omega) (by omega)
    have hr0 := ih (i + 1) k n (by omega) (by omega) (by omega) (by omega)
    by_cases hi0 : 0 < i
    · have hw3 : wrap64 ((i : Int) - 1) = (i : Int) - 1 := wrap_fits (by omega) (by omega)
      rw [if_pos (by omega), hw3, if_pos (by omega), if_pos (by omega)]
      by_cases hc : rd l (i : Int) ≤ rd l ((i : Int) - 1)
      · rw [if_pos (by simpa using hc), if_pos ⟨hi0, hc⟩]
      · rw [if_neg (by simpa using hc), if_neg (show ¬ (0 < i ∧ rd l (i : Int) ≤ rd l ((i : Int) - 1)) from fun h => hc h.2), hw1, hw2]
        by_cases hs : rd l (i : Int) ≤ s
        · rw [if_pos hs, if_pos hs]; exact hr1
        · rw [if_neg hs, if_neg hs]; exact hr0
    · rw [if_neg (by omega), if_neg (by simp), if_neg (show ¬ (0 < i ∧ rd l (i : Int) ≤ rd l ((i : Int) - 1)) from fun h => hi0 h.1), hw1, hw2]
      by_cases hs : rd l (i : Int) ≤ s
      · rw [if_pos hs, if_pos hs]; exact hr1
      · rw [if_neg hs, if_neg hs]; exact hr0

/-- From i on the list rises. -/
def Rises (l : List Int) (i d : Nat) : Prop := ∀ j, i ≤ j → j < i + d → 0 < j → rd l ((j : Int) - 1) < rd l (j : Int)

/-- Either an error, and then for every score the same, or the list rises. -/
theorem bandG_two (l : List Int) (d : Nat) : ∀ i : Nat, (∀ s n, bandG l s d i n = (0, 23)) ∨ ((∀ s n, (bandG l s d i n).2 = 0) ∧ Rises l i d) := by
  induction d with
  | zero => exact fun i => .inr ⟨fun s n => rfl, fun j h1 h2 _ => by omega⟩
  | succ d ih =>
    intro i
    by_cases hc : 0 < i ∧ rd l (i : Int) ≤ rd l ((i : Int) - 1)
    · exact .inl fun s n => by simp only [bandG]; rw [if_pos hc]
    · rcases ih (i + 1) with h | ⟨h, hr⟩
      · exact .inl fun s n => by simp only [bandG]; rw [if_neg hc, h]
      · refine .inr ⟨fun s n => by simp only [bandG]; rw [if_neg hc]; exact h s _, fun j h1 h2 h3 => ?_⟩
        by_cases e : j = i
        · subst e
          have : ¬ (rd l (j : Int) ≤ rd l ((j : Int) - 1)) := fun h => hc ⟨h3, h⟩
          omega
        · exact hr j (by omega) (by omega) h3

/-- Where the list rises: the band is n and the cut scores that are reached. -/
theorem bandG_le (l : List Int) (d : Nat) : ∀ (i : Nat) (n : Int) (s t : Int), Rises l i d → s ≤ t → n ≤ (bandG l s d i n).1 ∧ (bandG l s d i n).1 ≤ n + d ∧ (∀ m, n ≤ m → (bandG l s d i n).1 ≤ (bandG l t d i m).1) := by
  induction d with
  | zero => intro i n s t _ _; exact ⟨Int.le_refl _, by simp [bandG], fun m hm => hm⟩
  | succ d ih =>
    intro i n s t hr hst
    have hc : ¬ (0 < i ∧ rd l (i : Int) ≤ rd l ((i : Int) - 1)) := fun h => by have := hr i (by omega) (by omega) h.1; omega
    have hr' : Rises l (i + 1) d := fun j h1 h2 h3 => hr j (by omega) (by omega) h3
    simp only [bandG]
    rw [if_neg hc]
    by_cases hs : rd l (i : Int) ≤ s
    · rw [if_pos hs]
      obtain ⟨h1, h2, h3⟩ := ih (i + 1) (n + 1) s t hr' hst
      refine ⟨by omega, by omega, fun m hm => ?_⟩
      rw [if_neg hc, if_pos (by omega)]
      exact h3 (m + 1) (by omega)
    · rw [if_neg hs]
      obtain ⟨h1, h2, h3⟩ := ih (i + 1) n s t hr' hst
      refine ⟨h1, by omega, fun m hm => ?_⟩
      rw [if_neg hc]
      split
      · exact h3 (m + 1) (by omega)
      · exact h3 m hm

theorem rises_lt (l : List Int) (i d : Nat) (h : Rises l i d) : ∀ c a : Nat, i ≤ a → a + c < i + d → 0 < c → rd l (a : Int) < rd l ((a + c : Nat) : Int) := by
  intro c
  induction c with
  | zero => intro a _ _ h0; omega
  | succ c ih =>
    intro a h1 h2 _
    have hs := h (a + (c + 1)) (by omega) (by omega) (by omega)
    have e : (((a + (c + 1) : Nat) : Int)) - 1 = ((a + c : Nat) : Int) := by omega
    rw [e] at hs
    by_cases hc : c = 0
    · subst hc; simpa using hs
    · have := ih a h1 (by omega) (by omega)
      omega

/-- Nothing more is reached where all that is left lies above the score. -/
theorem bandG_none (l : List Int) (s : Int) (d : Nat) : ∀ (i : Nat) (n : Int), Rises l i d → (∀ j, i ≤ j → j < i + d → s < rd l (j : Int)) → bandG l s d i n = (n, 0) := by
  induction d with
  | zero => intro i n _ _; rfl
  | succ d ih =>
    intro i n hr hs
    have hc : ¬ (0 < i ∧ rd l (i : Int) ≤ rd l ((i : Int) - 1)) := fun h => by have := hr i (by omega) (by omega) h.1; omega
    have hi := hs i (by omega) (by omega)
    simp only [bandG]
    rw [if_neg hc, if_neg (by omega)]
    exact ih (i + 1) n (fun j h1 h2 h3 => hr j (by omega) (by omega) h3) (fun j h1 h2 => hs j (by omega) (by omega))

/-- The band of the score at index a: n and what lies from i to a. -/
theorem bandG_at (l : List Int) (d : Nat) : ∀ (i a : Nat) (n : Int), Rises l i d → i ≤ a → a < i + d → bandG l (rd l (a : Int)) d i n = (n + (a - i : Nat) + 1, 0) := by
  induction d with
  | zero => intro i a n _ h1 h2; omega
  | succ d ih =>
    intro i a n hr h1 h2
    have hc : ¬ (0 < i ∧ rd l (i : Int) ≤ rd l ((i : Int) - 1)) := fun h => by have := hr i (by omega) (by omega) h.1; omega
    have hr' : Rises l (i + 1) d := fun j h1 h2 h3 => hr j (by omega) (by omega) h3
    simp only [bandG]
    rw [if_neg hc]
    by_cases e : a = i
    · subst e
      rw [if_pos (Int.le_refl _), bandG_none l _ d (a + 1) (n + 1) hr' (fun j h3 h4 => ?_)]
      · simp
      · have := rises_lt l a (d + 1) hr (j - a) a (by omega) (by omega) (by omega)
        rwa [show a + (j - a) = j from by omega] at this
    · have hlt := rises_lt l i (d + 1) hr (a - i) i (by omega) (by omega) (by omega)
      rw [show i + (a - i) = a from by omega] at hlt
      rw [if_pos (by omega), ih (i + 1) a (n + 1) hr' (by omega) (by omega)]
      congr 1
      omega

theorem band_f (l : List Int) (s : Int) (k : Nat) (hl : l.length ≤ 60) (hk : 2 * l.length < k) : scaling_Band.f k l s = some (bandG l s l.length 0 0) := by
  unfold scaling_Band.f
  rw [if_neg (by omega)]
  exact band_runs l s hl l.length 0 k 0 (by omega) (by omega) (by omega) hk

/-- The law's own loop. -/
theorem grades_loop (l : List Int) (hl : l.length ≤ 60) (hr : Rises l 0 l.length) (d : Nat) : ∀ (i k : Nat), i + d = l.length → d + 2 * l.length + 1 < k →
    examboardlaw44_ScalingGrades.l0 k l (i : Int) = some true := by
  induction d with
  | zero =>
    intro i k hi hk
    obtain ⟨k, rfl⟩ : ∃ m, k = m + 1 := ⟨k - 1, by omega⟩
    simp only [examboardlaw44_ScalingGrades.l0]
    rw [if_neg (by omega)]
  | succ d ih =>
    intro i k hi hk
    obtain ⟨k, rfl⟩ : ∃ m, k = m + 1 := ⟨k - 1, by omega⟩
    have hw1 : wrap64 ((i : Int) + 1) = ((i + 1 : Nat) : Int) := by rw [wrap_fits (by omega) (by omega)]; omega
    have hn := ih (i + 1) k (by omega) (by omega)
    have hb : scaling_Band.f k l (rd l (i : Int)) = some ((i : Int) + 1, 0) := by
      rw [band_f l _ k hl (by omega), bandG_at l l.length 0 i 0 hr (by omega) (by omega), Nat.sub_zero, Int.zero_add]
    have hw0 : wrap64 ((i : Int) + 1) = (i : Int) + 1 := wrap_fits (by omega) (by omega)
    rw [← hw1] at hn
    rw [hw0] at hn
    simp only [examboardlaw44_ScalingGrades.l0]
    rw [if_pos (by omega), if_pos (by omega), hb]
    simp only [Option.bind_some, if_true, hw0]
    by_cases hi0 : 0 < i
    · have hw3 : wrap64 ((i : Int) - 1) = (i : Int) - 1 := wrap_fits (by omega) (by omega)
      have := hr i (by omega) (by omega) hi0
      rw [if_pos (by omega), hw3, if_pos (by omega), if_pos (by omega), if_neg (by omega)]
      exact hn
    · rw [if_neg (by omega)]
      exact hn

theorem ScalingGrades : examboardlaw44_ScalingGrades.Pure := by
  intro l s t _ _ _ _ _
  refine ⟨4 * l.length + 10, ?_⟩
  unfold examboardlaw44_ScalingGrades.f
  by_cases hl : (l.length : Int) > 60
  · have e : ∀ x, scaling_Band.f (4 * l.length + 10) l x = some (0, 5) := fun x => by unfold scaling_Band.f; rw [if_pos hl]
    rw [e, e]
    simp only [Option.bind_some]
    rw [if_pos trivial]
    simp only [examboardlaw44_ScalingGrades.j0]
    simp [hl]
  · have hl' : l.length ≤ 60 := by omega
    rw [band_f l s _ hl' (by omega), band_f l t _ hl' (by omega)]
    simp only [Option.bind_some]
    rcases bandG_two l l.length 0 with h | ⟨h, hr⟩
    · rw [h s, h t]
      simp only [examboardlaw44_ScalingGrades.j0]
      simp
      omega
    · have e : (bandG l s l.length 0 0).2 = (bandG l t l.length 0 0).2 := by rw [h s, h t]
      obtain ⟨hs1, hs2, _⟩ := bandG_le l l.length 0 0 s s hr (Int.le_refl _)
      obtain ⟨ht1, ht2, _⟩ := bandG_le l l.length 0 0 t t hr (Int.le_refl _)
      rw [if_pos e, h s, h t]
      have hst : s ≤ t → (bandG l s l.length 0 0).1 ≤ (bandG l t l.length 0 0).1 := fun h => (bandG_le l l.length 0 0 s t hr h).2.2 0 (Int.le_refl _)
      generalize (bandG l s l.length 0 0).1 = a at *
      have hfin := fun k hk => grades_loop l hl' hr l.length 0 k (by omega) hk
      generalize (bandG l t l.length 0 0).1 = b at *
      simp only [examboardlaw44_ScalingGrades.j0]
      rw [if_neg (by simp), if_neg hl, if_neg (by omega), if_neg (by omega), if_neg (by omega), if_neg (by omega)]
      by_cases hle : s ≤ t
      · rw [if_pos hle]
        have := hst hle
        rw [show decide (a > b) = false from by simp; omega]
        simp only [examboardlaw44_ScalingGrades.j1]
        rw [if_neg (by simp)]
        exact hfin _ (by omega)
      · rw [if_neg hle]
        simp only [examboardlaw44_ScalingGrades.j1]
        rw [if_neg (by simp)]
        exact hfin _ (by omega)

end Go.Proofs.Ytgdlnmhpnlmofaa.Pure
