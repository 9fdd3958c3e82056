/- For every list of cut scores and every score: the program's Band and the reference's Band return the same number and the same error. No condition. -/
import Derived.Test.YtgdlnmhpnlmofaaPScalingBandsx1
import Derived.Test.YtgdlnmhpnlmofaaWSized
namespace Go.Proofs.Ytgdlnmhpnlmofaa.PrintWords
/-- The word's name as the law's row asks for it. -/
abbrev sized_ints := @Go.Proofs.YtgdlnmhpnlmofaaW.PrintWords.sized_ints
end Go.Proofs.Ytgdlnmhpnlmofaa.PrintWords
namespace Go.Proofs.Ytgdlnmhpnlmofaa.Pure
open Go.RowKit Go.Proofs.Ytgdlnmhpnlmofaa.PScalingBands Go.Proofs.YtgdlnmhpnlmofaaW.PrintWords Go.Proofs.YtgdlnmhpnlmofaaW.PrintLast

/-- What both loops come to from index i on, d cut scores being left. -/
def bandR (l : List Int) (s : Int) : Nat → Nat → Int → Int × Int
  | 0, _, n => (n, 0)
  | d + 1, i, n => if 0 < i ∧ rd l (i : Int) ≤ rd l ((i : Int) - 1) then (0, 23) else bandR l s d (i + 1) (if rd l (i : Int) ≤ s then n + 1 else n)

theorem wrap_small {x : Int} (h : -9223372036854775808 ≤ x) (h' : x ≤ 9223372036854775807) : wrap64 x = x := by
  unfold wrap64
  omega

theorem band_code (l : List Int) (s : Int) (hl : l.length ≤ 60) (d : Nat) : ∀ (i k : Nat) (n : Int), i + d = l.length → 0 ≤ n → n ≤ i → 2 * d < k →
    scaling_Band.l0 k l s n l (l.length : Int) (i : Int) = some (bandR l s d i n) := by
  induction d with
  | zero =>
    intro i k n hi h0 h1 hk
    obtain ⟨k, rfl⟩ : ∃ m, k = m + 1 := ⟨k - 1, by omega⟩
    simp only [scaling_Band.l0]
    rw [if_neg (by omega)]
    rfl
  | succ d ih =>
    intro i k n hi h0 h1 hk
    obtain ⟨k, rfl⟩ : ∃ m, k = m + 2 := ⟨k - 2, by omega⟩
    simp only [scaling_Band.l0, scaling_Band.j1, bandR]
    rw [if_pos (by omega), if_pos (by omega), if_pos (by omega)]
    have hw1 : wrap64 ((i : Int) + 1) = ((i + 1 : Nat) : Int) := by rw [wrap_small (by omega) (by omega)]; omega
    have hw2 : wrap64 (n + 1) = n + 1 := wrap_small (by omega) (by omega)
    have hr1 := ih (i + 1) k (n + 1) (by omega) (by omega) (by omega) (by omega)
    have hr0 := ih (i + 1) k n (by omega) (by omega) (by omega) (by omega)
    by_cases hi0 : 0 < i
    · have hw3 : wrap64 ((i : Int) - 1) = (i : Int) - 1 := wrap_small (by omega) (by omega)
      rw [if_pos (by omega), hw3, if_pos (by omega), if_pos (by omega)]
      by_cases hc : rd l (i : Int) ≤ rd l ((i : Int) - 1)
      · rw [if_pos (by simpa using hc), if_pos ⟨hi0, hc⟩]
      · rw [if_neg (by simpa using hc), if_neg (show ¬ (0 < i ∧ rd l (i : Int) ≤ rd l ((i : Int) - 1)) from fun h => hc h.2), hw1, hw2]
        by_cases hs : rd l (i : Int) ≤ s
        · rw [if_pos hs, if_pos hs]; exact hr1
        · rw [if_neg hs, if_neg hs]; exact hr0
    · rw [if_neg (by omega), if_neg (by simp), if_neg (show ¬ (0 < i ∧ rd l (i : Int) ≤ rd l ((i : Int) - 1)) from fun h => hi0 h.1), hw1, hw2]
      by_cases hs : rd l (i : Int) ≤ s
      · rw [if_pos hs, if_pos hs]; exact hr1
      · rw [if_neg hs, if_neg hs]; exact hr0

theorem band_ref (l : List Int) (s : Int) (hl : l.length ≤ 60) (d : Nat) : ∀ (i k : Nat) (n : Int), i + d = l.length → 0 ≤ n → n ≤ i → 2 * d < k →
    examboardref44_Band.l0 k l s n (i : Int) = some (bandR l s d i n) := by
  induction d with
  | zero =>
    intro i k n hi h0 h1 hk
    obtain ⟨k, rfl⟩ : ∃ m, k = m + 1 := ⟨k - 1, by omega⟩
    simp only [examboardref44_Band.l0]
    rw [if_neg (by omega)]
    rfl
  | succ d ih =>
    intro i k n hi h0 h1 hk
    obtain ⟨k, rfl⟩ : ∃ m, k = m + 2 := ⟨k - 2, by omega⟩
    simp only [examboardref44_Band.l0, examboardref44_Band.j1, bandR]
    rw [if_pos (by omega)]
    have hw1 : wrap64 ((i : Int) + 1) = ((i + 1 : Nat) : Int) := by rw [wrap_small (by omega) (by omega)]; omega
    have hw2 : wrap64 (n + 1) = n + 1 := wrap_small (by omega) (by omega)
    have hr1 := ih (i + 1) k (n + 1) (by omega) (by omega) (by omega) (by omega)
    have hr0 := ih (i + 1) k n (by omega) (by omega) (by omega) (by omega)
    by_cases hi0 : 0 < i
    · have hw3 : wrap64 ((i : Int) - 1) = (i : Int) - 1 := wrap_small (by omega) (by omega)
      rw [if_pos (by omega), if_pos (by omega), hw3, if_pos (by omega), if_pos (by omega)]
      by_cases hc : rd l (i : Int) ≤ rd l ((i : Int) - 1)
      · rw [if_pos (by simpa using hc), if_pos ⟨hi0, hc⟩]
      · rw [if_neg (by simpa using hc), if_neg (show ¬ (0 < i ∧ rd l (i : Int) ≤ rd l ((i : Int) - 1)) from fun h => hc h.2), if_pos (by omega), if_pos (by omega), hw1, hw2]
        by_cases hs : rd l (i : Int) ≤ s
        · rw [if_pos hs, if_pos hs]; exact hr1
        · rw [if_neg hs, if_neg hs]; exact hr0
    · rw [if_neg (by omega), if_neg (by simp), if_neg (show ¬ (0 < i ∧ rd l (i : Int) ≤ rd l ((i : Int) - 1)) from fun h => hi0 h.1), if_pos (by omega), if_pos (by omega), hw1, hw2]
      by_cases hs : rd l (i : Int) ≤ s
      · rw [if_pos hs, if_pos hs]; exact hr1
      · rw [if_neg hs, if_neg hs]; exact hr0

theorem ScalingBands : examboardlaw44_ScalingBands.Pure := by
  intro l s _ _ _ _
  refine ⟨2 * l.length + 1, ?_⟩
  unfold examboardlaw44_ScalingBands.f scaling_Band.f examboardref44_Band.f
  by_cases hl : (l.length : Int) > 60
  · rw [if_pos hl, if_pos hl]
    rfl
  · rw [if_neg hl, if_neg hl]
    have h1 := band_code l s (by omega) l.length 0 (2 * l.length + 1) 0 (by omega) (by omega) (by omega) (by omega)
    have h2 := band_ref l s (by omega) l.length 0 (2 * l.length + 1) 0 (by omega) (by omega) (by omega) (by omega)
    simp only [Int.natCast_zero] at h1 h2
    have h1' : scaling_Band.l0 (2 * l.length + 1) l s 0 l (l.length : Int) 0 = some (bandR l s l.length 0 0) := h1
    have h2' : examboardref44_Band.l0 (2 * l.length + 1) l s 0 0 = some (bandR l s l.length 0 0) := h2
    rw [h1', h2']
    simp

end Go.Proofs.Ytgdlnmhpnlmofaa.Pure
