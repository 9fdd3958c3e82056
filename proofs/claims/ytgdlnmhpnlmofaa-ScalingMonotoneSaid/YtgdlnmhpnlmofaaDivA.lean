/- Dividing: the guess of a digit. -/
import Derived.Test.YtgdlnmhpnlmofaaNatG
namespace Go.Proofs.Ytgdlnmhpnlmofaa.M
set_option maxRecDepth 10000
open Go.RowKit
set_option linter.unusedVariables false
set_option linter.unusedSimpArgs false

/-- No digit of the quotient that is small enough is above d. -/
def Above (u v d : Int) : Prop := ∀ q, q ≤ 4294967295 → (∀ d', u < d' * v → q < d') → q ≤ d
/-- What a guess keeps: d and the rest r make up the head. -/
def GuI (u2 u1 u0 v1 v0 d r : Int) : Prop := d * v1 + r = u2 * 4294967296 + u1 ∧ Above ((u2 * 4294967296 + u1) * 4294967296 + u0) (v1 * 4294967296 + v0) d
/-- A guess. -/
def GuR (u2 u1 u0 v1 v0 d : Int) : Prop := 0 ≤ d ∧ d ≤ 4294967295 ∧ d * (v1 * 4294967296 + v0) ≤ (u2 * 4294967296 + u1) * 4294967296 + u0 ∧ Above ((u2 * 4294967296 + u1) * 4294967296 + u0) (v1 * 4294967296 + v0) d

theorem gu_start {u2 u1 u0 v1 v0 : Int} (h2 : 0 ≤ u2) (h3 : 0 ≤ u1) (h0 : 0 ≤ u0 ∧ u0 ≤ 4294967295) (h1 : 0 < v1) (hv : 0 ≤ v0) : GuI u2 u1 u0 v1 v0 ((u2 * 4294967296 + u1) / v1) ((u2 * 4294967296 + u1) % v1) := by
  refine ⟨by rw [Int.mul_comm]; exact Int.mul_ediv_add_emod _ _, fun q hq h => ?_⟩
  have hlt := h ((u2 * 4294967296 + u1) / v1 + 1) (by
    have hd0 : 0 ≤ (u2 * 4294967296 + u1) / v1 := Int.ediv_nonneg (by omega) (by omega)
    have h2 := Int.mul_ediv_add_emod (u2 * 4294967296 + u1) v1
    have h3 := Int.emod_lt_of_pos (u2 * 4294967296 + u1) h1
    generalize (u2 * 4294967296 + u1) / v1 = d at *
    generalize (u2 * 4294967296 + u1) % v1 = r at *
    have h4 : 0 ≤ (d + 1) * v0 := Int.mul_nonneg (by omega) hv
    have e : (d + 1) * (v1 * 4294967296 + v0) = (v1 * d + v1) * 4294967296 + (d + 1) * v0 := by
      rw [Int.mul_add, ← Int.mul_assoc, Int.add_mul, Int.one_mul, Int.mul_comm d v1]
    rw [e]
    omega)
  omega
theorem gu_down {u2 u1 u0 v1 v0 d r : Int} (h : GuI u2 u1 u0 v1 v0 d r) (hc : 4294967295 < d ∨ r * 4294967296 + u0 < d * v0) : GuI u2 u1 u0 v1 v0 (d - 1) (r + v1) := by
  obtain ⟨h1, h2⟩ := h
  have e : (d - 1) * v1 = d * v1 - v1 := by rw [Int.sub_mul, Int.one_mul]
  refine ⟨by omega, fun q hq h => ?_⟩
  rcases hc with hc | hc
  · omega
  · have := h d (by
      have e2 : d * (v1 * 4294967296 + v0) = d * v1 * 4294967296 + d * v0 := by rw [Int.mul_add, ← Int.mul_assoc]
      rw [e2]
      omega)
    omega
theorem gu_small {u2 u1 u0 v1 v0 d r : Int} (h : GuI u2 u1 u0 v1 v0 d r) (hu : u2 ≤ v1) (h1 : u1 ≤ 4294967295) (hv : 0 ≤ v1) (hr : 4294967295 < r) : d ≤ 4294967295 := by
  obtain ⟨h2, _⟩ := h
  rcases Int.lt_or_le 4294967295 d with hd | hd
  · have h3 : 4294967296 * v1 ≤ d * v1 := Int.mul_le_mul_of_nonneg_right (by omega) hv
    omega
  · exact hd
theorem gu_end {u2 u1 u0 v1 v0 d r : Int} (h : GuI u2 u1 u0 v1 v0 d r) (h0 : 0 ≤ d) (hd : d ≤ 4294967295) (hc : d * v0 ≤ r * 4294967296 + u0) : GuR u2 u1 u0 v1 v0 d := by
  obtain ⟨h1, h2⟩ := h
  refine ⟨h0, hd, ?_, h2⟩
  have e2 : d * (v1 * 4294967296 + v0) = d * v1 * 4294967296 + d * v0 := by rw [Int.mul_add, ← Int.mul_assoc]
  rw [e2]
  omega
theorem gu_break {u2 u1 u0 v1 v0 d r : Int} (h : GuI u2 u1 u0 v1 v0 d r) (h0 : 0 ≤ d) (hd : d ≤ 4294967295) (hr : 4294967295 < r) (hu : 0 ≤ u0) (hv0 : 0 ≤ v0) (hv : v0 ≤ 4294967295) : GuR u2 u1 u0 v1 v0 d := by
  refine gu_end h h0 hd ?_
  have h3 : d * v0 ≤ 4294967295 * 4294967295 := Int.mul_le_mul hd hv hv0 (by omega)
  omega

set_option maxHeartbeats 1600000 in
theorem guess_ok (w : World) (u2 u1 u0 v1 v0 : Int) (h2 : 0 ≤ u2 ∧ u2 ≤ 4294967295) (h1 : 0 ≤ u1 ∧ u1 ≤ 4294967295) (h0 : 0 ≤ u0 ∧ u0 ≤ 4294967295) (hv1 : 0 < v1 ∧ v1 ≤ 4294967295) (hv0 : 0 ≤ v0 ∧ v0 ≤ 4294967295) (hu : u2 ≤ v1) :
    Calls Try.prog 109 #[.int .u32 u2, .int .u32 u1, .int .u32 u0, .int .u32 v1, .int .u32 v0] w (fun e w' => ∃ d, e = .returned (.int .u64 d) ∧ Hid (GuR u2 u1 u0 v1 v0 d) ∧ w' = w) := by
  have hor := or32 (u2 * 4294967296) u1 (by omega) (by omega) (by omega) (by omega) (by omega)
  have HG0 := Lib.hid (gu_start h2.1 h1.1 h0 hv1.1 hv0.1)
  obtain ⟨h2a, h2b⟩ := h2
  obtain ⟨h1a, h1b⟩ := h1
  obtain ⟨h0a, h0b⟩ := h0
  obtain ⟨v1a, v1b⟩ := hv1
  obtain ⟨v0a, v0b⟩ := hv0
  have hr0 := Int.emod_nonneg (u2 * 4294967296 + u1) (by omega : v1 ≠ 0)
  have hr1 := Int.emod_lt_of_pos (u2 * 4294967296 + u1) v1a
  have hd0 : 0 ≤ (u2 * 4294967296 + u1) / v1 := Int.ediv_nonneg (by omega) (by omega)
  have hd1 : (u2 * 4294967296 + u1) / v1 ≤ 18446744073709551615 := Int.le_trans (Int.ediv_le_self _ (by omega)) (by omega)
  go_enter Try.func109, Try.ntmps109
  go_wp2_with fail
  go_loopw [12, 13] (fun dv rv wr => ∃ d r : Int, dv = .int .u64 d ∧ rv = .int .u64 r ∧ 0 ≤ d ∧ d ≤ 18446744073709551615 ∧ 0 ≤ r ∧ r ≤ 4294967295 ∧ Hid (GuI u2 u1 u0 v1 v0 d r) ∧ w = wr) (fun dv _ _ => (intOf dv).toNat)
  case atStart => exact ⟨_, _, rfl, rfl, hd0, hd1, hr0, by omega, HG0, rfl⟩
  case round =>
    clear HG0 hr0 hr1 hd0 hd1 hor
    obtain ⟨d, r, rfl, rfl, hd0, hd1, hr0, hr1, HG, hw⟩ := hrel
    obtain ⟨wo, rfl⟩ : ∃ wo : World, wo = wr := ⟨_, rfl⟩
    subst hw
    by_cases hc1 : 4294967295 < d
    · have dc1 : decide (4294967295 < d) = true := decide_eq_true hc1
      have HG2 := Lib.hid (gu_down HG.out (.inl hc1))
      by_cases hb : 4294967295 < r + v1
      · have hs := gu_small HG2.out hu h1b (by omega) hb
        have HR := Lib.hid (gu_break HG2.out (by omega) hs hb h0a v0a v0b)
        have db : decide (4294967295 < r + v1) = true := decide_eq_true hb
        go_wp2_with fail
        go_ret
        exact ⟨_, rfl, HR, rfl⟩
      · have db : decide (4294967295 < r + v1) = false := decide_eq_false hb
        go_wp2_with fail
        go_roundw
        case rel => exact ⟨d - 1, r + v1, by go_num, by go_num, by omega, by omega, by omega, by omega, HG2, by first | rfl | trivial⟩
        case measure => simp [intOf]; omega
    · have dc1 : decide (4294967295 < d) = false := decide_eq_false hc1
      have hp0 : 0 ≤ d * v0 := Int.mul_nonneg hd0 v0a
      have hp1 : d * v0 ≤ 4294967295 * 4294967295 := Int.mul_le_mul (by omega) v0b v0a (by omega)
      have hmul : IntKind.u64.wrap (d * v0) = d * v0 := IntWalk.u64_in _ (by omega)
      have hor := or32 (r * 4294967296) u0 (by omega) (by omega) (by omega) (by omega) (by omega)
      by_cases hc2 : r * 4294967296 + u0 < d * v0
      · have dc2 : decide (r * 4294967296 + u0 < d * v0) = true := decide_eq_true hc2
        have hd2 : 0 < d := by
          rcases Int.lt_or_le 0 d with h | h
          · exact h
          · obtain rfl : d = 0 := by omega
            rw [Int.zero_mul] at hc2
            omega
        have HG2 := Lib.hid (gu_down HG.out (.inr hc2))
        clear hc2
        by_cases hb : 4294967295 < r + v1
        · have hs := gu_small HG2.out hu h1b (by omega) hb
          have HR := Lib.hid (gu_break HG2.out (by omega) hs hb h0a v0a v0b)
          have db : decide (4294967295 < r + v1) = true := decide_eq_true hb
          go_wp2_with fail
          go_ret
          exact ⟨_, rfl, HR, rfl⟩
        · have db : decide (4294967295 < r + v1) = false := decide_eq_false hb
          go_wp2_with fail
          go_roundw
          case rel => exact ⟨d - 1, r + v1, by go_num, by go_num, by omega, by omega, by omega, by omega, HG2, by first | rfl | trivial⟩
          case measure => simp [intOf]; omega
      · have dc2 : decide (r * 4294967296 + u0 < d * v0) = false := decide_eq_false hc2
        have HR := Lib.hid (gu_end HG.out hd0 (by omega) (by omega))
        clear hc2
        go_wp2_with fail
        go_ret
        exact ⟨_, rfl, HR, rfl⟩

end Go.Proofs.Ytgdlnmhpnlmofaa.M
