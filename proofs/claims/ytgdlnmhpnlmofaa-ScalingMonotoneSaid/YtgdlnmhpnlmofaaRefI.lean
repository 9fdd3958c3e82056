/- Plain mathematics of the reference division, bit by bit. -/
import Derived.Test.YtgdlnmhpnlmofaaRefH
namespace Go.Proofs.Ytgdlnmhpnlmofaa.M
set_option maxRecDepth 10000
open Go.RowKit
set_option linter.unusedVariables false
set_option linter.unusedSimpArgs false

theorem limbs_mono {a b : Nat} (h : a ≤ b) : (limbs a).length ≤ (limbs b).length := limbs_len (by have := limbs_lt b; omega)
theorem two_pw (k : Nat) : ((2 ^ (32 * k) : Nat) : Int) = pw k := (pw_two k).symm
/-- The bits below k are 0. -/
def LowZ (p : List Int) (k : Nat) : Prop := ∀ i, dg p i % ((2 ^ (min 32 (k - 32 * i)) : Nat) : Int) = 0
theorem mod_pow_le {x : Int} {a b : Nat} (h : x % ((2 ^ b : Nat) : Int) = 0) (hab : a ≤ b) : x % ((2 ^ a : Nat) : Int) = 0 := by
  have h1 : ((2 ^ a : Nat) : Int) ∣ ((2 ^ b : Nat) : Int) := Int.natCast_dvd_natCast.2 (Nat.pow_dvd_pow 2 hab)
  exact Int.emod_eq_zero_of_dvd (Int.dvd_trans h1 (Int.dvd_of_emod_eq_zero h))
theorem LowZ.mono {p : List Int} {k j : Nat} (h : LowZ p k) (hj : j ≤ k) : LowZ p j := fun i => mod_pow_le (h i) (by omega)
theorem LowZ.start (n k : Nat) : LowZ (List.replicate n 0) k := fun i => by rw [dg_replicate]; simp
theorem or32_high {h l : Int} {s : Nat} (hs : s ≤ 32) (h0 : 0 ≤ h) (h1 : h < ((2 ^ s : Nat) : Int)) (l0 : 0 ≤ l) (l1 : l ≤ 4294967295) (hd : l % ((2 ^ s : Nat) : Int) = 0) : Go.bits .or .u32 l h = l + h := by
  have hp : 2 ^ s ≤ 2 ^ 32 := Nat.pow_le_pow_right (by omega) hs
  obtain ⟨a, rfl⟩ := Int.eq_ofNat_of_zero_le h0
  obtain ⟨b, rfl⟩ := Int.eq_ofNat_of_zero_le l0
  rw [← Int.natCast_emod] at hd
  rw [u32_or b a l0 (by omega) h0 (by omega), Int.toNat_natCast, Int.toNat_natCast, or_nat (a := b) (b := a) (m := s) (by omega) (by omega)]
  omega
/-- One bit is set. -/
theorem LowZ.bit {p : List Int} {m s : Nat} (h : LowZ p (32 * m + s + 1)) (hp : Lim p) (hs : s < 32) (hm : m < p.length) :
    Go.bits .or .u32 (dg p m) ((2 ^ s : Nat) : Int) = dg p m + ((2 ^ s : Nat) : Int) ∧ dg p m + ((2 ^ s : Nat) : Int) ≤ 4294967295 ∧ LowZ (p.set m (dg p m + ((2 ^ s : Nat) : Int))) (32 * m + s) ∧ V (p.set m (dg p m + ((2 ^ s : Nat) : Int))) = V p + ((2 ^ (32 * m + s) : Nat) : Int) := by
  have h0 := h m
  rw [show min 32 (32 * m + s + 1 - 32 * m) = s + 1 by omega] at h0
  have hb := hp m
  have hp0 := Nat.two_pow_pos s
  have e : 2 ^ (s + 1) = 2 ^ s * 2 := Nat.pow_succ 2 s
  have hor := or32_high (h := ((2 ^ s : Nat) : Int)) (l := dg p m) (s := s + 1) (by omega) (by omega) (by omega) hb.1 hb.2 h0
  have hsum : dg p m + ((2 ^ s : Nat) : Int) ≤ 4294967295 := by
    obtain ⟨c, hc⟩ := pow_dvd32 (show s + 1 ≤ 32 by omega)
    obtain ⟨d, hd⟩ := Int.dvd_of_emod_eq_zero h0
    have e2 : ((2 ^ (s + 1) : Nat) : Int) = 2 * ((2 ^ s : Nat) : Int) := by omega
    rw [e2] at hc hd
    generalize ((2 ^ s : Nat) : Int) = E at *
    have h2 : d < c := by
      rcases Int.lt_or_le d c with h | h
      · exact h
      · have : 2 * E * c ≤ 2 * E * d := Int.mul_le_mul_of_nonneg_left h (by omega)
        omega
    have h3 : 2 * E * (d + 1) ≤ 2 * E * c := Int.mul_le_mul_of_nonneg_left (by omega) (by omega)
    rw [Int.mul_add, Int.mul_one] at h3
    omega
  refine ⟨hor, hsum, fun i => ?_, ?_⟩
  · rw [dg_set]
    by_cases hi : i = m
    · subst hi
      rw [if_pos ⟨rfl, hm⟩, show min 32 (32 * i + s - 32 * i) = s by omega]
      have h1 := mod_pow_le h0 (show s ≤ s + 1 by omega)
      rw [Int.add_emod_right]
      exact h1
    · rw [if_neg (fun h => hi h.1)]
      exact mod_pow_le (h i) (by omega)
  · rw [V_set hm, pw_two, Nat.pow_add]
    have e3 : dg p m + ((2 ^ s : Nat) : Int) - dg p m = ((2 ^ s : Nat) : Int) := by omega
    rw [e3, ← Int.natCast_mul, Nat.mul_comm]

/-- Dividing bit by bit: the bits from k on have been done. -/
def DMI (A0 b n k A D : Nat) (p : List Int) : Prop := Lim p ∧ p.length = n / 32 + 1 ∧ LowZ p k ∧ A0 = (V p).toNat * b + A ∧ A < b * 2 ^ k ∧ D = b * 2 ^ k / 2
theorem toNat_addN {a : Int} (h : 0 ≤ a) (n : Nat) : (a + (n : Int)).toNat = a.toNat + n := by omega
theorem add_natCast_nonneg {a : Int} (h : 0 ≤ a) (n : Nat) : 0 ≤ a + (n : Int) := by omega
theorem dm_start {A0 b n : Nat} (h : A0 < b * 2 ^ (n + 1)) : DMI A0 b n (n + 1) A0 (b * 2 ^ n) (List.replicate (n / 32 + 1) 0) :=
  ⟨Lim.replicate _, by simp, LowZ.start _ _, by rw [V_replicate]; simp, h, by rw [Nat.pow_succ, ← Nat.mul_assoc, Nat.mul_div_cancel _ (by omega)]⟩
theorem dm_D {A0 b n k A D : Nat} {p : List Int} (h : DMI A0 b n (k + 1) A D p) : D = b * 2 ^ k ∧ D / 2 = b * 2 ^ k / 2 := by
  obtain ⟨_, _, _, _, _, h6⟩ := h
  have : D = b * 2 ^ k := by rw [h6, Nat.pow_succ, ← Nat.mul_assoc, Nat.mul_div_cancel _ (by omega)]
  exact ⟨this, by rw [this]⟩
theorem dm_yes {A0 b n m s A D : Nat} {p : List Int} (h : DMI A0 b n (32 * m + s + 1) A D p) (hs : s < 32) (hm : 32 * m + s ≤ n) (hle : D ≤ A) : DMI A0 b n (32 * m + s) (A - D) (D / 2) (p.set m (dg p m + ((2 ^ s : Nat) : Int))) := by
  obtain ⟨d1, d2⟩ := dm_D h
  obtain ⟨h1, h2, h3, h4, h5, h6⟩ := h
  have hml : m < p.length := by omega
  obtain ⟨b1, b2, b3, b4⟩ := h3.bit h1 hs hml
  refine ⟨h1.set _ (add_natCast_nonneg (h1 m).1 _) b2, by simp [h2], b3, ?_, ?_, d2⟩
  · have hv := V_nonneg h1
    have e : (V p + ((2 ^ (32 * m + s) : Nat) : Int)).toNat = (V p).toNat + 2 ^ (32 * m + s) := toNat_addN hv _
    rw [b4, e, Nat.add_mul, Nat.mul_comm (2 ^ (32 * m + s)), ← d1]
    omega
  · rw [Nat.pow_succ, ← Nat.mul_assoc, ← d1] at h5
    rw [← d1]
    omega
theorem dm_no {A0 b n k A D : Nat} {p : List Int} (h : DMI A0 b n (k + 1) A D p) (hlt : A < D) : DMI A0 b n k A (D / 2) p := by
  obtain ⟨d1, d2⟩ := dm_D h
  obtain ⟨h1, h2, h3, h4, h5, h6⟩ := h
  exact ⟨h1, h2, h3.mono (by omega), h4, by rw [← d1]; exact hlt, d2⟩
theorem dm_end {A0 b n A D : Nat} {p : List Int} (h : DMI A0 b n 0 A D p) : (V p).toNat = A0 / b ∧ A = A0 % b := by
  obtain ⟨h1, h2, h3, h4, h5, h6⟩ := h
  rw [Nat.pow_zero, Nat.mul_one] at h5
  have e : A0 = A + b * (V p).toNat := by rw [Nat.mul_comm b]; omega
  constructor
  · rw [e, Nat.add_mul_div_left _ _ (by omega), Nat.div_eq_of_lt h5]; omega
  · rw [e, Nat.add_mul_mod_self_left, Nat.mod_eq_of_lt h5]

/-- By the numbers of bits: less, or the divisor shifted reaches. -/
theorem bl_less {a b na nb : Nat} (ha : BL a na) (hb : BL b nb) (hb0 : 0 < b) (h : na < nb) : a < b := by
  rcases hb with ⟨h1, _⟩ | ⟨h1, h2, h3⟩
  · omega
  · rcases ha with ⟨h4, _⟩ | ⟨h4, h5, h6⟩
    · omega
    · have : 2 ^ na ≤ 2 ^ (nb - 1) := Nat.pow_le_pow_right (by omega) (by omega)
      omega
theorem bl_reach {a b na nb : Nat} (ha : BL a na) (hb : BL b nb) (hb0 : 0 < b) (h : nb ≤ na) : a < b * 2 ^ (na - nb + 1) := by
  rcases hb with ⟨h1, _⟩ | ⟨h1, h2, h3⟩
  · omega
  · have h7 : a < 2 ^ na := by
      rcases ha with ⟨h4, _⟩ | ⟨h4, h5, h6⟩
      · rw [h4]; exact Nat.two_pow_pos _
      · exact h6
    have e : 2 ^ (nb - 1) * 2 ^ (na - nb + 1) = 2 ^ na := by rw [← Nat.pow_add]; congr 1; omega
    have := Nat.mul_le_mul_right (2 ^ (na - nb + 1)) h2
    omega
theorem bl_len {a b na nb m : Nat} (ha : BL a na) (hb : BL b nb) (hb0 : 0 < b) (h : nb ≤ na) (hm : (a : Int) < pw m) : (limbs (b * 2 ^ (na - nb))).length ≤ m + 1 := by
  refine limbs_len ?_
  rcases hb with ⟨h1, _⟩ | ⟨h1, h2, h3⟩
  · omega
  · rcases ha with ⟨h4, h5⟩ | ⟨h4, h5, h6⟩
    · omega
    · have e : 2 ^ nb * 2 ^ (na - nb) = 2 * 2 ^ (na - 1) := by rw [← Nat.pow_add, ← Nat.pow_succ']; congr 1; omega
      have h8 : b * 2 ^ (na - nb) ≤ 2 ^ nb * 2 ^ (na - nb) := Nat.mul_le_mul_right _ (by omega)
      rw [e] at h8
      have := pw_pos m
      rw [pw_succ]
      omega

end Go.Proofs.Ytgdlnmhpnlmofaa.M
