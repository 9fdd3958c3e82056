/- The reference: Bits. The reference: Shift. The reference: half. Plain mathematics of the reference division, bit by bit. The reference: DivMod. -/
import Derived.Test.YtocpncjmcaecoaaRefE
import Derived.Test.YtocpncjmcaecoaaNatH
import Derived.StillTailTactics
namespace Go.Proofs.Ytocpncjmcaecoaa.M
set_option maxRecDepth 10000
open Go.RowKit
set_option linter.unusedVariables false

theorem pw_two (k : Nat) : pw k = ((2 ^ (32 * k) : Nat) : Int) := by
  induction k with
  | zero => rfl
  | succ k ih =>
    rw [pw_succ, ih, show 32 * (k + 1) = 32 * k + 32 by omega, Nat.pow_add]
    generalize 2 ^ (32 * k) = x
    omega
/-- b is the number of bits of N. -/
def BL (N b : Nat) : Prop := (N = 0 ∧ b = 0) ∨ (0 < b ∧ 2 ^ (b - 1) ≤ N ∧ N < 2 ^ b)
theorem BL_top {x : List Int} (h : Nf x) {n : Nat} (hn : x.length = n + 1) : BL (V x).toNat (32 * n + Lib.bitLen (dg x n).toNat) := by
  have h0 := h.2 (by omega)
  rw [hn, Nat.add_sub_cancel] at h0
  have hb := h.1 n
  have hl := (S_bound (f := dg x) (k := n) (fun j _ => h.1 j))
  have hv : V x = S (dg x) n + dg x n * pw n := by unfold V; rw [hn, S_succ]
  have hbb := Lib.bitLenAux_bounds 64 (dg x n).toNat (by omega) (by omega)
  have e : Lib.bitLenAux 64 (dg x n).toNat = Lib.bitLen (dg x n).toNat := rfl
  rw [e] at hbb
  obtain ⟨c1, c2, c3⟩ := hbb
  generalize Lib.bitLen (dg x n).toNat = m at *
  refine .inr ⟨by omega, ?_, ?_⟩
  · rw [show 32 * n + m - 1 = 32 * n + (m - 1) by omega, Nat.pow_add]
    have a1 : ((2 ^ (m - 1) : Nat) : Int) * pw n ≤ dg x n * pw n := Int.mul_le_mul_of_nonneg_right (by omega) (by have := pw_pos n; omega)
    rw [pw_two, ← Int.natCast_mul] at a1
    have a2 : ((2 ^ (m - 1) * 2 ^ (32 * n) : Nat) : Int) ≤ V x := by
      rw [hv, pw_two]
      omega
    rw [Nat.mul_comm]
    omega
  · have a1 : (dg x n + 1) * pw n ≤ ((2 ^ m : Nat) : Int) * pw n := Int.mul_le_mul_of_nonneg_right (by omega) (by have := pw_pos n; omega)
    rw [Int.add_mul, Int.one_mul] at a1
    have a2 : V x < ((2 ^ m : Nat) : Int) * pw n := by omega
    rw [pw_two, ← Int.natCast_mul] at a2
    have e3 : 2 ^ (32 * n + m) = 2 ^ m * 2 ^ (32 * n) := by rw [Nat.pow_add, Nat.mul_comm]
    rw [e3]
    have := V_nonneg h.1
    omega

/-- The number of bits. -/
def RetBits (N : Nat) (m : Nat) (w : World) (e : Ending) (w' : World) : Prop := ∃ b : Nat, e = .returned (.int .i64 (b : Int)) ∧ Hid (BL N b) ∧ b ≤ m ∧ Below w.heap.size w w'

end Go.Proofs.Ytocpncjmcaecoaa.M
namespace Go.Proofs.Ytocpncjmcaecoaa.M
set_option maxRecDepth 10000
open Go.RowKit
set_option linter.unusedVariables false
set_option linter.unusedSimpArgs false

/-- Shifting up: the first k digits have been taken; s below 32 and m limbs. -/
def ShI (a p : List Int) (m s k : Nat) : Prop := Lim p ∧ p.length = a.length + m + 1 ∧ (∀ j, k + m + 1 ≤ j → dg p j = 0) ∧ dg p (k + m) < ((2 ^ s : Nat) : Int) ∧ V p = pw m * (S (dg a) k * ((2 ^ s : Nat) : Int))
theorem sh_start (a : List Int) (m s : Nat) : ShI a (List.replicate (a.length + m + 1) 0) m s 0 := ⟨Lim.replicate _, by simp, fun j _ => dg_replicate _ j, by rw [dg_replicate]; have := Nat.two_pow_pos s; omega, by rw [V_replicate, S_zero]; simp⟩

theorem or32_low {h l : Int} {s : Nat} (hs : s ≤ 32) (h0 : 0 ≤ h) (h1 : h < ((2 ^ s : Nat) : Int)) (l0 : 0 ≤ l) (l1 : l ≤ 4294967295) (hd : l % ((2 ^ s : Nat) : Int) = 0) : Go.bits .or .u32 h l = h + l := by
  have hp : 2 ^ s ≤ 2 ^ 32 := Nat.pow_le_pow_right (by omega) hs
  obtain ⟨a, rfl⟩ := Int.eq_ofNat_of_zero_le h0
  obtain ⟨b, rfl⟩ := Int.eq_ofNat_of_zero_le l0
  rw [← Int.natCast_emod] at hd
  rw [u32_or a b h0 (by omega) l0 (by omega), Int.toNat_natCast, Int.toNat_natCast, Nat.or_comm, or_nat (a := b) (b := a) (m := s) (by omega) (by omega)]
  omega
theorem pow_dvd32 {s : Nat} (hs : s ≤ 32) : ((2 ^ s : Nat) : Int) ∣ 4294967296 := by
  have h : (2 ^ s : Nat) ∣ 2 ^ 32 := Nat.pow_dvd_pow 2 hs
  have h2 := Int.natCast_dvd_natCast.2 h
  exact h2
theorem pow_cast (s : Nat) : (2 : Int) ^ s = ((2 ^ s : Nat) : Int) := by simp
/-- What is shifted up: below 2^64, and its low limb is a multiple. -/
theorem sh_digit {x : Int} {s : Nat} (hs : s < 32) (h0 : 0 ≤ x) (h1 : x ≤ 4294967295) : 0 ≤ x * ((2 ^ s : Nat) : Int) ∧ x * ((2 ^ s : Nat) : Int) ≤ 18446744073709551615 ∧ x * ((2 ^ s : Nat) : Int) % 4294967296 % ((2 ^ s : Nat) : Int) = 0 ∧ x * ((2 ^ s : Nat) : Int) / 4294967296 < ((2 ^ s : Nat) : Int) := by
  have hp0 := Nat.two_pow_pos s
  have hp1 : 2 ^ s ≤ 2 ^ 31 := Nat.pow_le_pow_right (by omega) (by omega)
  have hb : x * ((2 ^ s : Nat) : Int) ≤ 4294967295 * ((2 ^ s : Nat) : Int) := Int.mul_le_mul_of_nonneg_right h1 (by omega)
  refine ⟨Int.mul_nonneg h0 (by omega), by omega, ?_, by omega⟩
  have hd := pow_dvd32 (show s ≤ 32 by omega)
  rw [Int.emod_emod_of_dvd _ hd, Int.mul_emod_left]
theorem sh_round {a p : List Int} {m s k : Nat} {T : Int} (h : ShI a p m s k) (ha : Lim a) (hk : k < a.length) (hs : s < 32) (hT : T = dg a k * ((2 ^ s : Nat) : Int)) :
    ShI a ((p.set (k + m) (dg p (k + m) + T % 4294967296)).set (k + m + 1) (T / 4294967296)) m s (k + 1) ∧ dg p (k + m) + T % 4294967296 ≤ 4294967295 := by
  obtain ⟨a1, a2, a3, a4, a5⟩ := h
  obtain ⟨t0, t1, t2, t3⟩ := sh_digit hs (ha k).1 (ha k).2
  rw [← hT] at t0 t1 t2 t3
  have hq := a1 (k + m)
  have hsum : dg p (k + m) + T % 4294967296 ≤ 4294967295 := by
    have hp0 := Nat.two_pow_pos s
    have hd := pow_dvd32 (show s ≤ 32 by omega)
    obtain ⟨c, hc⟩ := hd
    obtain ⟨e, he⟩ := Int.dvd_of_emod_eq_zero t2
    have h1 : T % 4294967296 < 4294967296 := by omega
    generalize ((2 ^ s : Nat) : Int) = E at *
    have h2 : e < c := by
      rcases Int.lt_or_le e c with h | h
      · exact h
      · have : E * c ≤ E * e := Int.mul_le_mul_of_nonneg_left h (by omega)
        omega
    have h3 : E * (e + 1) ≤ E * c := Int.mul_le_mul_of_nonneg_left (by omega) (by omega)
    rw [Int.mul_add, Int.mul_one] at h3
    omega
  refine ⟨⟨(a1.set _ (by omega) hsum).set _ (by omega) (by omega), by simp [a2], fun j hj => ?_, ?_, ?_⟩, hsum⟩
  · rw [dg_set, if_neg (fun h => by have := h.1; omega), dg_set, if_neg (fun h => by have := h.1; omega)]
    exact a3 j (by omega)
  · rw [show k + 1 + m = k + m + 1 by omega, dg_set, if_pos ⟨rfl, by rw [List.length_set]; omega⟩]
    exact t3
  · rw [V_set (by rw [List.length_set]; omega), V_set (by omega), dg_set, if_neg (fun h => by have := h.1; omega), a3 (k + m + 1) (by omega), S_succ, Int.add_mul, Int.mul_add, ← a5, pw_succ, pw_add]
    have e1 : dg p (k + m) + T % 4294967296 - dg p (k + m) = T % 4294967296 := by omega
    rw [e1, Int.sub_zero, ← Int.mul_assoc (T / 4294967296), Int.add_assoc, ← Int.add_mul]
    have e2 : T % 4294967296 + T / 4294967296 * 4294967296 = T := by omega
    rw [e2, hT]
    congr 1
    simp only [Int.mul_assoc, Int.mul_comm, Int.mul_left_comm]

end Go.Proofs.Ytocpncjmcaecoaa.M
namespace Go.Proofs.Ytocpncjmcaecoaa.M
set_option maxRecDepth 10000
open Go.RowKit
set_option linter.unusedVariables false
set_option linter.unusedSimpArgs false

/-- Half of a number: k digits have been done. -/
def HalfI (a p : List Int) (k : Nat) : Prop := Lim p ∧ p.length = a.length ∧ (∀ j, k ≤ j → dg p j = 0) ∧ 2 * V p + dg a 0 % 2 = S (dg a) k + dg a k % 2 * pw k
theorem half_start (a : List Int) : HalfI a (List.replicate a.length 0) 0 := ⟨Lim.replicate _, by simp, fun j _ => dg_replicate _ j, by rw [V_replicate, S_zero, pw_zero]; omega⟩
theorem half_round {a p : List Int} {k : Nat} {t : Int} (h : HalfI a p k) (ha : Lim a) (hk : k < a.length) (ht : t = (dg a (k + 1) * 4294967296 + dg a k) / 2 % 4294967296) : HalfI a (p.set k t) (k + 1) := by
  obtain ⟨a1, a2, a3, a4⟩ := h
  have h1 := ha k
  have h2 := ha (k + 1)
  refine ⟨a1.set _ (by omega) (by omega), by simp [a2], fun j hj => ?_, ?_⟩
  · rw [dg_set, if_neg (fun h => by have := h.1; omega)]; exact a3 j (by omega)
  · rw [V_set (by omega), a3 k (Nat.le_refl _), S_succ, pw_succ, ← Int.mul_assoc, Int.sub_zero]
    have e : 2 * t = dg a (k + 1) % 2 * 4294967296 + (dg a k - dg a k % 2) := by omega
    have e2 : 2 * t * pw k = dg a (k + 1) % 2 * 4294967296 * pw k + dg a k * pw k - dg a k % 2 * pw k := by
      rw [e, Int.add_mul, Int.sub_mul]
      omega
    have e3 : 2 * (V p + t * pw k) = 2 * V p + 2 * t * pw k := by rw [Int.mul_add, Int.mul_assoc]
    rw [e3]
    omega
theorem half_end {a p : List Int} (h : HalfI a p a.length) : V p = V a / 2 := by
  obtain ⟨a1, a2, a3, a4⟩ := h
  rw [dg_ge (xs := a) (Nat.le_refl _)] at a4
  have : 2 * V p + dg a 0 % 2 = V a := by rw [a4]; unfold V; omega
  omega

end Go.Proofs.Ytocpncjmcaecoaa.M
namespace Go.Proofs.Ytocpncjmcaecoaa.M
set_option maxRecDepth 10000
open Go.RowKit
set_option linter.unusedVariables false
set_option linter.unusedSimpArgs false

theorem limbs_mono {a b : Nat} (h : a ≤ b) : (limbs a).length ≤ (limbs b).length := limbs_len (by have := limbs_lt b; omega)
theorem two_pw (k : Nat) : ((2 ^ (32 * k) : Nat) : Int) = pw k := (pw_two k).symm
/-- The bits below k are 0. -/
def LowZ (p : List Int) (k : Nat) : Prop := ∀ i, dg p i % ((2 ^ (min 32 (k - 32 * i)) : Nat) : Int) = 0
theorem mod_pow_le {x : Int} {a b : Nat} (h : x % ((2 ^ b : Nat) : Int) = 0) (hab : a ≤ b) : x % ((2 ^ a : Nat) : Int) = 0 := by
  have h1 : ((2 ^ a : Nat) : Int) ∣ ((2 ^ b : Nat) : Int) := Int.natCast_dvd_natCast.2 (Nat.pow_dvd_pow 2 hab)
  exact Int.emod_eq_zero_of_dvd (Int.dvd_trans h1 (Int.dvd_of_emod_eq_zero h))
theorem LowZ.mono {p : List Int} {k j : Nat} (h : LowZ p k) (hj : j ≤ k) : LowZ p j := fun i => mod_pow_le (h i) (by omega)
theorem LowZ.start (n k : Nat) : LowZ (List.replicate n 0) k := fun i => by rw [dg_replicate]; simp
theorem or32_high {h l : Int} {s : Nat} (hs : s ≤ 32) (h0 : 0 ≤ h) (h1 : h < ((2 ^ s : Nat) : Int)) (l0 : 0 ≤ l) (l1 : l ≤ 4294967295) (hd : l % ((2 ^ s : Nat) : Int) = 0) : Go.bits .or .u32 l h = l + h := by
  have hp : 2 ^ s ≤ 2 ^ 32 := Nat.pow_le_pow_right (by omega) hs
  obtain ⟨a, rfl⟩ := Int.eq_ofNat_of_zero_le h0
  obtain ⟨b, rfl⟩ := Int.eq_ofNat_of_zero_le l0
  rw [← Int.natCast_emod] at hd
  rw [u32_or b a l0 (by omega) h0 (by omega), Int.toNat_natCast, Int.toNat_natCast, or_nat (a := b) (b := a) (m := s) (by omega) (by omega)]
  omega
/-- One bit is set. -/
theorem LowZ.bit {p : List Int} {m s : Nat} (h : LowZ p (32 * m + s + 1)) (hp : Lim p) (hs : s < 32) (hm : m < p.length) :
    Go.bits .or .u32 (dg p m) ((2 ^ s : Nat) : Int) = dg p m + ((2 ^ s : Nat) : Int) ∧ dg p m + ((2 ^ s : Nat) : Int) ≤ 4294967295 ∧ LowZ (p.set m (dg p m + ((2 ^ s : Nat) : Int))) (32 * m + s) ∧ V (p.set m (dg p m + ((2 ^ s : Nat) : Int))) = V p + ((2 ^ (32 * m + s) : Nat) : Int) := by
  have h0 := h m
  rw [show min 32 (32 * m + s + 1 - 32 * m) = s + 1 by omega] at h0
  have hb := hp m
  have hp0 := Nat.two_pow_pos s
  have e : 2 ^ (s + 1) = 2 ^ s * 2 := Nat.pow_succ 2 s
  have hor := or32_high (h := ((2 ^ s : Nat) : Int)) (l := dg p m) (s := s + 1) (by omega) (by omega) (by omega) hb.1 hb.2 h0
  have hsum : dg p m + ((2 ^ s : Nat) : Int) ≤ 4294967295 := by
    obtain ⟨c, hc⟩ := pow_dvd32 (show s + 1 ≤ 32 by omega)
    obtain ⟨d, hd⟩ := Int.dvd_of_emod_eq_zero h0
    have e2 : ((2 ^ (s + 1) : Nat) : Int) = 2 * ((2 ^ s : Nat) : Int) := by omega
    rw [e2] at hc hd
    generalize ((2 ^ s : Nat) : Int) = E at *
    have h2 : d < c := by
      rcases Int.lt_or_le d c with h | h
      · exact h
      · have : 2 * E * c ≤ 2 * E * d := Int.mul_le_mul_of_nonneg_left h (by omega)
        omega
    have h3 : 2 * E * (d + 1) ≤ 2 * E * c := Int.mul_le_mul_of_nonneg_left (by omega) (by omega)
    rw [Int.mul_add, Int.mul_one] at h3
    omega
  refine ⟨hor, hsum, fun i => ?_, ?_⟩
  · rw [dg_set]
    by_cases hi : i = m
    · subst hi
      rw [if_pos ⟨rfl, hm⟩, show min 32 (32 * i + s - 32 * i) = s by omega]
      have h1 := mod_pow_le h0 (show s ≤ s + 1 by omega)
      rw [Int.add_emod_right]
      exact h1
    · rw [if_neg (fun h => hi h.1)]
      exact mod_pow_le (h i) (by omega)
  · rw [V_set hm, pw_two, Nat.pow_add]
    have e3 : dg p m + ((2 ^ s : Nat) : Int) - dg p m = ((2 ^ s : Nat) : Int) := by omega
    rw [e3, ← Int.natCast_mul, Nat.mul_comm]

/-- Dividing bit by bit: the bits from k on have been done. -/
def DMI (A0 b n k A D : Nat) (p : List Int) : Prop := Lim p ∧ p.length = n / 32 + 1 ∧ LowZ p k ∧ A0 = (V p).toNat * b + A ∧ A < b * 2 ^ k ∧ D = b * 2 ^ k / 2
theorem toNat_addN {a : Int} (h : 0 ≤ a) (n : Nat) : (a + (n : Int)).toNat = a.toNat + n := by omega
theorem add_natCast_nonneg {a : Int} (h : 0 ≤ a) (n : Nat) : 0 ≤ a + (n : Int) := by omega
theorem dm_start {A0 b n : Nat} (h : A0 < b * 2 ^ (n + 1)) : DMI A0 b n (n + 1) A0 (b * 2 ^ n) (List.replicate (n / 32 + 1) 0) :=
  ⟨Lim.replicate _, by simp, LowZ.start _ _, by rw [V_replicate]; simp, h, by rw [Nat.pow_succ, ← Nat.mul_assoc, Nat.mul_div_cancel _ (by omega)]⟩
theorem dm_D {A0 b n k A D : Nat} {p : List Int} (h : DMI A0 b n (k + 1) A D p) : D = b * 2 ^ k ∧ D / 2 = b * 2 ^ k / 2 := by
  obtain ⟨_, _, _, _, _, h6⟩ := h
  have : D = b * 2 ^ k := by rw [h6, Nat.pow_succ, ← Nat.mul_assoc, Nat.mul_div_cancel _ (by omega)]
  exact ⟨this, by rw [this]⟩
theorem dm_yes {A0 b n m s A D : Nat} {p : List Int} (h : DMI A0 b n (32 * m + s + 1) A D p) (hs : s < 32) (hm : 32 * m + s ≤ n) (hle : D ≤ A) : DMI A0 b n (32 * m + s) (A - D) (D / 2) (p.set m (dg p m + ((2 ^ s : Nat) : Int))) := by
  obtain ⟨d1, d2⟩ := dm_D h
  obtain ⟨h1, h2, h3, h4, h5, h6⟩ := h
  have hml : m < p.length := by omega
  obtain ⟨b1, b2, b3, b4⟩ := h3.bit h1 hs hml
  refine ⟨h1.set _ (add_natCast_nonneg (h1 m).1 _) b2, by simp [h2], b3, ?_, ?_, d2⟩
  · have hv := V_nonneg h1
    have e : (V p + ((2 ^ (32 * m + s) : Nat) : Int)).toNat = (V p).toNat + 2 ^ (32 * m + s) := toNat_addN hv _
    rw [b4, e, Nat.add_mul, Nat.mul_comm (2 ^ (32 * m + s)), ← d1]
    omega
  · rw [Nat.pow_succ, ← Nat.mul_assoc, ← d1] at h5
    rw [← d1]
    omega
theorem dm_no {A0 b n k A D : Nat} {p : List Int} (h : DMI A0 b n (k + 1) A D p) (hlt : A < D) : DMI A0 b n k A (D / 2) p := by
  obtain ⟨d1, d2⟩ := dm_D h
  obtain ⟨h1, h2, h3, h4, h5, h6⟩ := h
  exact ⟨h1, h2, h3.mono (by omega), h4, by rw [← d1]; exact hlt, d2⟩
theorem dm_end {A0 b n A D : Nat} {p : List Int} (h : DMI A0 b n 0 A D p) : (V p).toNat = A0 / b ∧ A = A0 % b := by
  obtain ⟨h1, h2, h3, h4, h5, h6⟩ := h
  rw [Nat.pow_zero, Nat.mul_one] at h5
  have e : A0 = A + b * (V p).toNat := by rw [Nat.mul_comm b]; omega
  constructor
  · rw [e, Nat.add_mul_div_left _ _ (by omega), Nat.div_eq_of_lt h5]; omega
  · rw [e, Nat.add_mul_mod_self_left, Nat.mod_eq_of_lt h5]

/-- By the numbers of bits: less, or the divisor shifted reaches. -/
theorem bl_less {a b na nb : Nat} (ha : BL a na) (hb : BL b nb) (hb0 : 0 < b) (h : na < nb) : a < b := by
  rcases hb with ⟨h1, _⟩ | ⟨h1, h2, h3⟩
  · omega
  · rcases ha with ⟨h4, _⟩ | ⟨h4, h5, h6⟩
    · omega
    · have : 2 ^ na ≤ 2 ^ (nb - 1) := Nat.pow_le_pow_right (by omega) (by omega)
      omega
theorem bl_reach {a b na nb : Nat} (ha : BL a na) (hb : BL b nb) (hb0 : 0 < b) (h : nb ≤ na) : a < b * 2 ^ (na - nb + 1) := by
  rcases hb with ⟨h1, _⟩ | ⟨h1, h2, h3⟩
  · omega
  · have h7 : a < 2 ^ na := by
      rcases ha with ⟨h4, _⟩ | ⟨h4, h5, h6⟩
      · rw [h4]; exact Nat.two_pow_pos _
      · exact h6
    have e : 2 ^ (nb - 1) * 2 ^ (na - nb + 1) = 2 ^ na := by rw [← Nat.pow_add]; congr 1; omega
    have := Nat.mul_le_mul_right (2 ^ (na - nb + 1)) h2
    omega
theorem bl_len {a b na nb m : Nat} (ha : BL a na) (hb : BL b nb) (hb0 : 0 < b) (h : nb ≤ na) (hm : (a : Int) < pw m) : (limbs (b * 2 ^ (na - nb))).length ≤ m + 1 := by
  refine limbs_len ?_
  rcases hb with ⟨h1, _⟩ | ⟨h1, h2, h3⟩
  · omega
  · rcases ha with ⟨h4, h5⟩ | ⟨h4, h5, h6⟩
    · omega
    · have e : 2 ^ nb * 2 ^ (na - nb) = 2 * 2 ^ (na - 1) := by rw [← Nat.pow_add, ← Nat.pow_succ']; congr 1; omega
      have h8 : b * 2 ^ (na - nb) ≤ 2 ^ nb * 2 ^ (na - nb) := Nat.mul_le_mul_right _ (by omega)
      rw [e] at h8
      have := pw_pos m
      rw [pw_succ]
      omega

end Go.Proofs.Ytocpncjmcaecoaa.M
namespace Go.Proofs.Ytocpncjmcaecoaa.M
set_option maxRecDepth 10000
open Go.RowKit
set_option linter.unusedVariables false
set_option linter.unusedSimpArgs false

/-- What is read does not lie in block g. -/
def Sep (g : Nat) (A : Option Addr) (xs : List Int) : Prop := 0 < xs.length → ∀ ad, A = some ad → ad.block ≠ g
theorem RN.blk {w : World} {A : Option Addr} {c : Nat} {xs : List Int} (h : RN w A c xs) : 0 < xs.length → ∀ ad, A = some ad → ad.block < w.heap.size := by
  intro h0 ad e
  obtain ⟨ad', e', hc⟩ := h.1.2.2 0 h0
  rw [e] at e'
  cases e'
  have := World.block_lt_of_cell? w _ hc
  simpa [Addr.add] using this
theorem add_blk (ad : Addr) (i : Nat) : (ad.add i).block = ad.block := by unfold Addr.add; split <;> rfl
theorem RN.far {w : World} {A : Option Addr} {c : Nat} {xs : List Int} {g : Nat} (h : RN w A c xs) (hg : Sep g A xs) (j : Nat) (v : Value) : RN (w.setCell ⟨g, j, none⟩ v) A c xs := by
  refine ⟨⟨h.1.1, h.1.2.1, fun i hi => ?_⟩, h.2⟩
  obtain ⟨ad, e, hc⟩ := h.1.2.2 i hi
  refine ⟨ad, e, ?_⟩
  rw [← hc]
  refine World.cell?_of_block (Below.heap_setCell w ⟨g, j, none⟩ v _ ?_)
  have := hg (by omega) ad e
  rw [add_blk]
  exact this

end Go.Proofs.Ytocpncjmcaecoaa.M
