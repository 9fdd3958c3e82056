/- Dividing a number of the program by one limb. -/
import Derived.Test.YtgdlnmhpnlmofaaNatE
namespace Go.Proofs.Ytgdlnmhpnlmofaa.M
set_option maxRecDepth 10000
open Go.RowKit
set_option linter.unusedVariables false

theorem or_nat {a b m : Nat} (hb : b < 2 ^ m) (hd : a % 2 ^ m = 0) : a ||| b = a + b := by
  obtain ⟨c, rfl⟩ : ∃ c, a = 2 ^ m * c := ⟨a / 2 ^ m, by have := Nat.div_add_mod a (2 ^ m); omega⟩
  exact (Nat.two_pow_add_eq_or_of_lt hb c).symm
theorem or32 (a b : Int) (ha : 0 ≤ a) (hb : 0 ≤ b) (hb2 : b < 4294967296) (hd : a % 4294967296 = 0) (hl : a ≤ 18446744073709551615) : Go.bits .or .u64 a b = a + b := by
  rw [u64_or a b ha (by omega) hb (by omega), or_nat (m := 32) (by omega) (by omega)]
  omega

/-- Dividing by one limb: the digits from k on have been done. -/
def DivI (a p : List Int) (d : Int) (k : Nat) (r : Int) : Prop := Lim p ∧ p.length = a.length ∧ (∀ j, j < k → dg p j = 0) ∧ 0 ≤ r ∧ r < d ∧ V a - S (dg a) k = V p * d + r * pw k
theorem div_start (a : List Int) {d : Int} (hd : 0 < d) : DivI a (List.replicate a.length 0) d a.length 0 := ⟨Lim.replicate _, by simp, fun j _ => dg_replicate _ j, Int.le_refl _, hd, by rw [V_replicate]; unfold V; omega⟩
theorem div_round {a p : List Int} {d r t : Int} {k : Nat} (h : DivI a p d (k + 1) r) (ha : Lim a) (hk : k < a.length) (hd : d ≤ 4294967295) (ht : r * 4294967296 + dg a k = t) : DivI a (p.set k (t / d)) d k (t % d) := by
  obtain ⟨a1, a2, a3, a4, a5, a6⟩ := h
  have hak := ha k
  have t0 : 0 ≤ t := by omega
  have h0 : 0 ≤ t / d := Int.ediv_nonneg t0 (by omega)
  have h1 : t / d ≤ 4294967295 := by
    have hr : r + 1 ≤ d := by omega
    have : t < 4294967296 * d := by omega
    have := Int.ediv_lt_of_lt_mul (by omega : 0 < d) this
    omega
  have h2 := Int.emod_nonneg t (by omega : d ≠ 0)
  have h3 := Int.emod_lt_of_pos t (by omega : 0 < d)
  have h4 := Int.mul_ediv_add_emod t d
  refine ⟨a1.set _ h0 h1, by simp [a2], fun j hj => ?_, h2, h3, ?_⟩
  · rw [dg_set, if_neg (fun h => by have := h.1; omega)]; exact a3 j (by omega)
  · rw [V_set (by omega), a3 k (by omega), Int.sub_zero]
    rw [S_succ, pw_succ, ← Int.mul_assoc] at a6
    have e : (t / d * d) * pw k + t % d * pw k = r * 4294967296 * pw k + dg a k * pw k := by
      rw [← Int.add_mul, ← Int.add_mul, Int.mul_comm (t / d) d, h4, ht]
    have e2 : t / d * pw k * d = t / d * d * pw k := by rw [Int.mul_assoc, Int.mul_comm (pw k) d, ← Int.mul_assoc]
    rw [Int.add_mul, e2]
    omega
theorem div_small_lt {a p : List Int} {d r x : Int} {k : Nat} (h : DivI a p d k r) (hx : 0 ≤ x ∧ x ≤ 4294967295) (hd : 0 < d) : 0 ≤ (r * 4294967296 + x) / d ∧ (r * 4294967296 + x) / d < 4294967296 := by
  obtain ⟨_, _, _, a4, a5, _⟩ := h
  refine ⟨Int.ediv_nonneg (by omega) (by omega), Int.ediv_lt_of_lt_mul hd ?_⟩
  have : r + 1 ≤ d := by omega
  omega
theorem div_end {a p : List Int} {d r : Int} (h : DivI a p d 0 r) : V p = V a / d ∧ r = V a % d := by
  obtain ⟨a1, a2, a3, a4, a5, a6⟩ := h
  rw [S_zero, pw_zero] at a6
  have e : V a = r + d * V p := by rw [Int.mul_comm d]; omega
  rw [e]
  constructor
  · rw [Int.add_mul_ediv_left _ _ (by omega), Int.ediv_eq_zero_of_lt a4 a5]; omega
  · rw [Int.add_mul_emod_self_left, Int.emod_eq_of_lt a4 a5]

/-- A quotient and a remainder below 2^32. -/
def RetNU (N : Nat) (r : Int) (w : World) (e : Ending) (w' : World) : Prop := ∃ A c xs, e = .returned (.tuple #[.slice A xs.length c, .int .u32 r]) ∧ Hid (xs = limbs N) ∧ RN w' A c xs ∧ Below w.heap.size w w'

set_option maxHeartbeats 800000 in
theorem divSmall_ok (w : World) (A : Option Addr) (c : Nat) (xs : List Int) (d : Int) (hx : RN w A c xs) (hd0 : 0 < d) (hd1 : d ≤ 4294967295) (hs : xs.length ≤ 70368744177664) :
    Calls Try.prog 106 #[.slice A xs.length c, .int .u32 d] w (RetNU (V xs / d).toNat (V xs % d) w) := by
  obtain ⟨i0, hi, hz0, hz1, hz2⟩ := info_parts info_u32
  have RX := Lib.hid hx
  clear hx
  have hmk := mk_make 29 95 i0 .u32 Try.underlying29 hi hz0 hz1 (xs.length : Int) (by omega) (by rw [hz2]; omega) (by omega)
  rw [Int.toNat_natCast] at hmk
  go_enter Try.func106, Try.ntmps106
  go_wp2_with fail
  clear hmk
  go_loopw [7, 8] (fun rv iv wr => ∃ (k : Nat) (r : Int) (p : List Int), k ≤ xs.length ∧ iv = .int .i64 ((k : Int) - 1) ∧ rv = .int .u64 r ∧ 0 ≤ r ∧ r ≤ 4294967294 ∧ Hid (DivI xs p d k r) ∧ Bk wr w.heap.size 95 .u32 p ∧ Hid (Below w.heap.size w wr)) (fun _ iv _ => (intOf iv + 1).toNat)
  case atStart => exact ⟨xs.length, 0, _, Nat.le_refl _, rfl, rfl, Int.le_refl _, by omega, div_start xs hd0, Bk.made _, (Below.refl _ _).alloc (Nat.le_refl _) _⟩
  case round =>
    obtain ⟨k, r, p, hk, rfl, rfl, hr0, hr1, HI, HB, HW⟩ := hrel
    by_cases h0 : k = 0
    · subst h0
      have hpl : p.length = xs.length := HI.out.2.1
      have hR := HB.reads (by omega)
      have HP := Lib.hid hpl
      clear hpl
      go_wp2_with fail
      rw [← HP.out]
      refine (trim_ok _ _ _ p ⟨hR, HI.out.1⟩).mono ?_
      rintro e w1 ⟨rfl, z, rfl, HZ, hz⟩
      clear hR
      go_wp2_with fail
      go_ret2
      obtain ⟨e1, e2⟩ := div_end HI.out
      refine ⟨_, _, z, ?_, ?_, hz, HW.out⟩
      · rw [← e2]; rfl
      · show z = _
        rw [HZ.out, ← e1]
        rfl
    · obtain ⟨j, rfl⟩ : ∃ j, k = j + 1 := ⟨k - 1, by omega⟩
      have ej : ((j + 1 : Nat) : Int) - 1 = (j : Int) := by omega
      rw [ej]
      clear ej h0
      obtain ⟨ad, rfl, hcx⟩ := ((RX.out).below HW.out).1.2.2 j (by omega)
      have bx := (RX.out).2 j
      obtain ⟨hcp, hfp⟩ := HB.cell (j := j) (by have := HI.out.2.1; omega)
      have HS := Lib.hid (div_round HI.out RX.out.2 (by omega) hd1 rfl)
      have hor := or32 (r * 4294967296) (dg xs j) (by omega) bx.1 (by omega) (by omega) (by omega)
      go_wp2_with fail
      go_roundw
      case rel =>
        have h2 := Int.emod_nonneg (r * 4294967296 + dg xs j) (by omega : d ≠ 0)
        have h3 := Int.emod_lt_of_pos (r * 4294967296 + dg xs j) hd0
        have hq := div_small_lt HI.out bx hd0
        rw [Int.emod_eq_of_lt hq.1 hq.2]
        exact ⟨j, _, p.set j ((r * 4294967296 + dg xs j) / d), by omega, rfl, rfl, h2, by omega, HS, HB.set _ _, below_set HW.out (Nat.le_refl _) _⟩
      case measure => simp [intOf]

end Go.Proofs.Ytgdlnmhpnlmofaa.M
