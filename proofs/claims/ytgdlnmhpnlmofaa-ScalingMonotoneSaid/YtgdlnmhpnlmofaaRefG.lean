/- The reference: Shift. -/
import Derived.Test.YtgdlnmhpnlmofaaRefF
namespace Go.Proofs.Ytgdlnmhpnlmofaa.M
set_option maxRecDepth 10000
open Go.RowKit
set_option linter.unusedVariables false
set_option linter.unusedSimpArgs false

/-- Shifting up: the first k digits have been taken; s below 32 and m limbs. -/
def ShI (a p : List Int) (m s k : Nat) : Prop := Lim p ∧ p.length = a.length + m + 1 ∧ (∀ j, k + m + 1 ≤ j → dg p j = 0) ∧ dg p (k + m) < ((2 ^ s : Nat) : Int) ∧ V p = pw m * (S (dg a) k * ((2 ^ s : Nat) : Int))
theorem sh_start (a : List Int) (m s : Nat) : ShI a (List.replicate (a.length + m + 1) 0) m s 0 := ⟨Lim.replicate _, by simp, fun j _ => dg_replicate _ j, by rw [dg_replicate]; have := Nat.two_pow_pos s; omega, by rw [V_replicate, S_zero]; simp⟩

theorem or32_low {h l : Int} {s : Nat} (hs : s ≤ 32) (h0 : 0 ≤ h) (h1 : h < ((2 ^ s : Nat) : Int)) (l0 : 0 ≤ l) (l1 : l ≤ 4294967295) (hd : l % ((2 ^ s : Nat) : Int) = 0) : Go.bits .or .u32 h l = h + l := by
  have hp : 2 ^ s ≤ 2 ^ 32 := Nat.pow_le_pow_right (by omega) hs
  obtain ⟨a, rfl⟩ := Int.eq_ofNat_of_zero_le h0
  obtain ⟨b, rfl⟩ := Int.eq_ofNat_of_zero_le l0
  rw [← Int.natCast_emod] at hd
  rw [u32_or a b h0 (by omega) l0 (by omega), Int.toNat_natCast, Int.toNat_natCast, Nat.or_comm, or_nat (a := b) (b := a) (m := s) (by omega) (by omega)]
  omega
theorem pow_dvd32 {s : Nat} (hs : s ≤ 32) : ((2 ^ s : Nat) : Int) ∣ 4294967296 := by
  have h : (2 ^ s : Nat) ∣ 2 ^ 32 := Nat.pow_dvd_pow 2 hs
  have h2 := Int.natCast_dvd_natCast.2 h
  exact h2
theorem pow_cast (s : Nat) : (2 : Int) ^ s = ((2 ^ s : Nat) : Int) := by simp
/-- What is shifted up: below 2^64, and its low limb is a multiple. -/
theorem sh_digit {x : Int} {s : Nat} (hs : s < 32) (h0 : 0 ≤ x) (h1 : x ≤ 4294967295) : 0 ≤ x * ((2 ^ s : Nat) : Int) ∧ x * ((2 ^ s : Nat) : Int) ≤ 18446744073709551615 ∧ x * ((2 ^ s : Nat) : Int) % 4294967296 % ((2 ^ s : Nat) : Int) = 0 ∧ x * ((2 ^ s : Nat) : Int) / 4294967296 < ((2 ^ s : Nat) : Int) := by
  have hp0 := Nat.two_pow_pos s
  have hp1 : 2 ^ s ≤ 2 ^ 31 := Nat.pow_le_pow_right (by omega) (by omega)
  have hb : x * ((2 ^ s : Nat) : Int) ≤ 4294967295 * ((2 ^ s : Nat) : Int) := Int.mul_le_mul_of_nonneg_right h1 (by omega)
  refine ⟨Int.mul_nonneg h0 (by omega), by omega, ?_, by omega⟩
  have hd := pow_dvd32 (show s ≤ 32 by omega)
  rw [Int.emod_emod_of_dvd _ hd, Int.mul_emod_left]
theorem sh_round {a p : List Int} {m s k : Nat} {T : Int} (h : ShI a p m s k) (ha : Lim a) (hk : k < a.length) (hs : s < 32) (hT : T = dg a k * ((2 ^ s : Nat) : Int)) :
    ShI a ((p.set (k + m) (dg p (k + m) + T % 4294967296)).set (k + m + 1) (T / 4294967296)) m s (k + 1) ∧ dg p (k + m) + T % 4294967296 ≤ 4294967295 := by
  obtain ⟨a1, a2, a3, a4, a5⟩ := h
  obtain ⟨t0, t1, t2, t3⟩ := sh_digit hs (ha k).1 (ha k).2
  rw [← hT] at t0 t1 t2 t3
  have hq := a1 (k + m)
  have hsum : dg p (k + m) + T % 4294967296 ≤ 4294967295 := by
    have hp0 := Nat.two_pow_pos s
    have hd := pow_dvd32 (show s ≤ 32 by omega)
    obtain ⟨c, hc⟩ := hd
    obtain ⟨e, he⟩ := Int.dvd_of_emod_eq_zero t2
    have h1 : T % 4294967296 < 4294967296 := by omega
    generalize ((2 ^ s : Nat) : Int) = E at *
    have h2 : e < c := by
      rcases Int.lt_or_le e c with h | h
      · exact h
      · have : E * c ≤ E * e := Int.mul_le_mul_of_nonneg_left h (by omega)
        omega
    have h3 : E * (e + 1) ≤ E * c := Int.mul_le_mul_of_nonneg_left (by omega) (by omega)
    rw [Int.mul_add, Int.mul_one] at h3
    omega
  refine ⟨⟨(a1.set _ (by omega) hsum).set _ (by omega) (by omega), by simp [a2], fun j hj => ?_, ?_, ?_⟩, hsum⟩
  · rw [dg_set, if_neg (fun h => by have := h.1; omega), dg_set, if_neg (fun h => by have := h.1; omega)]
    exact a3 j (by omega)
  · rw [show k + 1 + m = k + m + 1 by omega, dg_set, if_pos ⟨rfl, by rw [List.length_set]; omega⟩]
    exact t3
  · rw [V_set (by rw [List.length_set]; omega), V_set (by omega), dg_set, if_neg (fun h => by have := h.1; omega), a3 (k + m + 1) (by omega), S_succ, Int.add_mul, Int.mul_add, ← a5, pw_succ, pw_add]
    have e1 : dg p (k + m) + T % 4294967296 - dg p (k + m) = T % 4294967296 := by omega
    rw [e1, Int.sub_zero, ← Int.mul_assoc (T / 4294967296), Int.add_assoc, ← Int.add_mul]
    have e2 : T % 4294967296 + T / 4294967296 * 4294967296 = T := by omega
    rw [e2, hT]
    congr 1
    simp only [Int.mul_assoc, Int.mul_comm, Int.mul_left_comm]

set_option maxHeartbeats 800000 in
theorem rshift_f (w : World) (A : Option Addr) (c : Nat) (xs : List Int) (n : Nat) (hx : RN w A c xs) (hs : xs.length + n / 32 + 1 ≤ 70368744177664) : Calls Try.prog 104 #[.slice A xs.length c, .int .i64 (n : Int)] w (RetF ((V xs).toNat * 2 ^ n) w) := by
  obtain ⟨m, hm⟩ : ∃ m, n / 32 = m := ⟨_, rfl⟩
  obtain ⟨s, hs32⟩ : ∃ s, n % 32 = s := ⟨_, rfl⟩
  have hn : n ≤ 2251799813685248 := by omega
  have hq : (n : Int) / 32 = (m : Int) := by omega
  have hr : (n : Int) % 32 = (s : Int) := by omega
  have hs1 : s < 32 := by omega
  have hms : xs.length + m + 1 ≤ 70368744177664 := by omega
  have HN : Hid (n = 32 * m + s) := by show _ = _; omega
  clear hm hs32 hs
  obtain ⟨i0, hi, hz0, hz1, hz2⟩ := info_parts info_u32
  have RX := Lib.hid hx
  clear hx
  have hmk := mk_make 29 95 i0 .u32 Try.underlying29 hi hz0 hz1 ((xs.length : Int) + (m : Int) + 1) (by omega) (by rw [hz2]; omega) (by omega)
  rw [show ((xs.length : Int) + (m : Int) + 1).toNat = xs.length + m + 1 from by omega] at hmk
  go_enter Try.func104, Try.ntmps104
  go_wp2_with fail
  clear hmk
  go_loopw [6] (fun iv wr => ∃ (k : Nat) (p : List Int), k ≤ xs.length ∧ iv = .int .i64 (k : Int) ∧ Hid (ShI xs p m s k) ∧ Bk wr w.heap.size 95 .u32 p ∧ Hid (Below w.heap.size w wr)) (fun iv _ => xs.length - (intOf iv).toNat)
  case atStart => exact ⟨0, _, Nat.zero_le _, rfl, sh_start xs m s, Bk.made _, (Below.refl _ w).alloc (Nat.le_refl _) _⟩
  case round =>
    obtain ⟨k, p, hk, rfl, HI, HB, HW⟩ := hrel
    by_cases hlt : k < xs.length
    · obtain ⟨ad, rfl, hcx⟩ := ((RX.out).below HW.out).1.2.2 k hlt
      have bx := (RX.out).2 k
      obtain ⟨hcp, hfp⟩ := HB.cell (j := k + m) (by have := HI.out.2.1; omega)
      have bp := HI.out.1 (k + m)
      obtain ⟨hcp2, hfp2⟩ := HB.cell (j := k + m + 1) (by have := HI.out.2.1; omega)
      obtain ⟨T, hT⟩ : ∃ T, T = dg xs k * ((2 ^ s : Nat) : Int) := ⟨_, rfl⟩
      obtain ⟨t0, t1, t2, t3⟩ := sh_digit hs1 bx.1 bx.2
      rw [← hT] at t0 t1 t2 t3
      obtain ⟨hS, hsum⟩ := sh_round HI.out RX.out.2 hlt hs1 hT
      have hor := or32_low (by omega) bp.1 HI.out.2.2.2.1 (by omega) (by omega) t2
      have hwr : IntKind.u64.wrap (dg xs k * 2 ^ s) = T := by
        rw [pow_cast, ← hT]
        exact IntWalk.u64_in T (by omega)
      have HS := Lib.hid hS
      clear hT hS t2 t3
      go_wp2_with fail
      go_roundw
      case rel => exact ⟨k + 1, _, by omega, by go_num, HS, by first | exact (HB.set _ _).set _ _, below_set (below_set HW.out (Nat.le_refl _) _) (Nat.le_refl _) _⟩
      case measure => simp [intOf]; omega
    · obtain rfl : k = xs.length := by omega
      have hpl : p.length ≤ 70368744177664 := by have := HI.out.2.1; omega
      have hR := HB.reads (by omega)
      have e1 : (V p).toNat = (V xs).toNat * 2 ^ n := by
        have h1 := HI.out.2.2.2.2
        have h2 := V_nonneg RX.out.2
        obtain ⟨v, hv⟩ := Int.eq_ofNat_of_zero_le h2
        have hv' : S (dg xs) xs.length = (v : Int) := hv
        rw [hv', pw_two, ← Int.natCast_mul, ← Int.natCast_mul] at h1
        rw [h1, hv, HN.out, Nat.pow_add]
        simp only [Int.toNat_natCast]
        simp only [Nat.mul_assoc, Nat.mul_comm, Nat.mul_left_comm]
      have HE := Lib.hid e1
      have HL := Lib.hid HI.out.2.1
      clear e1
      go_wp2_with fail
      rw [← HL.out]
      refine (rnorm_f _ _ _ p ⟨hR, HI.out.1⟩ hpl).mono ?_
      rintro e w1 ⟨g1, c1, z, hg1, rfl, HZ, hz, hB⟩
      have HB1 := Lib.hid (below_seq HW.out hB)
      clear hR hB
      go_wp2
      go_ret
      have hg2 := HW.out.size
      exact ⟨g1, _, z, Nat.le_trans hg2 hg1, rfl, by show z = _; rw [HZ.out, HE.out], hz, HB1.out⟩

theorem rshift_ok (w : World) (A : Option Addr) (c : Nat) (xs : List Int) (n : Nat) (hx : RN w A c xs) (hs : xs.length + n / 32 + 1 ≤ 70368744177664) : Calls Try.prog 104 #[.slice A xs.length c, .int .i64 (n : Int)] w (RetN ((V xs).toNat * 2 ^ n) w) := (rshift_f w A c xs n hx hs).mono fun _ _ h => h.n

end Go.Proofs.Ytgdlnmhpnlmofaa.M
