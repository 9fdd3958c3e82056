/- Dividing: shifting up and down by less than a limb. -/
import Derived.Test.YtgdlnmhpnlmofaaDivB
import Derived.Test.YtgdlnmhpnlmofaaRefG
namespace Go.Proofs.Ytgdlnmhpnlmofaa.M
set_option maxRecDepth 10000
open Go.RowKit
set_option linter.unusedVariables false
set_option linter.unusedSimpArgs false

theorem or64_low {h l : Int} {s : Nat} (hs : s ≤ 63) (h0 : 0 ≤ h) (h1 : h < ((2 ^ s : Nat) : Int)) (l0 : 0 ≤ l) (l1 : l ≤ 18446744073709551615) (hd : l % ((2 ^ s : Nat) : Int) = 0) : Go.bits .or .u64 h l = h + l := by
  have hp : 2 ^ s ≤ 2 ^ 63 := Nat.pow_le_pow_right (by omega) hs
  obtain ⟨a, rfl⟩ := Int.eq_ofNat_of_zero_le h0
  obtain ⟨b, rfl⟩ := Int.eq_ofNat_of_zero_le l0
  rw [← Int.natCast_emod] at hd
  rw [u64_or a b h0 (by omega) l0 (by omega), Int.toNat_natCast, Int.toNat_natCast, Nat.or_comm, or_nat (a := b) (b := a) (m := s) (by omega) (by omega)]
  omega

/-- Shifted up by E: k digits have been done, c is carried. -/
def UpI (a p : List Int) (E : Int) (k : Nat) (c : Int) : Prop := Lim p ∧ p.length = a.length + 1 ∧ (∀ j, k ≤ j → dg p j = 0) ∧ 0 ≤ c ∧ c < E ∧ V p + c * pw k = S (dg a) k * E
theorem up_start' (a : List Int) {E : Int} (hE : 0 < E) : UpI a (List.replicate (a.length + 1) 0) E 0 0 := ⟨Lim.replicate _, by simp, fun j _ => dg_replicate _ j, Int.le_refl _, hE, by rw [V_replicate, S_zero]; simp⟩
theorem up_round {a p : List Int} {E c : Int} {k : Nat} (h : UpI a p E k c) (hk : k ≤ a.length) (ha : Lim a) : UpI a (p.set k ((c + dg a k * E) % 4294967296)) E (k + 1) ((c + dg a k * E) / 4294967296) := by
  obtain ⟨a1, a2, a3, a4, a5, a6⟩ := h
  have b := ha k
  have h1 : 0 ≤ dg a k * E := Int.mul_nonneg b.1 (by omega)
  have h2 : dg a k * E ≤ 4294967295 * E := Int.mul_le_mul_of_nonneg_right b.2 (by omega)
  refine ⟨a1.set _ (by omega) (by omega), by simp [a2], fun j hj => ?_, by omega, by omega, ?_⟩
  · rw [dg_set, if_neg (fun h => by have := h.1; omega)]; exact a3 j (by omega)
  · rw [V_set (by omega), a3 k (Nat.le_refl _), S_succ, pw_succ, Int.sub_zero, Int.add_mul, ← a6]
    generalize hT : c + dg a k * E = T at *
    have e2 : T / 4294967296 * (4294967296 * pw k) = T / 4294967296 * 4294967296 * pw k := (Int.mul_assoc _ _ _).symm
    have e3 : T % 4294967296 * pw k + T / 4294967296 * 4294967296 * pw k = c * pw k + dg a k * pw k * E := by
      rw [← Int.add_mul, show T % 4294967296 + T / 4294967296 * 4294967296 = T by omega, ← hT, Int.add_mul]
      congr 1
      simp only [Int.mul_assoc, Int.mul_comm, Int.mul_left_comm]
    rw [e2]
    omega
theorem up_end {a p : List Int} {E : Int} (h : UpI a p E (a.length + 1) 0) : V p = V a * E := by
  obtain ⟨a1, a2, a3, a4, a5, a6⟩ := h
  have e : S (dg a) (a.length + 1) = V a := by
    rw [S_succ, dg_ge (Nat.le_refl _), Int.zero_mul]
    unfold V
    omega
  rw [e, Int.zero_mul, Int.add_zero] at a6
  exact a6

set_option maxHeartbeats 800000 in
theorem shiftUp_ok (w : World) (A : Option Addr) (c : Nat) (xs : List Int) (s : Nat) (hx : RN w A c xs) (hs : s < 32) (hl : xs.length + 1 ≤ 70368744177664) :
    Calls Try.prog 108 #[.slice A xs.length c, .int .u64 (s : Int)] w (fun e w' => ∃ p : List Int, e = .returned (.slice (some ⟨w.heap.size, 0, none⟩) (xs.length + 1) (xs.length + 1)) ∧ Hid (p.length = xs.length + 1) ∧ Hid (Lim p) ∧ Hid (V p = V xs * ((2 ^ s : Nat) : Int)) ∧ Bk w' w.heap.size 95 .u32 p ∧ Below w.heap.size w w') := by
  obtain ⟨i0, hi, hz0, hz1, hz2⟩ := info_parts info_u32
  have RX := Lib.hid hx
  clear hx
  have hE : 0 < ((2 ^ s : Nat) : Int) := by have := Nat.two_pow_pos s; omega
  have hmk := mk_make 29 95 i0 .u32 Try.underlying29 hi hz0 hz1 ((xs.length : Int) + 1) (by omega) (by rw [hz2]; omega) (by omega)
  rw [show ((xs.length : Int) + 1).toNat = xs.length + 1 from by omega] at hmk
  go_enter Try.func108, Try.ntmps108
  go_wp2_with fail
  clear hmk
  go_loopw [6, 15] (fun kv iv wr => ∃ (k : Nat) (q : Int) (p : List Int), k ≤ xs.length ∧ iv = .int .i64 (k : Int) ∧ kv = .int .u64 q ∧ 0 ≤ q ∧ q ≤ 4294967295 ∧ Hid (UpI xs p ((2 ^ s : Nat) : Int) k q) ∧ Bk wr w.heap.size 95 .u32 p ∧ Hid (Below w.heap.size w wr)) (fun _ iv _ => xs.length - (intOf iv).toNat)
  case atStart => exact ⟨0, 0, _, Nat.zero_le _, rfl, rfl, Int.le_refl _, by omega, up_start' xs hE, Bk.made _, (Below.refl _ w).alloc (Nat.le_refl _) _⟩
  case round =>
    obtain ⟨k, q, p, hk, rfl, rfl, hq0, hq1, HI, HB, HW⟩ := hrel
    by_cases hlt : k < xs.length
    · obtain ⟨ad, rfl, hcx⟩ := ((RX.out).below HW.out).1.2.2 k hlt
      have bx := (RX.out).2 k
      obtain ⟨hcp, hfp⟩ := HB.cell (j := k) (by have := HI.out.2.1; omega)
      obtain ⟨T, hT⟩ : ∃ T, T = dg xs k * ((2 ^ s : Nat) : Int) := ⟨_, rfl⟩
      obtain ⟨t0, t1, t2, t3⟩ := sh_digit hs bx.1 bx.2
      have t4 : dg xs k * ((2 ^ s : Nat) : Int) ≤ 4294967295 * 2147483648 := Int.mul_le_mul bx.2 (by have : 2 ^ s ≤ 2 ^ 31 := Nat.pow_le_pow_right (by omega) (by omega); omega) (by omega) (by omega)
      have t5 : (dg xs k * ((2 ^ s : Nat) : Int)) % ((2 ^ s : Nat) : Int) = 0 := Int.mul_emod_left _ _
      rw [← hT] at t0 t1 t4 t5
      have hor := or64_low (show s ≤ 63 by omega) hq0 HI.out.2.2.2.2.1 t0 (by omega) t5
      have hwr : IntKind.u64.wrap (dg xs k * 2 ^ s) = T := by
        rw [pow_cast, ← hT]
        exact IntWalk.u64_in T (by omega)
      have hS := up_round HI.out (by omega) RX.out.2
      rw [← hT] at hS
      have HS := Lib.hid hS
      have HM : Hid (Go.bits .and .u64 (q + T) 4294967295 % 4294967296 = (q + T) % 4294967296) := mask32 _ (by omega) (by omega)
      clear hT hS t2 t3 t5 hE
      go_wp2_with fail
      rw [HM.out]
      go_roundw
      case rel => exact ⟨k + 1, _, _, by omega, by go_num, rfl, by omega, by omega, HS, HB.set _ _, below_set HW.out (Nat.le_refl _) _⟩
      case measure => simp [intOf]; omega
    · obtain rfl : k = xs.length := by omega
      obtain ⟨hcp, hfp⟩ := HB.cell (j := xs.length) (by have := HI.out.2.1; omega)
      have hS := up_round HI.out (Nat.le_refl _) RX.out.2
      rw [dg_ge (xs := xs) (Nat.le_refl _), Int.zero_mul, Int.add_zero, Int.emod_eq_of_lt hq0 (by omega), Int.ediv_eq_zero_of_lt hq0 (by omega)] at hS
      have HS := Lib.hid hS
      clear hS
      go_wp2_with fail
      go_ret
      exact ⟨_, rfl, HS.out.2.1, HS.out.1, up_end HS.out, by first | exact HB.set _ _ | (have := HB.set xs.length q; simpa using this), below_set HW.out (Nat.le_refl _) _⟩

theorem or32' (a b : Int) (ha : 0 ≤ a) (ha2 : a ≤ 4294967295) (hb : 0 ≤ b) (hd : b % 4294967296 = 0) (hl : b ≤ 18446744073709551615) : Go.bits .or .u64 a b = a + b := by
  rw [u64_or a b ha (by omega) hb (by omega), Nat.or_comm, or_nat (m := 32) (by omega) (by omega)]
  omega

/-- Shifted down by E: k digits have been done. -/
def DnI (a p : List Int) (E : Int) (k : Nat) : Prop := Lim p ∧ p.length = a.length ∧ (∀ j, k ≤ j → dg p j = 0) ∧ E * V p + dg a 0 % E = S (dg a) k + dg a k % E * pw k
theorem dn_start (a : List Int) (E : Int) : DnI a (List.replicate a.length 0) E 0 := ⟨Lim.replicate _, by simp, fun j _ => dg_replicate _ j, by rw [V_replicate, S_zero, pw_zero]; simp⟩
theorem dn_digit {x y : Int} {s : Nat} (hs : s < 32) (hx : 0 ≤ x ∧ x ≤ 4294967295) (hy : 0 ≤ y ∧ y ≤ 4294967295) : ((2 ^ s : Nat) : Int) * ((y * 4294967296 + x) / ((2 ^ s : Nat) : Int) % 4294967296) = y % ((2 ^ s : Nat) : Int) * 4294967296 + (x - x % ((2 ^ s : Nat) : Int)) := by
  have hE : 0 < ((2 ^ s : Nat) : Int) := by have := Nat.two_pow_pos s; omega
  obtain ⟨c, hc⟩ := pow_dvd32 (show s ≤ 32 by omega)
  generalize ((2 ^ s : Nat) : Int) = E at *
  have hc0 : 0 < c := by
    rcases Int.lt_or_le 0 c with h | h
    · exact h
    · have : E * c ≤ 0 := Int.mul_nonpos_of_nonneg_of_nonpos (by omega) h
      omega
  have e1 : (y * 4294967296 + x) / E = y * c + x / E := by
    rw [hc, show y * (E * c) = E * (y * c) from by simp only [Int.mul_assoc, Int.mul_comm, Int.mul_left_comm], Int.mul_add_ediv_left _ _ (by omega)]
  have hq0 : 0 ≤ x / E := Int.ediv_nonneg hx.1 (by omega)
  have hq1 : x / E < c := Int.ediv_lt_of_lt_mul hE (by rw [Int.mul_comm, ← hc]; omega)
  have hr0 := Int.emod_nonneg y (by omega : E ≠ 0)
  have hr1 := Int.emod_lt_of_pos y hE
  have hy2 := Int.mul_ediv_add_emod y E
  have hx2 := Int.mul_ediv_add_emod x E
  have e2 : (y * c + x / E) % 4294967296 = y % E * c + x / E := by
    have h1 : y * c + x / E = (y % E * c + x / E) + 4294967296 * (y / E) := by
      have : y * c = (E * (y / E) + y % E) * c := by rw [hy2]
      rw [this, Int.add_mul, hc]
      have : E * (y / E) * c = E * c * (y / E) := by simp only [Int.mul_assoc, Int.mul_comm, Int.mul_left_comm]
      omega
    have h2 : 0 ≤ y % E * c := Int.mul_nonneg hr0 (by omega)
    have h3 : (y % E + 1) * c ≤ E * c := Int.mul_le_mul_of_nonneg_right (by omega) (by omega)
    rw [Int.add_mul, Int.one_mul] at h3
    rw [h1, Int.add_mul_emod_self_left, Int.emod_eq_of_lt (by omega) (by omega)]
  rw [e1, e2, Int.mul_add]
  have e3 : E * (y % E * c) = y % E * (E * c) := by simp only [Int.mul_assoc, Int.mul_comm, Int.mul_left_comm]
  rw [e3, ← hc]
  omega
theorem dn_round {a p : List Int} {k s : Nat} {t : Int} (h : DnI a p ((2 ^ s : Nat) : Int) k) (ha : Lim a) (hk : k < a.length) (hs : s < 32) (ht : t = (dg a (k + 1) * 4294967296 + dg a k) / ((2 ^ s : Nat) : Int) % 4294967296) : DnI a (p.set k t) ((2 ^ s : Nat) : Int) (k + 1) := by
  obtain ⟨a1, a2, a3, a4⟩ := h
  have hd := dn_digit hs (ha k) (ha (k + 1))
  rw [← ht] at hd
  refine ⟨a1.set _ (by omega) (by omega), by simp [a2], fun j hj => ?_, ?_⟩
  · rw [dg_set, if_neg (fun h => by have := h.1; omega)]; exact a3 j (by omega)
  · rw [V_set (by omega), a3 k (Nat.le_refl _), S_succ, pw_succ, ← Int.mul_assoc, Int.sub_zero, Int.mul_add, ← Int.mul_assoc, hd, Int.add_mul, Int.sub_mul]
    omega
theorem dn_end {a p : List Int} {E : Int} (hE : 0 < E) (h : DnI a p E a.length) : V p = V a / E := by
  obtain ⟨a1, a2, a3, a4⟩ := h
  rw [dg_ge (xs := a) (Nat.le_refl _), Int.zero_emod, Int.zero_mul, Int.add_zero] at a4
  have h0 := Int.emod_nonneg (dg a 0) (by omega : E ≠ 0)
  have h1 := Int.emod_lt_of_pos (dg a 0) hE
  have e : V a = dg a 0 % E + E * V p := by
    show S (dg a) a.length = _
    omega
  rw [e, Int.add_mul_ediv_left _ _ (by omega), Int.ediv_eq_zero_of_lt h0 h1]
  omega

set_option maxHeartbeats 800000 in
theorem shiftDown_ok (w : World) (A : Option Addr) (c : Nat) (xs : List Int) (s : Nat) (hx : RN w A c xs) (hs : s < 32) (hl : xs.length ≤ 70368744177664) :
    Calls Try.prog 112 #[.slice A xs.length c, .int .u64 (s : Int)] w (RetN ((V xs).toNat / 2 ^ s) w) := by
  obtain ⟨i0, hi, hz0, hz1, hz2⟩ := info_parts info_u32
  have RX := Lib.hid hx
  clear hx
  have hE : 0 < ((2 ^ s : Nat) : Int) := by have := Nat.two_pow_pos s; omega
  have HE := Lib.hid hE
  have hmk := mk_make 29 95 i0 .u32 Try.underlying29 hi hz0 hz1 (xs.length : Int) (by omega) (by rw [hz2]; omega) (by omega)
  rw [Int.toNat_natCast] at hmk
  go_enter Try.func112, Try.ntmps112
  go_wp2_with fail
  clear hmk
  go_loopw [13] (fun iv wr => ∃ (k : Nat) (p : List Int), k ≤ xs.length ∧ iv = .int .i64 (k : Int) ∧ Hid (DnI xs p ((2 ^ s : Nat) : Int) k) ∧ Bk wr w.heap.size 95 .u32 p ∧ Hid (Below w.heap.size w wr)) (fun iv _ => xs.length - (intOf iv).toNat)
  case atStart => exact ⟨0, _, Nat.zero_le _, rfl, dn_start xs _, Bk.made _, (Below.refl _ w).alloc (Nat.le_refl _) _⟩
  case round =>
    obtain ⟨k, p, hk, rfl, HI, HB, HW⟩ := hrel
    by_cases hlt : k < xs.length
    · obtain ⟨ad, rfl, hcx⟩ := ((RX.out).below HW.out).1.2.2 k hlt
      have bx := (RX.out).2 k
      have bx2 := (RX.out).2 (k + 1)
      obtain ⟨hcp, hfp⟩ := HB.cell (j := k) (by have := HI.out.2.1; omega)
      obtain ⟨m, hm⟩ : ∃ m, k + 1 = m := ⟨_, rfl⟩
      have hw1 : (k : Int) + 1 = (m : Int) := by omega
      have HS := Lib.hid (dn_round HI.out RX.out.2 hlt hs rfl)
      rw [hm] at bx2 HS
      by_cases hlt2 : m < xs.length
      · obtain ⟨_, had, hcx2⟩ := ((RX.out).below HW.out).1.2.2 m hlt2
        cases had
        have dl : decide ((m : Int) < (xs.length : Int)) = true := decide_eq_true (by omega)
        have HK : Hid (k + 1 = m) := hm
        clear hm
        have hor := or32' (dg xs k) (dg xs m * 4294967296) bx.1 bx.2 (by omega) (by omega) (by omega)
        go_wp2_with fail
        rw [mask32 _ (Int.ediv_nonneg (by omega) (by rw [pow_cast]; omega)) (Int.le_trans (Int.ediv_le_self _ (by omega)) (by omega)), pow_cast, Int.add_comm (dg xs k)]
        go_roundw
        case rel => exact ⟨m, _, by omega, rfl, by rw [← HK.out]; rw [← HK.out] at HS; exact HS, HB.set _ _, below_set HW.out (Nat.le_refl _) _⟩
        case measure => (have := HK.out); simp [intOf]; omega
      · have dl : decide ((m : Int) < (xs.length : Int)) = false := decide_eq_false (by omega)
        have HK : Hid (k + 1 = m) := hm
        clear hm
        go_wp2_with fail
        rw [dg_ge (xs := xs) (show xs.length ≤ m by omega), Int.zero_mul, Int.zero_add] at HS
        rw [mask32 _ (Int.ediv_nonneg (by omega) (by rw [pow_cast]; omega)) (Int.le_trans (Int.ediv_le_self _ (by omega)) (by omega)), pow_cast]
        go_roundw
        case rel => exact ⟨m, _, by (have := HK.out); omega, rfl, by rw [← HK.out]; rw [← HK.out] at HS; exact HS, HB.set _ _, below_set HW.out (Nat.le_refl _) _⟩
        case measure => (have := HK.out); simp [intOf]; omega
    · obtain rfl : k = xs.length := by omega
      have hpl : p.length = xs.length := HI.out.2.1
      have hR := HB.reads (by omega)
      have HP := Lib.hid hpl
      have HVP : Hid ((V p).toNat = (V xs).toNat / 2 ^ s) := by
        show _ = _
        rw [dn_end HE.out HI.out, toNat_div (V_nonneg RX.out.2) (by omega), Int.toNat_natCast]
      clear hpl
      go_wp2_with fail
      rw [← HP.out]
      refine (trim_ok _ _ _ p ⟨hR, HI.out.1⟩).mono ?_
      rintro e w1 ⟨rfl, z, rfl, HZ, hz⟩
      clear hR
      go_wp2_with fail
      go_ret
      refine ⟨_, _, z, rfl, ?_, hz, HW.out⟩
      show z = _
      rw [HZ.out, ← HVP.out]
      rfl

end Go.Proofs.Ytgdlnmhpnlmofaa.M
