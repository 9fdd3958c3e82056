/- Dividing: shifting up and down by less than a limb. Dividing: one round of the long division, in plain numbers. -/
import Derived.Test.YtocpncjmcaecoaaGreatDivB
import Derived.Test.YtocpncjmcaecoaaGreatRefJ
import Derived.Test.YtocpncjmcaecoaaGreatNatH
namespace Go.Proofs.YtocpncjmcaecoaaGreat.M
set_option maxRecDepth 10000
open Go.RowKit
set_option linter.unusedVariables false
set_option linter.unusedSimpArgs false

theorem or64_low {h l : Int} {s : Nat} (hs : s ≤ 63) (h0 : 0 ≤ h) (h1 : h < ((2 ^ s : Nat) : Int)) (l0 : 0 ≤ l) (l1 : l ≤ 18446744073709551615) (hd : l % ((2 ^ s : Nat) : Int) = 0) : Go.bits .or .u64 h l = h + l := by
  have hp : 2 ^ s ≤ 2 ^ 63 := Nat.pow_le_pow_right (by omega) hs
  obtain ⟨a, rfl⟩ := Int.eq_ofNat_of_zero_le h0
  obtain ⟨b, rfl⟩ := Int.eq_ofNat_of_zero_le l0
  rw [← Int.natCast_emod] at hd
  rw [u64_or a b h0 (by omega) l0 (by omega), Int.toNat_natCast, Int.toNat_natCast, Nat.or_comm, or_nat (a := b) (b := a) (m := s) (by omega) (by omega)]
  omega

/-- Shifted up by E: k digits have been done, c is carried. -/
def UpI (a p : List Int) (E : Int) (k : Nat) (c : Int) : Prop := Lim p ∧ p.length = a.length + 1 ∧ (∀ j, k ≤ j → dg p j = 0) ∧ 0 ≤ c ∧ c < E ∧ V p + c * pw k = S (dg a) k * E
theorem up_start' (a : List Int) {E : Int} (hE : 0 < E) : UpI a (List.replicate (a.length + 1) 0) E 0 0 := ⟨Lim.replicate _, by simp, fun j _ => dg_replicate _ j, Int.le_refl _, hE, by rw [V_replicate, S_zero]; simp⟩
theorem up_round {a p : List Int} {E c : Int} {k : Nat} (h : UpI a p E k c) (hk : k ≤ a.length) (ha : Lim a) : UpI a (p.set k ((c + dg a k * E) % 4294967296)) E (k + 1) ((c + dg a k * E) / 4294967296) := by
  obtain ⟨a1, a2, a3, a4, a5, a6⟩ := h
  have b := ha k
  have h1 : 0 ≤ dg a k * E := Int.mul_nonneg b.1 (by omega)
  have h2 : dg a k * E ≤ 4294967295 * E := Int.mul_le_mul_of_nonneg_right b.2 (by omega)
  refine ⟨a1.set _ (by omega) (by omega), by simp [a2], fun j hj => ?_, by omega, by omega, ?_⟩
  · rw [dg_set, if_neg (fun h => by have := h.1; omega)]; exact a3 j (by omega)
  · rw [V_set (by omega), a3 k (Nat.le_refl _), S_succ, pw_succ, Int.sub_zero, Int.add_mul, ← a6]
    generalize hT : c + dg a k * E = T at *
    have e2 : T / 4294967296 * (4294967296 * pw k) = T / 4294967296 * 4294967296 * pw k := (Int.mul_assoc _ _ _).symm
    have e3 : T % 4294967296 * pw k + T / 4294967296 * 4294967296 * pw k = c * pw k + dg a k * pw k * E := by
      rw [← Int.add_mul, show T % 4294967296 + T / 4294967296 * 4294967296 = T by omega, ← hT, Int.add_mul]
      congr 1
      simp only [Int.mul_assoc, Int.mul_comm, Int.mul_left_comm]
    rw [e2]
    omega
theorem up_end {a p : List Int} {E : Int} (h : UpI a p E (a.length + 1) 0) : V p = V a * E := by
  obtain ⟨a1, a2, a3, a4, a5, a6⟩ := h
  have e : S (dg a) (a.length + 1) = V a := by
    rw [S_succ, dg_ge (Nat.le_refl _), Int.zero_mul]
    unfold V
    omega
  rw [e, Int.zero_mul, Int.add_zero] at a6
  exact a6

set_option maxHeartbeats 800000 in
theorem shiftUp_ok (w : World) (A : Option Addr) (c : Nat) (xs : List Int) (s : Nat) (hx : RN w A c xs) (hs : s < 32) (hl : xs.length + 1 ≤ 70368744177664) :
    Calls Tryz.prog 115 #[.slice A xs.length c, .int .u64 (s : Int)] w (fun e w' => ∃ p : List Int, e = .returned (.slice (some ⟨w.heap.size, 0, none⟩) (xs.length + 1) (xs.length + 1)) ∧ Hid (p.length = xs.length + 1) ∧ Hid (Lim p) ∧ Hid (V p = V xs * ((2 ^ s : Nat) : Int)) ∧ Bk w' w.heap.size 83 .u32 p ∧ Below w.heap.size w w') := by
  obtain ⟨i0, hi, hz0, hz1, hz2⟩ := info_parts info_u32
  have RX := Lib.hid hx
  clear hx
  have hE : 0 < ((2 ^ s : Nat) : Int) := by have := Nat.two_pow_pos s; omega
  have hmk := mk_make 24 83 i0 .u32 Tryz.underlying24 hi hz0 hz1 ((xs.length : Int) + 1) (by omega) (by rw [hz2]; omega) (by omega)
  rw [show ((xs.length : Int) + 1).toNat = xs.length + 1 from by omega] at hmk
  go_enter Tryz.func115, Tryz.ntmps115
  go_wp2_with fail
  clear hmk
  go_loopw [6, 15] (fun kv iv wr => ∃ (k : Nat) (q : Int) (p : List Int), k ≤ xs.length ∧ iv = .int .i64 (k : Int) ∧ kv = .int .u64 q ∧ 0 ≤ q ∧ q ≤ 4294967295 ∧ Hid (UpI xs p ((2 ^ s : Nat) : Int) k q) ∧ Bk wr w.heap.size 83 .u32 p ∧ Hid (Below w.heap.size w wr)) (fun _ iv _ => xs.length - (intOf iv).toNat)
  case atStart => exact ⟨0, 0, _, Nat.zero_le _, rfl, rfl, Int.le_refl _, by omega, up_start' xs hE, Bk.made _, (Below.refl _ w).alloc (Nat.le_refl _) _⟩
  case round =>
    obtain ⟨k, q, p, hk, rfl, rfl, hq0, hq1, HI, HB, HW⟩ := hrel
    by_cases hlt : k < xs.length
    · obtain ⟨ad, rfl, hcx⟩ := ((RX.out).below HW.out).1.2.2 k hlt
      have bx := (RX.out).2 k
      obtain ⟨hcp, hfp⟩ := HB.cell (j := k) (by have := HI.out.2.1; omega)
      obtain ⟨T, hT⟩ : ∃ T, T = dg xs k * ((2 ^ s : Nat) : Int) := ⟨_, rfl⟩
      obtain ⟨t0, t1, t2, t3⟩ := sh_digit hs bx.1 bx.2
      have t4 : dg xs k * ((2 ^ s : Nat) : Int) ≤ 4294967295 * 2147483648 := Int.mul_le_mul bx.2 (by have : 2 ^ s ≤ 2 ^ 31 := Nat.pow_le_pow_right (by omega) (by omega); omega) (by omega) (by omega)
      have t5 : (dg xs k * ((2 ^ s : Nat) : Int)) % ((2 ^ s : Nat) : Int) = 0 := Int.mul_emod_left _ _
      rw [← hT] at t0 t1 t4 t5
      have hor := or64_low (show s ≤ 63 by omega) hq0 HI.out.2.2.2.2.1 t0 (by omega) t5
      have hwr : IntKind.u64.wrap (dg xs k * 2 ^ s) = T := by
        rw [pow_cast, ← hT]
        exact IntWalk.u64_in T (by omega)
      have hS := up_round HI.out (by omega) RX.out.2
      rw [← hT] at hS
      have HS := Lib.hid hS
      have HM : Hid (Go.bits .and .u64 (q + T) 4294967295 % 4294967296 = (q + T) % 4294967296) := mask32 _ (by omega) (by omega)
      clear hT hS t2 t3 t5 hE
      go_wp2_with fail
      rw [HM.out]
      go_roundw
      case rel => exact ⟨k + 1, _, _, by omega, by go_num, rfl, by omega, by omega, HS, HB.set _ _, below_set HW.out (Nat.le_refl _) _⟩
      case measure => simp [intOf]; omega
    · obtain rfl : k = xs.length := by omega
      obtain ⟨hcp, hfp⟩ := HB.cell (j := xs.length) (by have := HI.out.2.1; omega)
      have hS := up_round HI.out (Nat.le_refl _) RX.out.2
      rw [dg_ge (xs := xs) (Nat.le_refl _), Int.zero_mul, Int.add_zero, Int.emod_eq_of_lt hq0 (by omega), Int.ediv_eq_zero_of_lt hq0 (by omega)] at hS
      have HS := Lib.hid hS
      clear hS
      go_wp2_with fail
      go_ret
      exact ⟨_, rfl, HS.out.2.1, HS.out.1, up_end HS.out, by first | exact HB.set _ _ | (have := HB.set xs.length q; simpa using this), below_set HW.out (Nat.le_refl _) _⟩

theorem or32' (a b : Int) (ha : 0 ≤ a) (ha2 : a ≤ 4294967295) (hb : 0 ≤ b) (hd : b % 4294967296 = 0) (hl : b ≤ 18446744073709551615) : Go.bits .or .u64 a b = a + b := by
  rw [u64_or a b ha (by omega) hb (by omega), Nat.or_comm, or_nat (m := 32) (by omega) (by omega)]
  omega

/-- Shifted down by E: k digits have been done. -/
def DnI (a p : List Int) (E : Int) (k : Nat) : Prop := Lim p ∧ p.length = a.length ∧ (∀ j, k ≤ j → dg p j = 0) ∧ E * V p + dg a 0 % E = S (dg a) k + dg a k % E * pw k
theorem dn_start (a : List Int) (E : Int) : DnI a (List.replicate a.length 0) E 0 := ⟨Lim.replicate _, by simp, fun j _ => dg_replicate _ j, by rw [V_replicate, S_zero, pw_zero]; simp⟩
theorem dn_digit {x y : Int} {s : Nat} (hs : s < 32) (hx : 0 ≤ x ∧ x ≤ 4294967295) (hy : 0 ≤ y ∧ y ≤ 4294967295) : ((2 ^ s : Nat) : Int) * ((y * 4294967296 + x) / ((2 ^ s : Nat) : Int) % 4294967296) = y % ((2 ^ s : Nat) : Int) * 4294967296 + (x - x % ((2 ^ s : Nat) : Int)) := by
  have hE : 0 < ((2 ^ s : Nat) : Int) := by have := Nat.two_pow_pos s; omega
  obtain ⟨c, hc⟩ := pow_dvd32 (show s ≤ 32 by omega)
  generalize ((2 ^ s : Nat) : Int) = E at *
  have hc0 : 0 < c := by
    rcases Int.lt_or_le 0 c with h | h
    · exact h
    · have : E * c ≤ 0 := Int.mul_nonpos_of_nonneg_of_nonpos (by omega) h
      omega
  have e1 : (y * 4294967296 + x) / E = y * c + x / E := by
    rw [hc, show y * (E * c) = E * (y * c) from by simp only [Int.mul_assoc, Int.mul_comm, Int.mul_left_comm], Int.mul_add_ediv_left _ _ (by omega)]
  have hq0 : 0 ≤ x / E := Int.ediv_nonneg hx.1 (by omega)
  have hq1 : x / E < c := Int.ediv_lt_of_lt_mul hE (by rw [Int.mul_comm, ← hc]; omega)
  have hr0 := Int.emod_nonneg y (by omega : E ≠ 0)
  have hr1 := Int.emod_lt_of_pos y hE
  have hy2 := Int.mul_ediv_add_emod y E
  have hx2 := Int.mul_ediv_add_emod x E
  have e2 : (y * c + x / E) % 4294967296 = y % E * c + x / E := by
    have h1 : y * c + x / E = (y % E * c + x / E) + 4294967296 * (y / E) := by
      have : y * c = (E * (y / E) + y % E) * c := by rw [hy2]
      rw [this, Int.add_mul, hc]
      have : E * (y / E) * c = E * c * (y / E) := by simp only [Int.mul_assoc, Int.mul_comm, Int.mul_left_comm]
      omega
    have h2 : 0 ≤ y % E * c := Int.mul_nonneg hr0 (by omega)
    have h3 : (y % E + 1) * c ≤ E * c := Int.mul_le_mul_of_nonneg_right (by omega) (by omega)
    rw [Int.add_mul, Int.one_mul] at h3
    rw [h1, Int.add_mul_emod_self_left, Int.emod_eq_of_lt (by omega) (by omega)]
  rw [e1, e2, Int.mul_add]
  have e3 : E * (y % E * c) = y % E * (E * c) := by simp only [Int.mul_assoc, Int.mul_comm, Int.mul_left_comm]
  rw [e3, ← hc]
  omega
theorem dn_round {a p : List Int} {k s : Nat} {t : Int} (h : DnI a p ((2 ^ s : Nat) : Int) k) (ha : Lim a) (hk : k < a.length) (hs : s < 32) (ht : t = (dg a (k + 1) * 4294967296 + dg a k) / ((2 ^ s : Nat) : Int) % 4294967296) : DnI a (p.set k t) ((2 ^ s : Nat) : Int) (k + 1) := by
  obtain ⟨a1, a2, a3, a4⟩ := h
  have hd := dn_digit hs (ha k) (ha (k + 1))
  rw [← ht] at hd
  refine ⟨a1.set _ (by omega) (by omega), by simp [a2], fun j hj => ?_, ?_⟩
  · rw [dg_set, if_neg (fun h => by have := h.1; omega)]; exact a3 j (by omega)
  · rw [V_set (by omega), a3 k (Nat.le_refl _), S_succ, pw_succ, ← Int.mul_assoc, Int.sub_zero, Int.mul_add, ← Int.mul_assoc, hd, Int.add_mul, Int.sub_mul]
    omega
theorem dn_end {a p : List Int} {E : Int} (hE : 0 < E) (h : DnI a p E a.length) : V p = V a / E := by
  obtain ⟨a1, a2, a3, a4⟩ := h
  rw [dg_ge (xs := a) (Nat.le_refl _), Int.zero_emod, Int.zero_mul, Int.add_zero] at a4
  have h0 := Int.emod_nonneg (dg a 0) (by omega : E ≠ 0)
  have h1 := Int.emod_lt_of_pos (dg a 0) hE
  have e : V a = dg a 0 % E + E * V p := by
    show S (dg a) a.length = _
    omega
  rw [e, Int.add_mul_ediv_left _ _ (by omega), Int.ediv_eq_zero_of_lt h0 h1]
  omega

set_option maxHeartbeats 800000 in
theorem shiftDown_ok (w : World) (A : Option Addr) (c : Nat) (xs : List Int) (s : Nat) (hx : RN w A c xs) (hs : s < 32) (hl : xs.length ≤ 70368744177664) :
    Calls Tryz.prog 119 #[.slice A xs.length c, .int .u64 (s : Int)] w (RetN ((V xs).toNat / 2 ^ s) w) := by
  obtain ⟨i0, hi, hz0, hz1, hz2⟩ := info_parts info_u32
  have RX := Lib.hid hx
  clear hx
  have hE : 0 < ((2 ^ s : Nat) : Int) := by have := Nat.two_pow_pos s; omega
  have HE := Lib.hid hE
  have hmk := mk_make 24 83 i0 .u32 Tryz.underlying24 hi hz0 hz1 (xs.length : Int) (by omega) (by rw [hz2]; omega) (by omega)
  rw [Int.toNat_natCast] at hmk
  go_enter Tryz.func119, Tryz.ntmps119
  go_wp2_with fail
  clear hmk
  go_loopw [13] (fun iv wr => ∃ (k : Nat) (p : List Int), k ≤ xs.length ∧ iv = .int .i64 (k : Int) ∧ Hid (DnI xs p ((2 ^ s : Nat) : Int) k) ∧ Bk wr w.heap.size 83 .u32 p ∧ Hid (Below w.heap.size w wr)) (fun iv _ => xs.length - (intOf iv).toNat)
  case atStart => exact ⟨0, _, Nat.zero_le _, rfl, dn_start xs _, Bk.made _, (Below.refl _ w).alloc (Nat.le_refl _) _⟩
  case round =>
    obtain ⟨k, p, hk, rfl, HI, HB, HW⟩ := hrel
    by_cases hlt : k < xs.length
    · obtain ⟨ad, rfl, hcx⟩ := ((RX.out).below HW.out).1.2.2 k hlt
      have bx := (RX.out).2 k
      have bx2 := (RX.out).2 (k + 1)
      obtain ⟨hcp, hfp⟩ := HB.cell (j := k) (by have := HI.out.2.1; omega)
      obtain ⟨m, hm⟩ : ∃ m, k + 1 = m := ⟨_, rfl⟩
      have hw1 : (k : Int) + 1 = (m : Int) := by omega
      have HS := Lib.hid (dn_round HI.out RX.out.2 hlt hs rfl)
      rw [hm] at bx2 HS
      by_cases hlt2 : m < xs.length
      · obtain ⟨_, had, hcx2⟩ := ((RX.out).below HW.out).1.2.2 m hlt2
        cases had
        have dl : decide ((m : Int) < (xs.length : Int)) = true := decide_eq_true (by omega)
        have HK : Hid (k + 1 = m) := hm
        clear hm
        have hor := or32' (dg xs k) (dg xs m * 4294967296) bx.1 bx.2 (by omega) (by omega) (by omega)
        go_wp2_with fail
        rw [mask32 _ (Int.ediv_nonneg (by omega) (by rw [pow_cast]; omega)) (Int.le_trans (Int.ediv_le_self _ (by omega)) (by omega)), pow_cast, Int.add_comm (dg xs k)]
        go_roundw
        case rel => exact ⟨m, _, by omega, rfl, by rw [← HK.out]; rw [← HK.out] at HS; exact HS, HB.set _ _, below_set HW.out (Nat.le_refl _) _⟩
        case measure => (have := HK.out); simp [intOf]; omega
      · have dl : decide ((m : Int) < (xs.length : Int)) = false := decide_eq_false (by omega)
        have HK : Hid (k + 1 = m) := hm
        clear hm
        go_wp2_with fail
        rw [dg_ge (xs := xs) (show xs.length ≤ m by omega), Int.zero_mul, Int.zero_add] at HS
        rw [mask32 _ (Int.ediv_nonneg (by omega) (by rw [pow_cast]; omega)) (Int.le_trans (Int.ediv_le_self _ (by omega)) (by omega)), pow_cast]
        go_roundw
        case rel => exact ⟨m, _, by (have := HK.out); omega, rfl, by rw [← HK.out]; rw [← HK.out] at HS; exact HS, HB.set _ _, below_set HW.out (Nat.le_refl _) _⟩
        case measure => (have := HK.out); simp [intOf]; omega
    · obtain rfl : k = xs.length := by omega
      have hpl : p.length = xs.length := HI.out.2.1
      have hR := HB.reads (by omega)
      have HP := Lib.hid hpl
      have HVP : Hid ((V p).toNat = (V xs).toNat / 2 ^ s) := by
        show _ = _
        rw [dn_end HE.out HI.out, toNat_div (V_nonneg RX.out.2) (by omega), Int.toNat_natCast]
      clear hpl
      go_wp2_with fail
      rw [← HP.out]
      refine (trim_ok _ _ _ p ⟨hR, HI.out.1⟩).mono ?_
      rintro e w1 ⟨rfl, z, rfl, HZ, hz⟩
      clear hR
      go_wp2_with fail
      go_ret
      refine ⟨_, _, z, rfl, ?_, hz, HW.out⟩
      show z = _
      rw [HZ.out, ← HVP.out]
      rfl

end Go.Proofs.YtocpncjmcaecoaaGreat.M
namespace Go.Proofs.YtocpncjmcaecoaaGreat.M
set_option maxRecDepth 10000
open Go.RowKit
set_option linter.unusedVariables false
set_option linter.unusedSimpArgs false

/-- Long division: k digits of the quotient are still to come. -/
def LdI (U v p Q : List Int) (k : Nat) : Prop := Lim p ∧ p.length = U.length ∧ Lim Q ∧ (∀ t, t < k → dg Q t = 0) ∧ V p < V v * pw k ∧ V p + V v * V Q = V U

/-- A number is made of its lowest j digits and the rest. -/
theorem V_cut (p : List Int) (j m : Nat) (hp : ∀ t, j + m ≤ t → dg p t = 0) : V p = S (dg p) j + pw j * S (fun t => dg p (j + t)) m := by
  rw [← S_split]
  have h1 : S (dg p) (max p.length (j + m)) = V p := S_more (by omega) (fun t h1 h2 => dg_ge h1)
  have h2 : S (dg p) (max p.length (j + m)) = S (dg p) (j + m) := S_more (by omega) (fun t h1 h2 => hp t h1)
  rw [← h1, h2]
theorem dg_high {p : List Int} {m : Nat} (hp : Lim p) (h : V p < pw m) : ∀ t, m ≤ t → dg p t = 0 := by
  intro t ht
  have hl := hp t
  rcases Int.lt_or_le 0 (dg p t) with h0 | h0
  · have hlt : t < p.length := by
      rcases Nat.lt_or_ge t p.length with h | h
      · exact h
      · rw [dg_ge h] at h0; omega
    have h1 : V p = S (dg p) t + pw t * S (fun i => dg p (t + i)) (p.length - t) := V_cut p t _ (fun i hi => dg_ge (by omega))
    have h2 := (S_bound (f := dg p) (k := t) (fun i _ => hp i)).1
    have h3 : dg p t ≤ S (fun i => dg p (t + i)) (p.length - t) := by
      obtain ⟨e, he⟩ : ∃ e, p.length - t = e + 1 := ⟨p.length - t - 1, by omega⟩
      rw [he, S_shift]
      have := (S_bound (f := fun i => dg p (t + (i + 1))) (k := e) (fun i _ => hp _)).1
      show dg p t ≤ dg p (t + 0) + _
      simp only [Nat.add_zero]
      omega
    have h4 : pw t * 1 ≤ pw t * S (fun i => dg p (t + i)) (p.length - t) := Int.mul_le_mul_of_nonneg_left (by omega) (Int.le_of_lt (pw_pos t))
    have h5 := pw_le ht
    omega
  · omega

/-- What the guess is worth: it is the digit or one more. -/
theorem guess_near {W Vv : Int} {u2 u1 u0 v1 v0 R L d P : Int} (hP : 0 < P) (hW : W = ((u2 * 4294967296 + u1) * 4294967296 + u0) * P + R) (hR : 0 ≤ R ∧ R < P)
    (hV : Vv = (v1 * 4294967296 + v0) * P + L) (hL : 0 ≤ L ∧ L < P) (hv1 : 1 ≤ v1) (hv0 : 0 ≤ v0) (hU0 : 0 ≤ (u2 * 4294967296 + u1) * 4294967296 + u0) (hW0 : 0 ≤ W) (hWB : W < Vv * 4294967296) (hg : GuR u2 u1 u0 v1 v0 d) :
    (d = W / Vv ∨ d = W / Vv + 1) ∧ 0 < Vv ∧ W / Vv ≤ 4294967295 := by
  obtain ⟨g0, g1, g2, g3⟩ := hg
  generalize hU3 : (u2 * 4294967296 + u1) * 4294967296 + u0 = U3 at *
  generalize hV2 : v1 * 4294967296 + v0 = V2 at *
  have hV2p : 4294967296 ≤ V2 := by omega
  have h1 : 4294967296 * P ≤ V2 * P := Int.mul_le_mul_of_nonneg_right hV2p (by omega)
  have hVp : 0 < Vv := by omega
  have hq := Int.mul_ediv_add_emod W Vv
  have hr0 := Int.emod_nonneg W (by omega : Vv ≠ 0)
  have hr1 := Int.emod_lt_of_pos W hVp
  have hqB : W / Vv ≤ 4294967295 := by
    have := Int.ediv_lt_of_lt_mul hVp (by rw [Int.mul_comm]; exact hWB : W < 4294967296 * Vv)
    omega
  generalize W / Vv = q at *
  have hle : q ≤ d := g3 q hqB fun d' hd' => by
    have hd0 : 0 ≤ d' := by
      rcases Int.lt_or_le d' 0 with h | h
      · have : d' * V2 ≤ 0 := Int.mul_nonpos_of_nonpos_of_nonneg (by omega) (by omega)
        omega
      · exact h
    rcases Int.lt_or_le q d' with h | h
    · exact h
    · exfalso
      have e1 : (U3 + 1) * P ≤ d' * V2 * P := Int.mul_le_mul_of_nonneg_right (by omega) (by omega)
      have e2 : d' * Vv ≤ q * Vv := Int.mul_le_mul_of_nonneg_right h (by omega)
      have e3 : d' * Vv = d' * V2 * P + d' * L := by rw [hV, Int.mul_add, Int.mul_assoc]
      have e4 : 0 ≤ d' * L := Int.mul_nonneg hd0 hL.1
      rw [Int.add_mul, Int.one_mul] at e1
      have e5 : q * Vv = Vv * q := Int.mul_comm _ _
      omega
  have hge : d ≤ q + 1 := by
    rcases Int.lt_or_le d (q + 2) with h | h
    · omega
    · exfalso
      have e1 : (q + 2) * Vv ≤ d * Vv := Int.mul_le_mul_of_nonneg_right h (by omega)
      have e2 : d * Vv = d * V2 * P + d * L := by rw [hV, Int.mul_add, Int.mul_assoc]
      have e3 : d * V2 * P ≤ U3 * P := Int.mul_le_mul_of_nonneg_right g2 (by omega)
      have e4 : d * L ≤ 4294967295 * P := Int.mul_le_mul g1 (by omega) hL.1 (by omega)
      rw [Int.add_mul] at e1
      have e5 : q * Vv = Vv * q := Int.mul_comm _ _
      omega
  exact ⟨by omega, hVp, hqB⟩

/-- The part that a round works on. -/
theorem ld_part {U v p Q : List Int} {j : Nat} (h : LdI U v p Q (j + 1)) (hv : Lim v) : (∀ t, j + (v.length + 1) ≤ t → dg p t = 0) ∧ V p = S (dg p) j + pw j * S (fun t => dg p (j + t)) (v.length + 1) ∧ 0 ≤ S (fun t => dg p (j + t)) (v.length + 1) ∧ S (fun t => dg p (j + t)) (v.length + 1) < V v * 4294967296 := by
  obtain ⟨a1, a2, a3, a4, a5, a6⟩ := h
  have h0 : ∀ t, j + (v.length + 1) ≤ t → dg p t = 0 := dg_high a1 (by
    have h1 := V_lt hv
    have h2 : V v * pw (j + 1) ≤ pw v.length * pw (j + 1) := Int.mul_le_mul_of_nonneg_right (by omega) (Int.le_of_lt (pw_pos _))
    rw [← pw_add, show v.length + (j + 1) = j + (v.length + 1) by omega] at h2
    omega)
  have h1 := V_cut p j (v.length + 1) h0
  have h2 := (S_bound (f := fun t => dg p (j + t)) (k := v.length + 1) (fun i _ => a1 _)).1
  have h3 := (S_bound (f := dg p) (k := j) (fun i _ => a1 i)).1
  refine ⟨h0, h1, h2, ?_⟩
  rcases Int.lt_or_le (S (fun t => dg p (j + t)) (v.length + 1)) (V v * 4294967296) with h | h
  · exact h
  · have h4 : pw j * (V v * 4294967296) ≤ pw j * S (fun t => dg p (j + t)) (v.length + 1) := Int.mul_le_mul_of_nonneg_left h (Int.le_of_lt (pw_pos _))
    rw [pw_succ] at a5
    have e : V v * (4294967296 * pw j) = pw j * (V v * 4294967296) := by simp only [Int.mul_assoc, Int.mul_comm, Int.mul_left_comm]
    omega
theorem ld_round {U v p p' Q : List Int} {j : Nat} {q : Int} (h : LdI U v p Q (j + 1)) (hv : Lim v) (hj : j < Q.length) (hq : 0 ≤ q ∧ q ≤ 4294967295) (h1 : Lim p') (h2 : p'.length = p.length)
    (h3 : ∀ t, t < j ∨ j + (v.length + 1) ≤ t → dg p' t = dg p t) (h4 : S (fun t => dg p' (j + t)) (v.length + 1) = S (fun t => dg p (j + t)) (v.length + 1) - q * V v)
    (h5 : S (fun t => dg p (j + t)) (v.length + 1) - q * V v < V v) : LdI U v p' (Q.set j q) j := by
  obtain ⟨p1, p2, p3, p4⟩ := ld_part h hv
  obtain ⟨a1, a2, a3, a4, a5, a6⟩ := h
  have e1 : V p' = S (dg p') j + pw j * S (fun t => dg p' (j + t)) (v.length + 1) := V_cut p' j _ (fun t ht => by rw [h3 t (.inr ht)]; exact p1 t ht)
  have e2 : S (dg p') j = S (dg p) j := S_congr fun t ht => h3 t (.inl ht)
  have e3 : V (Q.set j q) = V Q + q * pw j := by rw [V_set hj, a4 j (by omega), Int.sub_zero]
  have e4 : pw j * (q * V v) = V v * (q * pw j) := by simp only [Int.mul_assoc, Int.mul_comm, Int.mul_left_comm]
  have e5 := (S_bound (f := dg p) (k := j) (fun i _ => a1 i)).2
  have e6 : pw j * S (fun t => dg p' (j + t)) (v.length + 1) ≤ pw j * (V v - 1) := Int.mul_le_mul_of_nonneg_left (by rw [h4]; omega) (Int.le_of_lt (pw_pos _))
  rw [Int.mul_sub, Int.mul_one, Int.mul_comm (pw j) (V v)] at e6
  refine ⟨h1, by omega, a3.set _ hq.1 hq.2, fun t ht => ?_, by omega, ?_⟩
  · rw [dg_set, if_neg (by omega)]
    exact a4 t (by omega)
  · rw [e3, e1, e2, h4, Int.mul_sub, e4, Int.mul_add, ← a6, p2]
    omega
theorem ld_end {U v p Q : List Int} (h : LdI U v p Q 0) (hv : 0 < V v) : V Q = V U / V v ∧ V p = V U % V v := by
  obtain ⟨a1, a2, a3, a4, a5, a6⟩ := h
  rw [pw_zero, Int.mul_one] at a5
  have h0 := V_nonneg a1
  rw [← a6]
  constructor
  · rw [Int.add_mul_ediv_left _ _ (by omega), Int.ediv_eq_zero_of_lt h0 a5]; omega
  · rw [Int.add_mul_emod_self_left, Int.emod_eq_of_lt h0 a5]
theorem ld_start {U v : List Int} {k m : Nat} (h : Lim U) (hlt : V U < V v * pw k) : LdI U v U (List.replicate m 0) k := ⟨h, rfl, Lim.replicate _, fun j _ => dg_replicate _ j, hlt, by rw [V_replicate, Int.mul_zero, Int.add_zero]⟩

/-- The tops: the divisor's top digit is not nought, and that of the part is no greater. -/
theorem ld_tops {v p : List Int} {j n1 : Nat} (hv : Lim v) (hp : Lim p) (hn : v.length = n1 + 1) (h0 : pw n1 ≤ V v) (hW : S (fun t => dg p (j + t)) (v.length + 1) < V v * 4294967296) : 0 < dg v n1 ∧ dg p (j + v.length) ≤ dg v n1 := by
  have e1 : V v = S (dg v) n1 + dg v n1 * pw n1 := by unfold V; rw [hn, S_succ]
  have b1 := S_bound (f := dg v) (k := n1) (fun i _ => hv i)
  have hpos := pw_pos n1
  have h1 : 0 < dg v n1 := by
    rcases Int.lt_or_le 0 (dg v n1) with h | h
    · exact h
    · have : dg v n1 * pw n1 ≤ 0 := Int.mul_nonpos_of_nonpos_of_nonneg h (by omega)
      omega
  refine ⟨h1, ?_⟩
  rw [S_succ] at hW
  have b2 := (S_bound (f := fun t => dg p (j + t)) (k := v.length) (fun i _ => hp _)).1
  rcases Int.lt_or_le (dg v n1) (dg p (j + v.length)) with h | h
  · have h3 : (dg v n1 + 1) * pw v.length ≤ dg p (j + v.length) * pw v.length := Int.mul_le_mul_of_nonneg_right h (Int.le_of_lt (pw_pos _))
    rw [Int.add_mul, Int.one_mul] at h3
    rw [hn] at h3 hW b2
    rw [pw_succ] at h3 hW
    have e2 : dg v n1 * (4294967296 * pw n1) = dg v n1 * pw n1 * 4294967296 := by simp only [Int.mul_assoc, Int.mul_comm, Int.mul_left_comm]
    rw [e2] at h3
    exfalso
    have hW2 : S (fun t => dg p (j + t)) (n1 + 1) + dg p (j + (n1 + 1)) * (4294967296 * pw n1) < V v * 4294967296 := hW
    omega
  · exact h

/-- The guess of a round is the digit or one more. -/
theorem round_near {U v p Q : List Int} {j n2 : Nat} {d : Int} (h : LdI U v p Q (j + 1)) (hv : Lim v) (hn : v.length = n2 + 2) (h1 : 0 < dg v (n2 + 1)) (hg : GuR (dg p (j + (n2 + 2))) (dg p (j + (n2 + 1))) (dg p (j + n2)) (dg v (n2 + 1)) (dg v n2) d) :
    (d = S (fun t => dg p (j + t)) (v.length + 1) / V v ∨ d = S (fun t => dg p (j + t)) (v.length + 1) / V v + 1) ∧ 0 < V v ∧ S (fun t => dg p (j + t)) (v.length + 1) / V v ≤ 4294967295 := by
  obtain ⟨p1, p2, p3, p4⟩ := ld_part h hv
  have hp : Lim p := h.1
  have a0 := hp (j + n2)
  have a1 := hp (j + (n2 + 1))
  have a2 := hp (j + (n2 + 2))
  have b0 := hv n2
  refine guess_near (pw_pos n2) (R := S (fun t => dg p (j + t)) n2) (L := S (dg v) n2) ?_ (S_bound (fun i _ => hp _)) ?_ (S_bound (fun i _ => hv _)) (by omega) b0.1 (by omega) p3 p4 hg
  · rw [hn, show n2 + 2 + 1 = n2 + 1 + 1 + 1 from rfl, S_succ, S_succ, S_succ, pw_succ, pw_succ]
    show S (fun t => dg p (j + t)) n2 + dg p (j + n2) * pw n2 + dg p (j + (n2 + 1)) * (4294967296 * pw n2) + dg p (j + (n2 + 2)) * (4294967296 * (4294967296 * pw n2)) = _
    have e1 : dg p (j + (n2 + 1)) * (4294967296 * pw n2) = dg p (j + (n2 + 1)) * 4294967296 * pw n2 := (Int.mul_assoc _ _ _).symm
    have e2 : dg p (j + (n2 + 2)) * (4294967296 * (4294967296 * pw n2)) = dg p (j + (n2 + 2)) * 4294967296 * 4294967296 * pw n2 := by simp only [Int.mul_assoc]
    rw [e1, e2, Int.add_mul, Int.add_mul, Int.add_mul]
    omega
  · unfold V
    rw [hn, show n2 + 2 = n2 + 1 + 1 from rfl, S_succ, S_succ, pw_succ]
    have e1 : dg v (n2 + 1) * (4294967296 * pw n2) = dg v (n2 + 1) * 4294967296 * pw n2 := (Int.mul_assoc _ _ _).symm
    rw [e1, Int.add_mul]
    omega
theorem round_keeps {U v p Q p1 : List Int} {j : Nat} {d : Int} (h : LdI U v p Q (j + 1)) (hv : Lim v) (hj : j < Q.length) (hd : 0 ≤ d ∧ d ≤ 4294967295)
    (hn : (d = S (fun t => dg p (j + t)) (v.length + 1) / V v ∨ d = S (fun t => dg p (j + t)) (v.length + 1) / V v + 1) ∧ 0 < V v ∧ S (fun t => dg p (j + t)) (v.length + 1) / V v ≤ 4294967295)
    (hs : SbI p v p1 j d (v.length + 1) (if false = true then 1 else 0) 0) : LdI U v p1 (Q.set j d) j := by
  obtain ⟨hn1, hn2, hn3⟩ := hn
  have he := sb_end (n := false) hs
  rw [if_neg (by decide), Int.zero_mul, Int.sub_zero] at he
  have hb := S_bound (f := fun t => dg p1 (j + t)) (k := v.length + 1) (fun i _ => hs.1 _)
  have q1 := Int.mul_ediv_add_emod (S (fun t => dg p (j + t)) (v.length + 1)) (V v)
  have q2 := Int.emod_lt_of_pos (S (fun t => dg p (j + t)) (v.length + 1)) hn2
  refine ld_round h hv hj hd hs.1 hs.2.1 hs.2.2.1 he ?_
  have e1 : V v * (S (fun t => dg p (j + t)) (v.length + 1) / V v) = S (fun t => dg p (j + t)) (v.length + 1) / V v * V v := Int.mul_comm _ _
  rcases hn1 with h1 | h1
  · rw [h1]; omega
  · exfalso
    rw [h1, Int.add_mul, Int.one_mul] at he
    omega
theorem round_back {U v p Q p1 p2 : List Int} {j : Nat} {d c : Int} (h : LdI U v p Q (j + 1)) (hv : Lim v) (hj : j < Q.length)
    (hn : (d = S (fun t => dg p (j + t)) (v.length + 1) / V v ∨ d = S (fun t => dg p (j + t)) (v.length + 1) / V v + 1) ∧ 0 < V v ∧ S (fun t => dg p (j + t)) (v.length + 1) / V v ≤ 4294967295)
    (hs : SbI p v p1 j d (v.length + 1) 1 0) (ha : AbI p1 v p2 j (v.length + 1) c) (hc : 0 ≤ c ∧ c ≤ 1) : LdI U v p2 (Q.set j (d - 1)) j ∧ 0 ≤ d - 1 ∧ d - 1 ≤ 4294967295 := by
  obtain ⟨hn1, hn2, hn3⟩ := hn
  have he := sb_end (n := true) hs
  rw [if_pos rfl, Int.one_mul] at he
  have hb := S_bound (f := fun t => dg p1 (j + t)) (k := v.length + 1) (fun i _ => hs.1 _)
  have hb2 := S_bound (f := fun t => dg p2 (j + t)) (k := v.length + 1) (fun i _ => ha.1 _)
  have hae := ab_end ha
  obtain ⟨s1, s2, s3, _⟩ := hs
  obtain ⟨t1, t2, t3, _⟩ := ha
  have q1 := Int.mul_ediv_add_emod (S (fun t => dg p (j + t)) (v.length + 1)) (V v)
  have q2 := Int.emod_lt_of_pos (S (fun t => dg p (j + t)) (v.length + 1)) hn2
  have q3 := Int.emod_nonneg (S (fun t => dg p (j + t)) (v.length + 1)) (show V v ≠ 0 by omega)
  have q0 : 0 ≤ S (fun t => dg p (j + t)) (v.length + 1) / V v := Int.ediv_nonneg ((S_bound (f := fun t => dg p (j + t)) (k := v.length + 1) (fun i _ => h.1 _)).1) (by omega)
  have hvp := V_lt hv
  have e1 : V v * (S (fun t => dg p (j + t)) (v.length + 1) / V v) = S (fun t => dg p (j + t)) (v.length + 1) / V v * V v := Int.mul_comm _ _
  rw [e1] at q1
  have hd : d = S (fun t => dg p (j + t)) (v.length + 1) / V v + 1 := by
    rcases hn1 with h1 | h1
    · exfalso
      rw [h1] at he
      omega
    · exact h1
  rw [hd, Int.add_mul, Int.one_mul] at he
  have hpw : pw v.length ≤ pw (v.length + 1) := pw_le (by omega)
  have hc1 : c = 1 := by
    rcases (show c = 0 ∨ c = 1 by omega) with h1 | h1
    · exfalso
      rw [h1, Int.zero_mul] at hae
      omega
    · exact h1
  rw [hc1, Int.one_mul] at hae
  have hd1 : d - 1 = S (fun t => dg p (j + t)) (v.length + 1) / V v := by omega
  refine ⟨?_, by omega, by omega⟩
  rw [hd1]
  refine ld_round h hv hj ⟨q0, hn3⟩ t1 (by omega) (fun t ht => (t3 t ht).trans (s3 t ht)) (by omega) (by omega)
theorem grown_bk {w w1 : World} {g b e : Nat} {k : IntKind} {l : List Int} (h : Bk w b e k l) (hg : w.grownBy w1 (some g)) (hne : b ≠ g) : Bk w1 b e k l := by
  have hl := h.lt
  unfold Bk at h ⊢
  rw [hg.block b hl (fun e => hne (by injection e))]
  exact h
theorem Bk.other {w : World} {g b e : Nat} {k : IntKind} {l : List Int} (h : Bk w b e k l) (j : Nat) (v : Value) (hne : b ≠ g) : Bk (w.setCell ⟨g, j, none⟩ v) b e k l := grown_bk h (grown_set (World.grownBy.refl _ _) j v) hne

end Go.Proofs.YtocpncjmcaecoaaGreat.M
