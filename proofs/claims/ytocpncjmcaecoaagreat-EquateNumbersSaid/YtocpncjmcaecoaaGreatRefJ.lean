/- The reference: Bits. The reference: Shift. The reference: half. Plain mathematics of the reference division, bit by bit. The reference: DivMod. -/
import Derived.Test.YtocpncjmcaecoaaGreatRefE
import Derived.Test.YtocpncjmcaecoaaGreatNatH
import Derived.StillTailTactics
namespace Go.Proofs.YtocpncjmcaecoaaGreat.M
set_option maxRecDepth 10000
open Go.RowKit
set_option linter.unusedVariables false

theorem pw_two (k : Nat) : pw k = ((2 ^ (32 * k) : Nat) : Int) := by
  induction k with
  | zero => rfl
  | succ k ih =>
    rw [pw_succ, ih, show 32 * (k + 1) = 32 * k + 32 by omega, Nat.pow_add]
    generalize 2 ^ (32 * k) = x
    omega
/-- b is the number of bits of N. -/
def BL (N b : Nat) : Prop := (N = 0 ∧ b = 0) ∨ (0 < b ∧ 2 ^ (b - 1) ≤ N ∧ N < 2 ^ b)
theorem BL_top {x : List Int} (h : Nf x) {n : Nat} (hn : x.length = n + 1) : BL (V x).toNat (32 * n + Lib.bitLen (dg x n).toNat) := by
  have h0 := h.2 (by omega)
  rw [hn, Nat.add_sub_cancel] at h0
  have hb := h.1 n
  have hl := (S_bound (f := dg x) (k := n) (fun j _ => h.1 j))
  have hv : V x = S (dg x) n + dg x n * pw n := by unfold V; rw [hn, S_succ]
  have hbb := Lib.bitLenAux_bounds 64 (dg x n).toNat (by omega) (by omega)
  have e : Lib.bitLenAux 64 (dg x n).toNat = Lib.bitLen (dg x n).toNat := rfl
  rw [e] at hbb
  obtain ⟨c1, c2, c3⟩ := hbb
  generalize Lib.bitLen (dg x n).toNat = m at *
  refine .inr ⟨by omega, ?_, ?_⟩
  · rw [show 32 * n + m - 1 = 32 * n + (m - 1) by omega, Nat.pow_add]
    have a1 : ((2 ^ (m - 1) : Nat) : Int) * pw n ≤ dg x n * pw n := Int.mul_le_mul_of_nonneg_right (by omega) (by have := pw_pos n; omega)
    rw [pw_two, ← Int.natCast_mul] at a1
    have a2 : ((2 ^ (m - 1) * 2 ^ (32 * n) : Nat) : Int) ≤ V x := by
      rw [hv, pw_two]
      omega
    rw [Nat.mul_comm]
    omega
  · have a1 : (dg x n + 1) * pw n ≤ ((2 ^ m : Nat) : Int) * pw n := Int.mul_le_mul_of_nonneg_right (by omega) (by have := pw_pos n; omega)
    rw [Int.add_mul, Int.one_mul] at a1
    have a2 : V x < ((2 ^ m : Nat) : Int) * pw n := by omega
    rw [pw_two, ← Int.natCast_mul] at a2
    have e3 : 2 ^ (32 * n + m) = 2 ^ m * 2 ^ (32 * n) := by rw [Nat.pow_add, Nat.mul_comm]
    rw [e3]
    have := V_nonneg h.1
    omega

/-- The number of bits. -/
def RetBits (N : Nat) (m : Nat) (w : World) (e : Ending) (w' : World) : Prop := ∃ b : Nat, e = .returned (.int .i64 (b : Int)) ∧ Hid (BL N b) ∧ b ≤ m ∧ Below w.heap.size w w'

set_option maxHeartbeats 800000 in
theorem rbits_ok (w : World) (A : Option Addr) (c : Nat) (xs : List Int) (hx : RN w A c xs) (hs : xs.length ≤ 70368744177664) : Calls Tryz.prog 93 #[.slice A xs.length c] w (RetBits (V xs).toNat (32 * xs.length) w) := by
  have hln := nrm_len hx.2
  have HV0 := Lib.hid (V_nonneg hx.2)
  go_enter Tryz.func93, Tryz.ntmps93
  go_wp2_with fail
  refine (rnorm_ok _ A c xs hx hs).mono ?_
  rintro e w1 ⟨A1, c1, x, rfl, HX, hx', hB⟩
  have HB := Lib.hid hB
  have RX := Lib.hid hx'
  have NX : Nf x := by rw [HX.out]; exact limbs_nf _
  have EX : V x = V xs := by rw [HX.out, V_limbs]; have := HV0.out; omega
  have hl : x.length ≤ xs.length := by
    have e : nrm xs = x := by rw [HX.out]; rfl
    rw [← e]; exact hln
  have HNX := Lib.hid NX
  have HEX := Lib.hid EX
  clear hx hx' hB NX EX HX
  by_cases h0 : x.length = 0
  · have hb : ((x.length : Int) == 0) = true := beq_iff_eq.2 (by omega)
    have H0 := Lib.hid h0
    clear h0
    go_wp2_with fail
    go_ret
    refine ⟨0, rfl, .inl ⟨?_, rfl⟩, Nat.zero_le _, HB.out⟩
    rw [← HEX.out, List.length_eq_zero_iff.1 H0.out]
    rfl
  · have hb : ((x.length : Int) == 0) = false := beq_eq_false_iff_ne.2 (by omega)
    obtain ⟨n, hn⟩ : ∃ n, x.length = n + 1 := ⟨x.length - 1, by omega⟩
    obtain ⟨ad, rfl, hc⟩ := (RX.out).1.2.2 n (by omega)
    have bx := (RX.out).2 n
    have HBL := Lib.hid (BL_top HNX.out hn)
    have hl32 := Lib.bitLen_le (dg x n).toNat 32 (by omega) (by omega)
    have en : (x.length : Int) - 1 = (n : Int) := by omega
    have hle : n + 1 ≤ x.length := by omega
    have hle2 : x.length ≤ n + 1 := by omega
    clear hn h0
    go_wp2_with fail
    clear en
    go_loopw [3, 4] (fun nv xv wr => ∃ (m t : Nat), nv = .int .i64 (m : Int) ∧ xv = .int .u32 (t : Int) ∧ t ≤ 4294967295 ∧ m ≤ 32 * n + 32 ∧ Hid (m + Lib.bitLen t = 32 * n + Lib.bitLen (dg x n).toNat) ∧ w1 = wr) (fun _ xv _ => (intOf xv).toNat)
    case atStart => exact ⟨32 * n, (dg x n).toNat, by go_num, by rw [Int.toNat_of_nonneg bx.1], by omega, by omega, rfl, rfl⟩
    case round =>
      obtain ⟨m, t, rfl, rfl, ht, hm, HT, rfl⟩ := hrel
      by_cases ht0 : 0 < t
      · have HT2 : Hid (m + 1 + Lib.bitLen (t / 2) = 32 * n + Lib.bitLen (dg x n).toNat) := by
          have h1 := HT.out
          rw [Lib.bitLen_half t (by omega) (by omega)] at h1
          show _ = _
          omega
        have hm2 : m + 1 ≤ 32 * n + 32 := by have := HT2.out; omega
        go_wp2_with fail
        go_roundw
        case rel => exact ⟨m + 1, t / 2, by go_num, by go_num, by omega, hm2, HT2, by first | rfl | trivial⟩
        case measure => simp [intOf]; omega
      · obtain rfl : t = 0 := by omega
        go_wp2_with fail
        go_ret
        have h1 := HT.out
        rw [show Lib.bitLen 0 = 0 from rfl, Nat.add_zero] at h1
        refine ⟨m, rfl, ?_, by omega, HB.out⟩
        rw [← HEX.out, h1]
        exact HBL.out

end Go.Proofs.YtocpncjmcaecoaaGreat.M
namespace Go.Proofs.YtocpncjmcaecoaaGreat.M
set_option maxRecDepth 10000
open Go.RowKit
set_option linter.unusedVariables false
set_option linter.unusedSimpArgs false

/-- Shifting up: the first k digits have been taken; s below 32 and m limbs. -/
def ShI (a p : List Int) (m s k : Nat) : Prop := Lim p ∧ p.length = a.length + m + 1 ∧ (∀ j, k + m + 1 ≤ j → dg p j = 0) ∧ dg p (k + m) < ((2 ^ s : Nat) : Int) ∧ V p = pw m * (S (dg a) k * ((2 ^ s : Nat) : Int))
theorem sh_start (a : List Int) (m s : Nat) : ShI a (List.replicate (a.length + m + 1) 0) m s 0 := ⟨Lim.replicate _, by simp, fun j _ => dg_replicate _ j, by rw [dg_replicate]; have := Nat.two_pow_pos s; omega, by rw [V_replicate, S_zero]; simp⟩

theorem or32_low {h l : Int} {s : Nat} (hs : s ≤ 32) (h0 : 0 ≤ h) (h1 : h < ((2 ^ s : Nat) : Int)) (l0 : 0 ≤ l) (l1 : l ≤ 4294967295) (hd : l % ((2 ^ s : Nat) : Int) = 0) : Go.bits .or .u32 h l = h + l := by
  have hp : 2 ^ s ≤ 2 ^ 32 := Nat.pow_le_pow_right (by omega) hs
  obtain ⟨a, rfl⟩ := Int.eq_ofNat_of_zero_le h0
  obtain ⟨b, rfl⟩ := Int.eq_ofNat_of_zero_le l0
  rw [← Int.natCast_emod] at hd
  rw [u32_or a b h0 (by omega) l0 (by omega), Int.toNat_natCast, Int.toNat_natCast, Nat.or_comm, or_nat (a := b) (b := a) (m := s) (by omega) (by omega)]
  omega
theorem pow_dvd32 {s : Nat} (hs : s ≤ 32) : ((2 ^ s : Nat) : Int) ∣ 4294967296 := by
  have h : (2 ^ s : Nat) ∣ 2 ^ 32 := Nat.pow_dvd_pow 2 hs
  have h2 := Int.natCast_dvd_natCast.2 h
  exact h2
theorem pow_cast (s : Nat) : (2 : Int) ^ s = ((2 ^ s : Nat) : Int) := by simp
/-- What is shifted up: below 2^64, and its low limb is a multiple. -/
theorem sh_digit {x : Int} {s : Nat} (hs : s < 32) (h0 : 0 ≤ x) (h1 : x ≤ 4294967295) : 0 ≤ x * ((2 ^ s : Nat) : Int) ∧ x * ((2 ^ s : Nat) : Int) ≤ 18446744073709551615 ∧ x * ((2 ^ s : Nat) : Int) % 4294967296 % ((2 ^ s : Nat) : Int) = 0 ∧ x * ((2 ^ s : Nat) : Int) / 4294967296 < ((2 ^ s : Nat) : Int) := by
  have hp0 := Nat.two_pow_pos s
  have hp1 : 2 ^ s ≤ 2 ^ 31 := Nat.pow_le_pow_right (by omega) (by omega)
  have hb : x * ((2 ^ s : Nat) : Int) ≤ 4294967295 * ((2 ^ s : Nat) : Int) := Int.mul_le_mul_of_nonneg_right h1 (by omega)
  refine ⟨Int.mul_nonneg h0 (by omega), by omega, ?_, by omega⟩
  have hd := pow_dvd32 (show s ≤ 32 by omega)
  rw [Int.emod_emod_of_dvd _ hd, Int.mul_emod_left]
theorem sh_round {a p : List Int} {m s k : Nat} {T : Int} (h : ShI a p m s k) (ha : Lim a) (hk : k < a.length) (hs : s < 32) (hT : T = dg a k * ((2 ^ s : Nat) : Int)) :
    ShI a ((p.set (k + m) (dg p (k + m) + T % 4294967296)).set (k + m + 1) (T / 4294967296)) m s (k + 1) ∧ dg p (k + m) + T % 4294967296 ≤ 4294967295 := by
  obtain ⟨a1, a2, a3, a4, a5⟩ := h
  obtain ⟨t0, t1, t2, t3⟩ := sh_digit hs (ha k).1 (ha k).2
  rw [← hT] at t0 t1 t2 t3
  have hq := a1 (k + m)
  have hsum : dg p (k + m) + T % 4294967296 ≤ 4294967295 := by
    have hp0 := Nat.two_pow_pos s
    have hd := pow_dvd32 (show s ≤ 32 by omega)
    obtain ⟨c, hc⟩ := hd
    obtain ⟨e, he⟩ := Int.dvd_of_emod_eq_zero t2
    have h1 : T % 4294967296 < 4294967296 := by omega
    generalize ((2 ^ s : Nat) : Int) = E at *
    have h2 : e < c := by
      rcases Int.lt_or_le e c with h | h
      · exact h
      · have : E * c ≤ E * e := Int.mul_le_mul_of_nonneg_left h (by omega)
        omega
    have h3 : E * (e + 1) ≤ E * c := Int.mul_le_mul_of_nonneg_left (by omega) (by omega)
    rw [Int.mul_add, Int.mul_one] at h3
    omega
  refine ⟨⟨(a1.set _ (by omega) hsum).set _ (by omega) (by omega), by simp [a2], fun j hj => ?_, ?_, ?_⟩, hsum⟩
  · rw [dg_set, if_neg (fun h => by have := h.1; omega), dg_set, if_neg (fun h => by have := h.1; omega)]
    exact a3 j (by omega)
  · rw [show k + 1 + m = k + m + 1 by omega, dg_set, if_pos ⟨rfl, by rw [List.length_set]; omega⟩]
    exact t3
  · rw [V_set (by rw [List.length_set]; omega), V_set (by omega), dg_set, if_neg (fun h => by have := h.1; omega), a3 (k + m + 1) (by omega), S_succ, Int.add_mul, Int.mul_add, ← a5, pw_succ, pw_add]
    have e1 : dg p (k + m) + T % 4294967296 - dg p (k + m) = T % 4294967296 := by omega
    rw [e1, Int.sub_zero, ← Int.mul_assoc (T / 4294967296), Int.add_assoc, ← Int.add_mul]
    have e2 : T % 4294967296 + T / 4294967296 * 4294967296 = T := by omega
    rw [e2, hT]
    congr 1
    simp only [Int.mul_assoc, Int.mul_comm, Int.mul_left_comm]

set_option maxHeartbeats 800000 in
theorem rshift_f (w : World) (A : Option Addr) (c : Nat) (xs : List Int) (n : Nat) (hx : RN w A c xs) (hs : xs.length + n / 32 + 1 ≤ 70368744177664) : Calls Tryz.prog 121 #[.slice A xs.length c, .int .i64 (n : Int)] w (RetF ((V xs).toNat * 2 ^ n) w) := by
  obtain ⟨m, hm⟩ : ∃ m, n / 32 = m := ⟨_, rfl⟩
  obtain ⟨s, hs32⟩ : ∃ s, n % 32 = s := ⟨_, rfl⟩
  have hn : n ≤ 2251799813685248 := by omega
  have hq : (n : Int) / 32 = (m : Int) := by omega
  have hr : (n : Int) % 32 = (s : Int) := by omega
  have hs1 : s < 32 := by omega
  have hms : xs.length + m + 1 ≤ 70368744177664 := by omega
  have HN : Hid (n = 32 * m + s) := by show _ = _; omega
  clear hm hs32 hs
  obtain ⟨i0, hi, hz0, hz1, hz2⟩ := info_parts info_u32
  have RX := Lib.hid hx
  clear hx
  have hmk := mk_make 24 83 i0 .u32 Tryz.underlying24 hi hz0 hz1 ((xs.length : Int) + (m : Int) + 1) (by omega) (by rw [hz2]; omega) (by omega)
  rw [show ((xs.length : Int) + (m : Int) + 1).toNat = xs.length + m + 1 from by omega] at hmk
  go_enter Tryz.func121, Tryz.ntmps121
  go_wp2_with fail
  clear hmk
  go_loopw [6] (fun iv wr => ∃ (k : Nat) (p : List Int), k ≤ xs.length ∧ iv = .int .i64 (k : Int) ∧ Hid (ShI xs p m s k) ∧ Bk wr w.heap.size 83 .u32 p ∧ Hid (Below w.heap.size w wr)) (fun iv _ => xs.length - (intOf iv).toNat)
  case atStart => exact ⟨0, _, Nat.zero_le _, rfl, sh_start xs m s, Bk.made _, (Below.refl _ w).alloc (Nat.le_refl _) _⟩
  case round =>
    obtain ⟨k, p, hk, rfl, HI, HB, HW⟩ := hrel
    by_cases hlt : k < xs.length
    · obtain ⟨ad, rfl, hcx⟩ := ((RX.out).below HW.out).1.2.2 k hlt
      have bx := (RX.out).2 k
      obtain ⟨hcp, hfp⟩ := HB.cell (j := k + m) (by have := HI.out.2.1; omega)
      have bp := HI.out.1 (k + m)
      obtain ⟨hcp2, hfp2⟩ := HB.cell (j := k + m + 1) (by have := HI.out.2.1; omega)
      obtain ⟨T, hT⟩ : ∃ T, T = dg xs k * ((2 ^ s : Nat) : Int) := ⟨_, rfl⟩
      obtain ⟨t0, t1, t2, t3⟩ := sh_digit hs1 bx.1 bx.2
      rw [← hT] at t0 t1 t2 t3
      obtain ⟨hS, hsum⟩ := sh_round HI.out RX.out.2 hlt hs1 hT
      have hor := or32_low (by omega) bp.1 HI.out.2.2.2.1 (by omega) (by omega) t2
      have hwr : IntKind.u64.wrap (dg xs k * 2 ^ s) = T := by
        rw [pow_cast, ← hT]
        exact IntWalk.u64_in T (by omega)
      have HS := Lib.hid hS
      clear hT hS t2 t3
      go_wp2_with fail
      go_roundw
      case rel => exact ⟨k + 1, _, by omega, by go_num, HS, by first | exact (HB.set _ _).set _ _, below_set (below_set HW.out (Nat.le_refl _) _) (Nat.le_refl _) _⟩
      case measure => simp [intOf]; omega
    · obtain rfl : k = xs.length := by omega
      have hpl : p.length ≤ 70368744177664 := by have := HI.out.2.1; omega
      have hR := HB.reads (by omega)
      have e1 : (V p).toNat = (V xs).toNat * 2 ^ n := by
        have h1 := HI.out.2.2.2.2
        have h2 := V_nonneg RX.out.2
        obtain ⟨v, hv⟩ := Int.eq_ofNat_of_zero_le h2
        have hv' : S (dg xs) xs.length = (v : Int) := hv
        rw [hv', pw_two, ← Int.natCast_mul, ← Int.natCast_mul] at h1
        rw [h1, hv, HN.out, Nat.pow_add]
        simp only [Int.toNat_natCast]
        simp only [Nat.mul_assoc, Nat.mul_comm, Nat.mul_left_comm]
      have HE := Lib.hid e1
      have HL := Lib.hid HI.out.2.1
      clear e1
      go_wp2_with fail
      rw [← HL.out]
      refine (rnorm_f _ _ _ p ⟨hR, HI.out.1⟩ hpl).mono ?_
      rintro e w1 ⟨g1, c1, z, hg1, rfl, HZ, hz, hB⟩
      have HB1 := Lib.hid (below_seq HW.out hB)
      clear hR hB
      go_wp2
      go_ret
      have hg2 := HW.out.size
      exact ⟨g1, _, z, Nat.le_trans hg2 hg1, rfl, by show z = _; rw [HZ.out, HE.out], hz, HB1.out⟩

theorem rshift_ok (w : World) (A : Option Addr) (c : Nat) (xs : List Int) (n : Nat) (hx : RN w A c xs) (hs : xs.length + n / 32 + 1 ≤ 70368744177664) : Calls Tryz.prog 121 #[.slice A xs.length c, .int .i64 (n : Int)] w (RetN ((V xs).toNat * 2 ^ n) w) := (rshift_f w A c xs n hx hs).mono fun _ _ h => h.n

end Go.Proofs.YtocpncjmcaecoaaGreat.M
namespace Go.Proofs.YtocpncjmcaecoaaGreat.M
set_option maxRecDepth 10000
open Go.RowKit
set_option linter.unusedVariables false
set_option linter.unusedSimpArgs false

/-- Half of a number: k digits have been done. -/
def HalfI (a p : List Int) (k : Nat) : Prop := Lim p ∧ p.length = a.length ∧ (∀ j, k ≤ j → dg p j = 0) ∧ 2 * V p + dg a 0 % 2 = S (dg a) k + dg a k % 2 * pw k
theorem half_start (a : List Int) : HalfI a (List.replicate a.length 0) 0 := ⟨Lim.replicate _, by simp, fun j _ => dg_replicate _ j, by rw [V_replicate, S_zero, pw_zero]; omega⟩
theorem half_round {a p : List Int} {k : Nat} {t : Int} (h : HalfI a p k) (ha : Lim a) (hk : k < a.length) (ht : t = (dg a (k + 1) * 4294967296 + dg a k) / 2 % 4294967296) : HalfI a (p.set k t) (k + 1) := by
  obtain ⟨a1, a2, a3, a4⟩ := h
  have h1 := ha k
  have h2 := ha (k + 1)
  refine ⟨a1.set _ (by omega) (by omega), by simp [a2], fun j hj => ?_, ?_⟩
  · rw [dg_set, if_neg (fun h => by have := h.1; omega)]; exact a3 j (by omega)
  · rw [V_set (by omega), a3 k (Nat.le_refl _), S_succ, pw_succ, ← Int.mul_assoc, Int.sub_zero]
    have e : 2 * t = dg a (k + 1) % 2 * 4294967296 + (dg a k - dg a k % 2) := by omega
    have e2 : 2 * t * pw k = dg a (k + 1) % 2 * 4294967296 * pw k + dg a k * pw k - dg a k % 2 * pw k := by
      rw [e, Int.add_mul, Int.sub_mul]
      omega
    have e3 : 2 * (V p + t * pw k) = 2 * V p + 2 * t * pw k := by rw [Int.mul_add, Int.mul_assoc]
    rw [e3]
    omega
theorem half_end {a p : List Int} (h : HalfI a p a.length) : V p = V a / 2 := by
  obtain ⟨a1, a2, a3, a4⟩ := h
  rw [dg_ge (xs := a) (Nat.le_refl _)] at a4
  have : 2 * V p + dg a 0 % 2 = V a := by rw [a4]; unfold V; omega
  omega

theorem limb_still (w : World) (A : Option Addr) (c : Nat) (xs : List Int) (h : RN w A c xs) (i : Int) (j : Nat) (h0 : i = (j : Int)) :
    Calls Tryz.prog 110 #[.slice A xs.length c, .int .i64 i] w fun e w' => e = .returned (.int .u64 (dg xs j)) ∧ w' = w :=
  (limb_ok w A c xs h i (by omega)).mono fun e w' ⟨h1, h2⟩ => ⟨by rw [h1, h0, Int.toNat_natCast], h2.symm⟩

set_option maxHeartbeats 800000 in
theorem rhalf_f (w : World) (A : Option Addr) (c : Nat) (xs : List Int) (hx : RN w A c xs) (hs : xs.length ≤ 70368744177664) : Calls Tryz.prog 122 #[.slice A xs.length c] w (RetF ((V xs).toNat / 2) w) := by
  obtain ⟨i0, hi, hz0, hz1, hz2⟩ := info_parts info_u32
  have RX := Lib.hid hx
  clear hx
  have hmk := mk_make 24 83 i0 .u32 Tryz.underlying24 hi hz0 hz1 (xs.length : Int) (by omega) (by rw [hz2]; omega) (by omega)
  rw [Int.toNat_natCast] at hmk
  go_enter Tryz.func122, Tryz.ntmps122
  go_wp2_with fail
  clear hmk
  go_loopw [4] (fun iv wr => ∃ (k : Nat) (p : List Int), k ≤ xs.length ∧ iv = .int .i64 (k : Int) ∧ Hid (HalfI xs p k) ∧ Bk wr w.heap.size 83 .u32 p ∧ Hid (Below w.heap.size w wr)) (fun iv _ => xs.length - (intOf iv).toNat)
  case atStart => exact ⟨0, _, Nat.zero_le _, rfl, half_start xs, Bk.made _, (Below.refl _ w).alloc (Nat.le_refl _) _⟩
  case round =>
    obtain ⟨k, p, hk, rfl, HI, HB, HW⟩ := hrel
    by_cases hlt : k < xs.length
    · obtain ⟨ad, rfl, hcx⟩ := ((RX.out).below HW.out).1.2.2 k hlt
      have bx := (RX.out).2 k
      have bx2 := (RX.out).2 (k + 1)
      obtain ⟨hcp, hfp⟩ := HB.cell (j := k) (by have := HI.out.2.1; omega)
      have hw1 : IntKind.i64.wrap ((k : Int) + 1) = (k : Int) + 1 := IntWalk.i64_in _ (by omega)
      have hw2 : IntKind.u64.wrap (dg xs (k + 1) * 4294967296) = dg xs (k + 1) * 4294967296 := IntWalk.u64_in _ (by omega)
      have hw3 : IntKind.u64.wrap (dg xs (k + 1) * 4294967296 + dg xs k) = dg xs (k + 1) * 4294967296 + dg xs k := IntWalk.u64_in _ (by omega)
      have RD := Lib.hid ((RX.out).below HW.out.drew)
      go_wp2_with fail
      refine wp_region_still_tail 16 (by kernel_rfl) (by kernel_rfl) ?_
      simp only [List.take_succ_cons, List.take_zero, List.drop_succ_cons, List.drop_zero]
      change wpStill _ _ wr.drew _ _ _
      repeat still_step
      still_call (limb_still wr.drew (some ad) c xs RD.out ((k : Int) + 1) (k + 1) rfl)
      repeat still_step
      refine wpStill_nil ?_
      go_wp2
      go_roundw
      case rel => exact ⟨k + 1, _, by omega, by go_num, half_round HI.out RX.out.2 hlt rfl, HB.set _ _, (below_set HW.out (Nat.le_refl _) _).drew⟩
      case measure => simp [intOf]; omega
    · obtain rfl : k = xs.length := by omega
      have hpl : p.length ≤ 70368744177664 := by have := HI.out.2.1; omega
      have hR := HB.reads (by omega)
      have e1 : (V p).toNat = (V xs).toNat / 2 := by
        have h1 := half_end HI.out
        have h2 := V_nonneg RX.out.2
        omega
      have HE := Lib.hid e1
      have HL := Lib.hid HI.out.2.1
      clear e1
      go_wp2_with fail
      rw [← HL.out]
      refine (rnorm_f _ _ _ p ⟨hR, HI.out.1⟩ hpl).mono ?_
      rintro e w1 ⟨g1, c1, z, hg1, rfl, HZ, hz, hB⟩
      have HB1 := Lib.hid (below_seq HW.out hB)
      clear hR hB
      go_wp2
      go_ret
      have hg2 := HW.out.size
      exact ⟨g1, _, z, Nat.le_trans hg2 hg1, rfl, by show z = _; rw [HZ.out, HE.out], hz, HB1.out⟩

theorem rhalf_ok (w : World) (A : Option Addr) (c : Nat) (xs : List Int) (hx : RN w A c xs) (hs : xs.length ≤ 70368744177664) : Calls Tryz.prog 122 #[.slice A xs.length c] w (RetN ((V xs).toNat / 2) w) := (rhalf_f w A c xs hx hs).mono fun _ _ h => h.n

end Go.Proofs.YtocpncjmcaecoaaGreat.M
namespace Go.Proofs.YtocpncjmcaecoaaGreat.M
set_option maxRecDepth 10000
open Go.RowKit
set_option linter.unusedVariables false
set_option linter.unusedSimpArgs false

theorem limbs_mono {a b : Nat} (h : a ≤ b) : (limbs a).length ≤ (limbs b).length := limbs_len (by have := limbs_lt b; omega)
theorem two_pw (k : Nat) : ((2 ^ (32 * k) : Nat) : Int) = pw k := (pw_two k).symm
/-- The bits below k are 0. -/
def LowZ (p : List Int) (k : Nat) : Prop := ∀ i, dg p i % ((2 ^ (min 32 (k - 32 * i)) : Nat) : Int) = 0
theorem mod_pow_le {x : Int} {a b : Nat} (h : x % ((2 ^ b : Nat) : Int) = 0) (hab : a ≤ b) : x % ((2 ^ a : Nat) : Int) = 0 := by
  have h1 : ((2 ^ a : Nat) : Int) ∣ ((2 ^ b : Nat) : Int) := Int.natCast_dvd_natCast.2 (Nat.pow_dvd_pow 2 hab)
  exact Int.emod_eq_zero_of_dvd (Int.dvd_trans h1 (Int.dvd_of_emod_eq_zero h))
theorem LowZ.mono {p : List Int} {k j : Nat} (h : LowZ p k) (hj : j ≤ k) : LowZ p j := fun i => mod_pow_le (h i) (by omega)
theorem LowZ.start (n k : Nat) : LowZ (List.replicate n 0) k := fun i => by rw [dg_replicate]; simp
theorem or32_high {h l : Int} {s : Nat} (hs : s ≤ 32) (h0 : 0 ≤ h) (h1 : h < ((2 ^ s : Nat) : Int)) (l0 : 0 ≤ l) (l1 : l ≤ 4294967295) (hd : l % ((2 ^ s : Nat) : Int) = 0) : Go.bits .or .u32 l h = l + h := by
  have hp : 2 ^ s ≤ 2 ^ 32 := Nat.pow_le_pow_right (by omega) hs
  obtain ⟨a, rfl⟩ := Int.eq_ofNat_of_zero_le h0
  obtain ⟨b, rfl⟩ := Int.eq_ofNat_of_zero_le l0
  rw [← Int.natCast_emod] at hd
  rw [u32_or b a l0 (by omega) h0 (by omega), Int.toNat_natCast, Int.toNat_natCast, or_nat (a := b) (b := a) (m := s) (by omega) (by omega)]
  omega
/-- One bit is set. -/
theorem LowZ.bit {p : List Int} {m s : Nat} (h : LowZ p (32 * m + s + 1)) (hp : Lim p) (hs : s < 32) (hm : m < p.length) :
    Go.bits .or .u32 (dg p m) ((2 ^ s : Nat) : Int) = dg p m + ((2 ^ s : Nat) : Int) ∧ dg p m + ((2 ^ s : Nat) : Int) ≤ 4294967295 ∧ LowZ (p.set m (dg p m + ((2 ^ s : Nat) : Int))) (32 * m + s) ∧ V (p.set m (dg p m + ((2 ^ s : Nat) : Int))) = V p + ((2 ^ (32 * m + s) : Nat) : Int) := by
  have h0 := h m
  rw [show min 32 (32 * m + s + 1 - 32 * m) = s + 1 by omega] at h0
  have hb := hp m
  have hp0 := Nat.two_pow_pos s
  have e : 2 ^ (s + 1) = 2 ^ s * 2 := Nat.pow_succ 2 s
  have hor := or32_high (h := ((2 ^ s : Nat) : Int)) (l := dg p m) (s := s + 1) (by omega) (by omega) (by omega) hb.1 hb.2 h0
  have hsum : dg p m + ((2 ^ s : Nat) : Int) ≤ 4294967295 := by
    obtain ⟨c, hc⟩ := pow_dvd32 (show s + 1 ≤ 32 by omega)
    obtain ⟨d, hd⟩ := Int.dvd_of_emod_eq_zero h0
    have e2 : ((2 ^ (s + 1) : Nat) : Int) = 2 * ((2 ^ s : Nat) : Int) := by omega
    rw [e2] at hc hd
    generalize ((2 ^ s : Nat) : Int) = E at *
    have h2 : d < c := by
      rcases Int.lt_or_le d c with h | h
      · exact h
      · have : 2 * E * c ≤ 2 * E * d := Int.mul_le_mul_of_nonneg_left h (by omega)
        omega
    have h3 : 2 * E * (d + 1) ≤ 2 * E * c := Int.mul_le_mul_of_nonneg_left (by omega) (by omega)
    rw [Int.mul_add, Int.mul_one] at h3
    omega
  refine ⟨hor, hsum, fun i => ?_, ?_⟩
  · rw [dg_set]
    by_cases hi : i = m
    · subst hi
      rw [if_pos ⟨rfl, hm⟩, show min 32 (32 * i + s - 32 * i) = s by omega]
      have h1 := mod_pow_le h0 (show s ≤ s + 1 by omega)
      rw [Int.add_emod_right]
      exact h1
    · rw [if_neg (fun h => hi h.1)]
      exact mod_pow_le (h i) (by omega)
  · rw [V_set hm, pw_two, Nat.pow_add]
    have e3 : dg p m + ((2 ^ s : Nat) : Int) - dg p m = ((2 ^ s : Nat) : Int) := by omega
    rw [e3, ← Int.natCast_mul, Nat.mul_comm]

/-- Dividing bit by bit: the bits from k on have been done. -/
def DMI (A0 b n k A D : Nat) (p : List Int) : Prop := Lim p ∧ p.length = n / 32 + 1 ∧ LowZ p k ∧ A0 = (V p).toNat * b + A ∧ A < b * 2 ^ k ∧ D = b * 2 ^ k / 2
theorem toNat_addN {a : Int} (h : 0 ≤ a) (n : Nat) : (a + (n : Int)).toNat = a.toNat + n := by omega
theorem add_natCast_nonneg {a : Int} (h : 0 ≤ a) (n : Nat) : 0 ≤ a + (n : Int) := by omega
theorem dm_start {A0 b n : Nat} (h : A0 < b * 2 ^ (n + 1)) : DMI A0 b n (n + 1) A0 (b * 2 ^ n) (List.replicate (n / 32 + 1) 0) :=
  ⟨Lim.replicate _, by simp, LowZ.start _ _, by rw [V_replicate]; simp, h, by rw [Nat.pow_succ, ← Nat.mul_assoc, Nat.mul_div_cancel _ (by omega)]⟩
theorem dm_D {A0 b n k A D : Nat} {p : List Int} (h : DMI A0 b n (k + 1) A D p) : D = b * 2 ^ k ∧ D / 2 = b * 2 ^ k / 2 := by
  obtain ⟨_, _, _, _, _, h6⟩ := h
  have : D = b * 2 ^ k := by rw [h6, Nat.pow_succ, ← Nat.mul_assoc, Nat.mul_div_cancel _ (by omega)]
  exact ⟨this, by rw [this]⟩
theorem dm_yes {A0 b n m s A D : Nat} {p : List Int} (h : DMI A0 b n (32 * m + s + 1) A D p) (hs : s < 32) (hm : 32 * m + s ≤ n) (hle : D ≤ A) : DMI A0 b n (32 * m + s) (A - D) (D / 2) (p.set m (dg p m + ((2 ^ s : Nat) : Int))) := by
  obtain ⟨d1, d2⟩ := dm_D h
  obtain ⟨h1, h2, h3, h4, h5, h6⟩ := h
  have hml : m < p.length := by omega
  obtain ⟨b1, b2, b3, b4⟩ := h3.bit h1 hs hml
  refine ⟨h1.set _ (add_natCast_nonneg (h1 m).1 _) b2, by simp [h2], b3, ?_, ?_, d2⟩
  · have hv := V_nonneg h1
    have e : (V p + ((2 ^ (32 * m + s) : Nat) : Int)).toNat = (V p).toNat + 2 ^ (32 * m + s) := toNat_addN hv _
    rw [b4, e, Nat.add_mul, Nat.mul_comm (2 ^ (32 * m + s)), ← d1]
    omega
  · rw [Nat.pow_succ, ← Nat.mul_assoc, ← d1] at h5
    rw [← d1]
    omega
theorem dm_no {A0 b n k A D : Nat} {p : List Int} (h : DMI A0 b n (k + 1) A D p) (hlt : A < D) : DMI A0 b n k A (D / 2) p := by
  obtain ⟨d1, d2⟩ := dm_D h
  obtain ⟨h1, h2, h3, h4, h5, h6⟩ := h
  exact ⟨h1, h2, h3.mono (by omega), h4, by rw [← d1]; exact hlt, d2⟩
theorem dm_end {A0 b n A D : Nat} {p : List Int} (h : DMI A0 b n 0 A D p) : (V p).toNat = A0 / b ∧ A = A0 % b := by
  obtain ⟨h1, h2, h3, h4, h5, h6⟩ := h
  rw [Nat.pow_zero, Nat.mul_one] at h5
  have e : A0 = A + b * (V p).toNat := by rw [Nat.mul_comm b]; omega
  constructor
  · rw [e, Nat.add_mul_div_left _ _ (by omega), Nat.div_eq_of_lt h5]; omega
  · rw [e, Nat.add_mul_mod_self_left, Nat.mod_eq_of_lt h5]

/-- By the numbers of bits: less, or the divisor shifted reaches. -/
theorem bl_less {a b na nb : Nat} (ha : BL a na) (hb : BL b nb) (hb0 : 0 < b) (h : na < nb) : a < b := by
  rcases hb with ⟨h1, _⟩ | ⟨h1, h2, h3⟩
  · omega
  · rcases ha with ⟨h4, _⟩ | ⟨h4, h5, h6⟩
    · omega
    · have : 2 ^ na ≤ 2 ^ (nb - 1) := Nat.pow_le_pow_right (by omega) (by omega)
      omega
theorem bl_reach {a b na nb : Nat} (ha : BL a na) (hb : BL b nb) (hb0 : 0 < b) (h : nb ≤ na) : a < b * 2 ^ (na - nb + 1) := by
  rcases hb with ⟨h1, _⟩ | ⟨h1, h2, h3⟩
  · omega
  · have h7 : a < 2 ^ na := by
      rcases ha with ⟨h4, _⟩ | ⟨h4, h5, h6⟩
      · rw [h4]; exact Nat.two_pow_pos _
      · exact h6
    have e : 2 ^ (nb - 1) * 2 ^ (na - nb + 1) = 2 ^ na := by rw [← Nat.pow_add]; congr 1; omega
    have := Nat.mul_le_mul_right (2 ^ (na - nb + 1)) h2
    omega
theorem bl_len {a b na nb m : Nat} (ha : BL a na) (hb : BL b nb) (hb0 : 0 < b) (h : nb ≤ na) (hm : (a : Int) < pw m) : (limbs (b * 2 ^ (na - nb))).length ≤ m + 1 := by
  refine limbs_len ?_
  rcases hb with ⟨h1, _⟩ | ⟨h1, h2, h3⟩
  · omega
  · rcases ha with ⟨h4, h5⟩ | ⟨h4, h5, h6⟩
    · omega
    · have e : 2 ^ nb * 2 ^ (na - nb) = 2 * 2 ^ (na - 1) := by rw [← Nat.pow_add, ← Nat.pow_succ']; congr 1; omega
      have h8 : b * 2 ^ (na - nb) ≤ 2 ^ nb * 2 ^ (na - nb) := Nat.mul_le_mul_right _ (by omega)
      rw [e] at h8
      have := pw_pos m
      rw [pw_succ]
      omega

end Go.Proofs.YtocpncjmcaecoaaGreat.M
namespace Go.Proofs.YtocpncjmcaecoaaGreat.M
set_option maxRecDepth 10000
open Go.RowKit
set_option linter.unusedVariables false
set_option linter.unusedSimpArgs false

/-- What is read does not lie in block g. -/
def Sep (g : Nat) (A : Option Addr) (xs : List Int) : Prop := 0 < xs.length → ∀ ad, A = some ad → ad.block ≠ g
theorem RN.blk {w : World} {A : Option Addr} {c : Nat} {xs : List Int} (h : RN w A c xs) : 0 < xs.length → ∀ ad, A = some ad → ad.block < w.heap.size := by
  intro h0 ad e
  obtain ⟨ad', e', hc⟩ := h.1.2.2 0 h0
  rw [e] at e'
  cases e'
  have := World.block_lt_of_cell? w _ hc
  simpa [Addr.add] using this
theorem add_blk (ad : Addr) (i : Nat) : (ad.add i).block = ad.block := by unfold Addr.add; split <;> rfl
theorem RN.far {w : World} {A : Option Addr} {c : Nat} {xs : List Int} {g : Nat} (h : RN w A c xs) (hg : Sep g A xs) (j : Nat) (v : Value) : RN (w.setCell ⟨g, j, none⟩ v) A c xs := by
  refine ⟨⟨h.1.1, h.1.2.1, fun i hi => ?_⟩, h.2⟩
  obtain ⟨ad, e, hc⟩ := h.1.2.2 i hi
  refine ⟨ad, e, ?_⟩
  rw [← hc]
  refine World.cell?_of_block (Below.heap_setCell w ⟨g, j, none⟩ v _ ?_)
  have := hg (by omega) ad e
  rw [add_blk]
  exact this

set_option maxHeartbeats 1600000 in
theorem rdivMod_ok (w : World) (A0 B0 : Option Addr) (c0 d0 : Nat) (xs ys : List Int) (hx : RN w A0 c0 xs) (hy : RN w B0 d0 ys) (hv : 0 < V ys) (hs : xs.length + ys.length ≤ 70368744177600) :
    Calls Tryz.prog 97 #[.slice A0 xs.length c0, .slice B0 ys.length d0] w (RetQR ((V xs).toNat / (V ys).toNat) ((V xs).toNat % (V ys).toNat) w) := by
  obtain ⟨i0, hi, hz0, hz1, hz2⟩ := info_parts info_u32
  have HV := Lib.hid hv
  have HX0 := Lib.hid (V_nonneg hx.2)
  have hlnx := nrm_len hx.2
  have hlny := nrm_len hy.2
  clear hv
  go_enter Tryz.func97, Tryz.ntmps97
  go_wp2_with fail
  refine (rnorm_ok _ A0 c0 xs hx (by omega)).mono ?_
  rintro e w1 ⟨A1, c1, x, rfl, HX, hx1, hB⟩
  have hy1 := hy.below hB
  have HB1 := Lib.hid hB
  have RX1 := Lib.hid hx1
  clear hx hy hB hx1
  go_wp2_with fail
  refine (rnorm_ok _ B0 d0 ys hy1 (by omega)).mono ?_
  rintro e w2 ⟨B1, d1, y, rfl, HY, hy2, hB⟩
  have HB2 := Lib.hid (below_seq HB1.out hB)
  have RX2 := Lib.hid (RX1.out.below hB)
  have RY2 := Lib.hid hy2
  have ex : nrm xs = x := by rw [HX.out]; rfl
  have ey : nrm ys = y := by rw [HY.out]; rfl
  rw [ex] at hlnx
  rw [ey] at hlny
  have EX : V x = V xs := by rw [HX.out, V_limbs]; have := HX0.out; omega
  have EY : V y = V ys := by rw [HY.out, V_limbs]; have := HV.out; omega
  have NX : Nf x := by rw [HX.out]; exact limbs_nf _
  have NY : Nf y := by rw [HY.out]; exact limbs_nf _
  have hy0 : y.length ≠ 0 := by
    intro h
    have h1 := HV.out
    rw [← EY, List.length_eq_zero_iff.1 h, V_nil] at h1
    omega
  have hb : ((y.length : Int) == 0) = false := beq_eq_false_iff_ne.2 (by omega)
  have HEX := Lib.hid EX
  have HEY := Lib.hid EY
  have HNX := Lib.hid NX
  have HNY := Lib.hid NY
  clear EX EY NX NY ex ey hy1 hy2 hB HB1 RX1
  by_cases h1 : y.length = 1
  · obtain ⟨y0, rfl⟩ : ∃ y0, y = [y0] := by
      match y, h1 with
      | [y0], _ => exact ⟨y0, rfl⟩
    have hcy := (RY2.out).1.2.2 0 (by simp)
    rw [dg_cons0] at hcy
    obtain ⟨bd, rfl, hcy⟩ := hcy
    simp only [Addr.add, if_true] at hcy
    have hv0 : V [y0] = y0 := by rw [V_cons, V_nil]; omega
    have hy00 : 0 < y0 := by rw [← hv0, HEY.out]; exact HV.out
    have hy01 : y0 ≤ 4294967295 := by have := (RY2.out).2 0; rw [dg_cons0] at this; omega
    have HV0 := Lib.hid hv0
    clear hv0 hb hy0 h1
    go_wp2_with fail
    refine (rshort_ok _ A1 c1 x y0 RX2.out hy00 hy01 (by omega)).mono ?_
    rintro e w3 ⟨A3, c3, q, rfl, HQ, hq, hB⟩
    have HB3 := Lib.hid (below_seq HB2.out hB)
    have RQ3 := Lib.hid hq
    have hr0 := Int.emod_nonneg (V x) (by omega : y0 ≠ 0)
    have hr1 := Int.emod_lt_of_pos (V x) hy00
    clear hB hq
    go_wp2_with fail
    refine (rof_ok _ (V x % y0) hr0 (by omega)).mono ?_
    rintro e w4 ⟨A4, c4, t, rfl, HT, ht, hB⟩
    have HB4 := Lib.hid (below_seq HB3.out hB)
    have RQ4 := Lib.hid (RQ3.out.below hB)
    clear hB
    go_wp2_with fail
    go_ret3
    have g1 := HEX.out
    have g2 : y0 = V ys := by rw [← HEY.out, HV0.out]
    have g3 := HX0.out
    have g4 := HV.out
    refine ⟨A3, c3, q, A4, c4, t, rfl, ?_, ?_, RQ4.out, ht, HB4.out⟩
    · show q = _
      rw [HQ.out, g1, g2, toNat_div g3 (by omega)]
    · show t = _
      rw [HT.out, g1, g2, toNat_mod g3 (by omega)]
  · have hb1 : ((y.length : Int) == 1) = false := beq_eq_false_iff_ne.2 (by omega)
    clear hy0 h1
    go_wp2_with fail
    refine (rbits_ok _ A1 c1 x RX2.out (by omega)).mono ?_
    rintro e w3 ⟨na, rfl, HNA, hna, hB⟩
    have HB3 := Lib.hid (below_seq HB2.out hB)
    have RX3 := Lib.hid (RX2.out.below hB)
    have RY3 := Lib.hid (RY2.out.below hB)
    clear hB HB2 RX2 RY2
    go_wp2_with fail
    refine (rbits_ok _ B1 d1 y RY3.out (by omega)).mono ?_
    rintro e w4 ⟨nb, rfl, HNB, hnb, hB⟩
    have HB4 := Lib.hid (below_seq HB3.out hB)
    have RX4 := Lib.hid (RX3.out.below hB)
    have RY4 := Lib.hid (RY3.out.below hB)
    clear hB HB3 RX3 RY3
    have HYP : Hid (0 < (V y).toNat) := by have h1 := HV.out; have h2 := HEY.out; show _ < _; omega
    by_cases hn : na < nb
    · have hd : decide ((na : Int) - (nb : Int) < 0) = true := decide_eq_true (by omega)
      have HL := Lib.hid (bl_less HNA.out HNB.out HYP.out hn)
      go_wp2_with fail
      go_ret3
      have g1 := HEX.out
      have g2 := HEY.out
      have g3 := HL.out
      rw [g1, g2] at g3
      refine ⟨none, 0, [], A1, c1, x, rfl, ?_, ?_, RN.nil _, RX4.out, HB4.out⟩
      · show [] = _
        rw [Nat.div_eq_of_lt g3, limbs_zero]
      · show x = _
        rw [HX.out, Nat.mod_eq_of_lt g3]
    · obtain ⟨n, hnn⟩ : ∃ n, na = nb + n := ⟨na - nb, by omega⟩
      subst hnn
      have hd : decide (((nb + n : Nat) : Int) - (nb : Int) < 0) = false := decide_eq_false (by omega)
      have hdn : ((nb + n : Nat) : Int) - (nb : Int) = (n : Int) := by omega
      have HR := Lib.hid (bl_reach HNA.out HNB.out HYP.out (by omega))
      have hvx : ((V x).toNat : Int) < pw x.length := by
        have h1 := V_lt HNX.out.1
        have h2 := V_nonneg HNX.out.1
        omega
      have HLN := Lib.hid (bl_len HNA.out HNB.out HYP.out (by omega) hvx)
      obtain ⟨m, hm⟩ : ∃ m, n / 32 = m := ⟨_, rfl⟩
      have hm1 : 32 * m ≤ n := by omega
      have hm2 : n < 32 * m + 32 := by omega
      have hq : (n : Int) / 32 = (m : Int) := by omega
      have hmk := mk_make 24 83 i0 .u32 Tryz.underlying24 hi hz0 hz1 ((m : Int) + 1) (by omega) (by rw [hz2]; omega) (by omega)
      rw [show ((m : Int) + 1).toNat = m + 1 from by omega] at hmk
      have HM := Lib.hid hm
      have hdn2 : (nb : Int) + (n : Int) - (nb : Int) = (n : Int) := by omega
      have hd0 : decide ((n : Int) < 0) = false := decide_eq_false (by omega)
      clear hm hn hd hvx
      have HB0 : Hid (Below w4.heap.size w4 (w4.alloc (.cells (madeCells #[.int .u32 0] (m + 1)) 83 (0, 0)))) := (Below.refl _ w4).alloc (Nat.le_refl _) _
      have hbk := Lib.hid (Bk.made (w := w4) (e := 83) (k := .u32) (m + 1))
      go_wp2_with fail
      clear hmk hdn hdn2
      refine (rshift_f _ B1 d1 y n ((RY4.out).below HB0.out) (by omega)).mono ?_
      rintro e w5 ⟨g5, c5, dl, hg5, rfl, HD5, hd5, hB⟩
      have HB5 := Lib.hid (below_seq HB4.out (below_seq HB0.out hB))
      have RX5 := Lib.hid ((RX4.out).below (below_seq HB0.out hB))
      have HK5 := Lib.hid (hbk.out.below' hB)
      have RD5 := Lib.hid hd5
      have SX := Lib.hid (fun (h : 0 < x.length) ad e => Nat.ne_of_lt (RX4.out.blk h ad e))
      have SD : Hid (Sep w4.heap.size (some ⟨g5, 0, none⟩) dl) := by
        intro _ ad e
        cases e
        have : w4.heap.size + 1 ≤ g5 := by simpa using hg5
        show g5 ≠ w4.heap.size
        omega
      have hdl : dl.length ≤ x.length + 1 := by
        have h := HLN.out
        rw [show nb + n - nb = n by omega] at h
        rw [HD5.out]
        exact h
      have HST : Hid (DMI (V x).toNat (V y).toNat n (n + 1) (V x).toNat ((V y).toNat * 2 ^ n) (List.replicate (m + 1) 0)) := by
        have h := HR.out
        rw [show nb + n - nb = n by omega] at h
        have h2 := dm_start h
        rw [HM.out] at h2
        exact h2
      have HXL : Hid (x = limbs (V x).toNat) := HNX.out.eq_limbs
      have HBG := Lib.hid HB4.out.size
      clear hbk hB hd5 hg5 HB4 RX4 RY4 HB0 HLN HR
      go_wp2_with fail
      go_loopw [0, 11, 12] (fun av dv iv wr => ∃ (k : Nat) (Aa : Option Addr) (ca : Nat) (al : List Int) (Dd : Option Addr) (cd : Nat) (dl p : List Int) (AA DD : Nat), k ≤ n + 1 ∧ iv = .int .i64 ((k : Int) - 1) ∧ av = .slice Aa al.length ca ∧ dv = .slice Dd dl.length cd ∧ al.length ≤ x.length ∧ dl.length ≤ x.length + 1 ∧ Hid (al = limbs AA) ∧ Hid (dl = limbs DD) ∧ Hid (DMI (V x).toNat (V y).toNat n k AA DD p) ∧ Bk wr w4.heap.size 83 .u32 p ∧ Hid (Sep w4.heap.size Aa al) ∧ Hid (Sep w4.heap.size Dd dl) ∧ Hid (RN wr Aa ca al) ∧ Hid (RN wr Dd cd dl) ∧ Hid (Below w.heap.size w wr)) (fun _ _ iv _ => (intOf iv + 1).toNat)
      case atStart => exact ⟨n + 1, A1, c1, x, some ⟨g5, 0, none⟩, c5, dl, _, _, _, Nat.le_refl _, by go_num, rfl, rfl, Nat.le_refl _, hdl, HXL, HD5, HST.out, HK5.out, SX.out, SD.out, RX5, RD5, HB5⟩
      case round =>
        clear HK5 SX SD RX5 RD5 HB5 HST HXL HD5 hdl
        obtain ⟨k, Aa, ca, al, Dd, cd, dl, p, AA, DD, hk, rfl, rfl, rfl, hal, hdl, HAL, HDL, HI, HK, SA, SD, RA, RD, HB⟩ := hrel
        by_cases h0 : k = 0
        · subst h0
          have hpl : p.length ≤ 70368744177664 := by have := HI.out.2.1; have := HM.out; omega
          have hR := HK.reads (by omega)
          have hpl1 : p.length = m + 1 := by have := HI.out.2.1; have := HM.out; omega
          have HP := Lib.hid hpl1
          clear hpl1
          go_wp2_with fail
          rw [← HP.out]
          refine (rnorm_ok _ _ _ p ⟨hR, HI.out.1⟩ hpl).mono ?_
          rintro e w6 ⟨A6, c6, q, rfl, HQ, hq, hB⟩
          have HB6 := Lib.hid (below_seq HB.out hB)
          have RA6 := Lib.hid (RA.out.below hB)
          clear hR hB
          go_wp2_with fail
          go_ret3
          obtain ⟨e1, e2⟩ := dm_end HI.out
          have g1 := HEX.out
          have g2 := HEY.out
          rw [g1, g2] at e1 e2
          exact ⟨A6, c6, q, Aa, ca, al, rfl, by show q = _; rw [HQ.out, e1], by show al = _; rw [HAL.out, e2], hq, RA6.out, HB6.out⟩
        · obtain ⟨j, rfl⟩ : ∃ j, k = j + 1 := ⟨k - 1, by omega⟩
          have ej : ((j + 1 : Nat) : Int) - 1 = (j : Int) := by omega
          rw [ej]
          clear ej h0
          obtain ⟨mj, s, rfl, hs32⟩ : ∃ mj s, j = 32 * mj + s ∧ s < 32 := ⟨j / 32, j % 32, by omega, by omega⟩
          have hmj : mj ≤ m := by omega
          obtain ⟨hcp, hfp⟩ := HK.cell (j := mj) (by have := HI.out.2.1; have := HM.out; omega)
          have bp := HI.out.1 mj
          have hq : (32 * (mj : Int) + (s : Int)) / 32 = (mj : Int) := by omega
          have hr : (32 * (mj : Int) + (s : Int)) % 32 = (s : Int) := by omega
          go_wp2_with fail
          refine (rcmp_ok _ Aa Dd _ _ al dl RA.out RD.out).mono ?_
          rintro e w6 ⟨nn, rfl, rfl⟩
          have hvA : V al = (AA : Int) := by rw [HAL.out, V_limbs]
          have hvD : V dl = (DD : Int) := by rw [HDL.out, V_limbs]
          rw [hvA, hvD]
          have HVA := Lib.hid hvA
          have HVD := Lib.hid hvD
          have RA6 := Lib.hid (RA.out.below (below_drewN (Below.refl _ _) nn))
          have RD6 := Lib.hid (RD.out.below (below_drewN (Below.refl _ _) nn))
          clear hvA hvD
          by_cases hle : DD ≤ AA
          · have hc1 : decide (0 ≤ cmpI (AA : Int) (DD : Int)) = true := by
              rcases (show (AA : Int) = DD ∨ (DD : Int) < AA by omega) with h | h
              · rw [cmpI_eq h]; rfl
              · rw [cmpI_gt h]; rfl
            go_wp2_with fail
            clear hc1
            refine (rsub_f _ Aa Dd _ _ al dl RA6.out RD6.out (by rw [HVA.out, HVD.out]; omega) (by omega)).mono ?_
            rintro e w7 ⟨g7, c7, a2, hg7, rfl, HA2, ha2, hB⟩
            have HK7 := Lib.hid ((HK.drewN nn).below' hB)
            have RA7 := Lib.hid ha2
            have RD7 := Lib.hid (RD6.out.below hB)
            have HB7 := Lib.hid (below_seq (below_drewN HB.out nn) hB)
            obtain ⟨b1, b2, b3, b4⟩ := LowZ.bit HI.out.2.2.1 HI.out.1 hs32 (by have := HI.out.2.1; have := HM.out; omega)
            have HS := Lib.hid (dm_yes HI.out hs32 (by omega) hle)
            obtain ⟨hcp7, hfp7⟩ := HK7.out.cell (j := mj) (by have := HI.out.2.1; have := HM.out; omega)
            have hval : Go.bits .or .u32 (dg p mj) (2 ^ s % 4294967296) = dg p mj + ((2 ^ s : Nat) : Int) := by
              have h31 : 2 ^ s ≤ 2 ^ 31 := Nat.pow_le_pow_right (by omega) (by omega)
              have e : (2 : Int) ^ s % 4294967296 = ((2 ^ s : Nat) : Int) := by
                rw [pow_cast]
                generalize 2 ^ s = z at h31
                omega
              rw [e, b1]
            have HV7 := Lib.hid hval
            have hla : a2.length ≤ x.length := by
              rw [HA2.out, HVA.out, HVD.out]
              have e : x = limbs (V x).toNat := HNX.out.eq_limbs
              have h4 := HI.out.2.2.2.1
              calc (limbs ((AA : Int).toNat - (DD : Int).toNat)).length ≤ (limbs (V x).toNat).length := limbs_mono (by omega)
                _ = x.length := by rw [← e]
            have HA3 : Hid (a2 = limbs (AA - DD)) := by show _ = _; rw [HA2.out, HVA.out, HVD.out]; rfl
            have SA7 : Hid (Sep w4.heap.size (some ⟨g7, 0, none⟩) a2) := by
              intro _ ad e
              cases e
              have h1 := HK.lt
              have h2 : wr.heap.size ≤ g7 := hg7
              show g7 ≠ w4.heap.size
              omega
            clear b1 b2 b3 b4 hval ha2 hB HA2
            go_wp2_with fail
            rw [HV7.out]
            refine (rhalf_f _ Dd cd dl (RD7.out.far SD.out mj _) (by omega)).mono ?_
            rintro e w8 ⟨g8, c8, d2, hg8, rfl, HD2, hd2, hB⟩
            have HK8 := Lib.hid ((HK7.out.set mj (dg p mj + ((2 ^ s : Nat) : Int))).below' hB)
            have RA8 := Lib.hid ((RA7.out.far SA7.out mj (.int .u32 (dg p mj + ((2 ^ s : Nat) : Int)))).below hB)
            have RD8 := Lib.hid hd2
            have HB8 := Lib.hid (below_seq (below_set HB7.out HBG.out (.int .u32 (dg p mj + ((2 ^ s : Nat) : Int)))) hB)
            have HD3 : Hid (d2 = limbs (DD / 2)) := by show _ = _; rw [HD2.out, HVD.out]; rfl
            have hld : d2.length ≤ x.length + 1 := by
              rw [HD3.out]
              exact Nat.le_trans (limbs_mono (show DD / 2 ≤ DD by omega)) (by rw [← HDL.out]; exact hdl)
            have SD8 : Hid (Sep w4.heap.size (some ⟨g8, 0, none⟩) d2) := by
              intro _ ad e
              cases e
              have h1 := HK7.out.lt
              have h2 : w7.heap.size ≤ g8 := by simpa using hg8
              show g8 ≠ w4.heap.size
              omega
            clear hB hd2 hg8
            go_wp2_with fail
            go_roundw
            case rel => exact ⟨32 * mj + s, some ⟨g7, 0, none⟩, c7, a2, some ⟨g8, 0, none⟩, c8, d2, _, AA - DD, DD / 2, by omega, by go_num, rfl, rfl, hla, hld, HA3, HD3, HS, HK8.out, SA7, SD8, RA8, RD8, HB8⟩
            case measure => simp [intOf]; omega
          · have hc1 : decide (0 ≤ cmpI (AA : Int) (DD : Int)) = false := by
              rw [cmpI_lt (by omega)]; rfl
            have HS := Lib.hid (dm_no HI.out (by omega))
            go_wp2_with fail
            clear hc1
            refine (rhalf_f _ Dd cd dl RD6.out (by omega)).mono ?_
            rintro e w8 ⟨g8, c8, d2, hg8, rfl, HD2, hd2, hB⟩
            have HK8 := Lib.hid ((HK.drewN nn).below' hB)
            have RA8 := Lib.hid (RA6.out.below hB)
            have RD8 := Lib.hid hd2
            have HB8 := Lib.hid (below_seq (below_drewN HB.out nn) hB)
            have HD3 : Hid (d2 = limbs (DD / 2)) := by show _ = _; rw [HD2.out, HVD.out]; rfl
            have hld : d2.length ≤ x.length + 1 := by
              rw [HD3.out]
              exact Nat.le_trans (limbs_mono (show DD / 2 ≤ DD by omega)) (by rw [← HDL.out]; exact hdl)
            have SD8 : Hid (Sep w4.heap.size (some ⟨g8, 0, none⟩) d2) := by
              intro _ ad e
              cases e
              have h1 := HK.lt
              have h2 : wr.heap.size ≤ g8 := hg8
              show g8 ≠ w4.heap.size
              omega
            clear hB hd2 hg8
            go_wp2_with fail
            go_roundw
            case rel => exact ⟨32 * mj + s, Aa, ca, al, some ⟨g8, 0, none⟩, c8, d2, p, AA, DD / 2, by omega, by go_num, rfl, rfl, hal, hld, HAL, HD3, HS, HK8.out, SA, SD8, RA8, RD8, HB8⟩
            case measure => simp [intOf]; omega

end Go.Proofs.YtocpncjmcaecoaaGreat.M
