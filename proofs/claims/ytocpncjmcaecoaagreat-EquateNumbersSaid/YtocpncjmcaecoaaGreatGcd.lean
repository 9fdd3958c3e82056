/- Greatest common divisors: the program's and the reference's. -/
import Derived.Test.YtocpncjmcaecoaaGreatDivE
import Derived.Test.YtocpncjmcaecoaaGreatRefJ
namespace Go.Proofs.YtocpncjmcaecoaaGreat.M
set_option maxRecDepth 10000
open Go.RowKit
set_option linter.unusedVariables false
set_option linter.unusedSimpArgs false

set_option maxHeartbeats 800000 in
theorem gcd_ok (w : World) (A B : Option Addr) (c d : Nat) (xs ys : List Int) (hx : RN w A c xs) (hy : RN w B d ys) (hsx : xs.length ≤ 35184372088800) (hsy : ys.length ≤ 35184372088800) :
    Calls Tryz.prog 83 #[.slice A xs.length c, .slice B ys.length d] w (RetN (Nat.gcd (V xs).toNat (V ys).toNat) w) := by
  have HX0 := Lib.hid hx
  have HY0 := Lib.hid hy
  have HGX := Lib.hid (V_nonneg hx.2)
  have HGY := Lib.hid (V_nonneg hy.2)
  have HLX := Lib.hid (V_lt hx.2)
  have HLY := Lib.hid (V_lt hy.2)
  clear hx hy
  go_enter Tryz.func83, Tryz.ntmps83
  go_wp2_with fail
  refine (norm_ok _ A c xs HX0.out (by omega)).mono ?_
  rintro e w1 ⟨A1, c1, a0, rfl, HA0, ha0, hB⟩
  have HB1 := Lib.hid hB
  have RA0 := Lib.hid ha0
  have RY1 := Lib.hid (HY0.out.below hB)
  clear hB ha0
  go_wp2_with fail
  refine (norm_ok _ B d ys RY1.out (by omega)).mono ?_
  rintro e w2 ⟨B1, d1, b0, rfl, HB0, hb0, hB⟩
  have HB2 := Lib.hid (below_seq HB1.out hB)
  have RA1 := Lib.hid (RA0.out.below hB)
  have RB1 := Lib.hid hb0
  have hla : a0.length ≤ 35184372088800 := by
    rw [HA0.out]
    refine limbs_len (m := 35184372088800) ?_
    have := HLX.out
    have := pw_le hsx
    have := HGX.out
    omega
  have hlb : b0.length ≤ 35184372088800 := by
    rw [HB0.out]
    refine limbs_len (m := 35184372088800) ?_
    have := HLY.out
    have := pw_le hsy
    have := HGY.out
    omega
  have HLA := Lib.hid hla
  have HLB := Lib.hid hlb
  clear hB hb0 hla hlb
  go_wp2_with fail
  go_loopg [5, 6] (V ys).toNat (fun k va vb wr => ∃ (A2 B2 : Option Addr) (c2 d2 : Nat) (a b : List Int) (M : Nat), va = .slice A2 a.length c2 ∧ vb = .slice B2 b.length d2 ∧ Hid (a = limbs M) ∧ Hid (b = limbs k) ∧ Hid (Nat.gcd M k = Nat.gcd (V xs).toNat (V ys).toNat) ∧ Hid (a.length ≤ 35184372088800) ∧ Hid (b.length ≤ 35184372088800) ∧ Hid (RN wr A2 c2 a) ∧ Hid (RN wr B2 d2 b) ∧ Hid (Below w.heap.size w wr))
  case atStart => exact ⟨A1, B1, c1, d1, a0, b0, (V xs).toNat, rfl, rfl, HA0, HB0, rfl, HLA, HLB, RA1, RB1, HB2⟩
  case round =>
    clear HX0 HY0 HGX HGY HLX HLY HB1 HB2 RA0 RA1 RB1 RY1 HA0 HB0 HLA HLB
    obtain ⟨A2, B2, c2, d2, a, b, M, rfl, rfl, HA, HB, HG, HLa, HLb, RA, RB, HW⟩ := hrel
    by_cases h0 : b.length = 0
    · have hz : decide ((0 : Int) < (b.length : Int)) = false := decide_eq_false (by omega)
      have hz2 : decide (0 < b.length) = false := decide_eq_false (by omega)
      have hk : gk = 0 := by
        have h1 := HB.out
        rw [List.length_eq_zero_iff.1 h0] at h1
        exact limbs_eq_nil.1 h1.symm
      have HK := Lib.hid hk
      have H0 := Lib.hid h0
      clear h0 hk
      go_wp2_with fail
      go_ret
      refine ⟨A2, c2, a, rfl, ?_, RA.out, HW.out⟩
      show a = _
      rw [HA.out, ← HG.out, HK.out, Nat.gcd_zero_right]
    · have hz : decide ((0 : Int) < (b.length : Int)) = true := decide_eq_true (by omega)
      have hz2 : decide (0 < b.length) = true := decide_eq_true (by omega)
      have hk : 0 < gk := by
        rcases Nat.eq_zero_or_pos gk with h | h
        · exfalso
          have h1 := HB.out
          rw [h, limbs_zero] at h1
          exact h0 (by rw [h1]; rfl)
        · exact h
      have HK := Lib.hid hk
      have HVa : Hid (V a = (M : Int)) := by show _ = _; rw [HA.out, V_limbs]
      have HVb : Hid (V b = (gk : Int)) := by show _ = _; rw [HB.out, V_limbs]
      clear h0 hk
      go_wp2_with fail
      refine (divMod_ok _ A2 B2 c2 d2 a b RA.out RB.out (by rw [HVb.out]; have := HK.out; omega) (by have := HLa.out; have := HLb.out; omega)).mono ?_
      rintro e w3 ⟨A3, c3, q, B3, d3, r, rfl, HQ, HR, hq, hr, hB⟩
      rw [HVa.out, HVb.out, Int.toNat_natCast, Int.toNat_natCast] at HR
      have RB3 := Lib.hid (RB.out.below hB)
      have RR3 := Lib.hid hr
      have HW3 := Lib.hid (below_seq HW.out hB)
      clear hq hr hB
      go_wp2_with fail
      go_roundg (M % gk)
      case measure => exact Nat.mod_lt _ HK.out
      case rel =>
        refine ⟨B2, B3, d2, d3, b, r, gk, rfl, rfl, HB, HR, ?_, HLb, ?_, RB3, RR3, HW3⟩
        · show Nat.gcd gk (M % gk) = _
          rw [← HG.out, Nat.gcd_comm gk, Nat.gcd_comm M]
          exact (Nat.gcd_rec gk M).symm
        · show r.length ≤ _
          refine Nat.le_trans ?_ HLb.out
          rw [HR.out, HB.out]
          refine limbs_len (Int.lt_of_lt_of_le (Int.ofNat_lt.2 (Nat.mod_lt M HK.out)) (Int.le_of_lt (limbs_lt gk)))

set_option maxHeartbeats 800000 in
theorem rgcd_ok (w : World) (A B : Option Addr) (c d : Nat) (xs ys : List Int) (hx : RN w A c xs) (hy : RN w B d ys) (hsx : xs.length ≤ 35184372088800) (hsy : ys.length ≤ 35184372088800) :
    Calls Tryz.prog 96 #[.slice A xs.length c, .slice B ys.length d] w (RetN (Nat.gcd (V xs).toNat (V ys).toNat) w) := by
  have HX0 := Lib.hid hx
  have HY0 := Lib.hid hy
  have HGX := Lib.hid (V_nonneg hx.2)
  have HGY := Lib.hid (V_nonneg hy.2)
  have HLX := Lib.hid (V_lt hx.2)
  have HLY := Lib.hid (V_lt hy.2)
  clear hx hy
  go_enter Tryz.func96, Tryz.ntmps96
  go_wp2_with fail
  refine (rnorm_ok _ A c xs HX0.out (by omega)).mono ?_
  rintro e w1 ⟨A1, c1, a0, rfl, HA0, ha0, hB⟩
  have HB1 := Lib.hid hB
  have RA0 := Lib.hid ha0
  have RY1 := Lib.hid (HY0.out.below hB)
  clear hB ha0
  go_wp2_with fail
  refine (rnorm_ok _ B d ys RY1.out (by omega)).mono ?_
  rintro e w2 ⟨B1, d1, b0, rfl, HB0, hb0, hB⟩
  have HB2 := Lib.hid (below_seq HB1.out hB)
  have RA1 := Lib.hid (RA0.out.below hB)
  have RB1 := Lib.hid hb0
  have hla : a0.length ≤ 35184372088800 := by
    rw [HA0.out]
    refine limbs_len (m := 35184372088800) ?_
    have := HLX.out
    have := pw_le hsx
    have := HGX.out
    omega
  have hlb : b0.length ≤ 35184372088800 := by
    rw [HB0.out]
    refine limbs_len (m := 35184372088800) ?_
    have := HLY.out
    have := pw_le hsy
    have := HGY.out
    omega
  have HLA := Lib.hid hla
  have HLB := Lib.hid hlb
  clear hB hb0 hla hlb
  go_wp2_with fail
  go_loopg [0, 1] (V ys).toNat (fun k va vb wr => ∃ (A2 B2 : Option Addr) (c2 d2 : Nat) (a b : List Int) (M : Nat), va = .slice A2 a.length c2 ∧ vb = .slice B2 b.length d2 ∧ Hid (a = limbs M) ∧ Hid (b = limbs k) ∧ Hid (Nat.gcd M k = Nat.gcd (V xs).toNat (V ys).toNat) ∧ Hid (a.length ≤ 35184372088800) ∧ Hid (b.length ≤ 35184372088800) ∧ Hid (RN wr A2 c2 a) ∧ Hid (RN wr B2 d2 b) ∧ Hid (Below w.heap.size w wr))
  case atStart => exact ⟨A1, B1, c1, d1, a0, b0, (V xs).toNat, rfl, rfl, HA0, HB0, rfl, HLA, HLB, RA1, RB1, HB2⟩
  case round =>
    clear HX0 HY0 HGX HGY HLX HLY HB1 HB2 RA0 RA1 RB1 RY1 HA0 HB0 HLA HLB
    obtain ⟨A2, B2, c2, d2, a, b, M, rfl, rfl, HA, HB, HG, HLa, HLb, RA, RB, HW⟩ := hrel
    by_cases h0 : b.length = 0
    · have hz : decide ((0 : Int) < (b.length : Int)) = false := decide_eq_false (by omega)
      have hz2 : decide (0 < b.length) = false := decide_eq_false (by omega)
      have hk : gk = 0 := by
        have h1 := HB.out
        rw [List.length_eq_zero_iff.1 h0] at h1
        exact limbs_eq_nil.1 h1.symm
      have HK := Lib.hid hk
      have H0 := Lib.hid h0
      clear h0 hk
      go_wp2_with fail
      go_ret
      refine ⟨A2, c2, a, rfl, ?_, RA.out, HW.out⟩
      show a = _
      rw [HA.out, ← HG.out, HK.out, Nat.gcd_zero_right]
    · have hz : decide ((0 : Int) < (b.length : Int)) = true := decide_eq_true (by omega)
      have hz2 : decide (0 < b.length) = true := decide_eq_true (by omega)
      have hk : 0 < gk := by
        rcases Nat.eq_zero_or_pos gk with h | h
        · exfalso
          have h1 := HB.out
          rw [h, limbs_zero] at h1
          exact h0 (by rw [h1]; rfl)
        · exact h
      have HK := Lib.hid hk
      have HVa : Hid (V a = (M : Int)) := by show _ = _; rw [HA.out, V_limbs]
      have HVb : Hid (V b = (gk : Int)) := by show _ = _; rw [HB.out, V_limbs]
      clear h0 hk
      go_wp2_with fail
      refine (rdivMod_ok _ A2 B2 c2 d2 a b RA.out RB.out (by rw [HVb.out]; have := HK.out; omega) (by have := HLa.out; have := HLb.out; omega)).mono ?_
      rintro e w3 ⟨A3, c3, q, B3, d3, r, rfl, HQ, HR, hq, hr, hB⟩
      rw [HVa.out, HVb.out, Int.toNat_natCast, Int.toNat_natCast] at HR
      have RB3 := Lib.hid (RB.out.below hB)
      have RR3 := Lib.hid hr
      have HW3 := Lib.hid (below_seq HW.out hB)
      clear hq hr hB
      go_wp2_with fail
      go_roundg (M % gk)
      case measure => exact Nat.mod_lt _ HK.out
      case rel =>
        refine ⟨B2, B3, d2, d3, b, r, gk, rfl, rfl, HB, HR, ?_, HLb, ?_, RB3, RR3, HW3⟩
        · show Nat.gcd gk (M % gk) = _
          rw [← HG.out, Nat.gcd_comm gk, Nat.gcd_comm M]
          exact (Nat.gcd_rec gk M).symm
        · show r.length ≤ _
          refine Nat.le_trans ?_ HLb.out
          rw [HR.out, HB.out]
          refine limbs_len (Int.lt_of_lt_of_le (Int.ofNat_lt.2 (Nat.mod_lt M HK.out)) (Int.le_of_lt (limbs_lt gk)))

end Go.Proofs.YtocpncjmcaecoaaGreat.M
