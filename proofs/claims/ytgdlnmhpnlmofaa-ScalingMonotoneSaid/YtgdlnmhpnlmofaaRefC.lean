/- The reference: Mul. -/
import Derived.Test.YtgdlnmhpnlmofaaRefB
namespace Go.Proofs.Ytgdlnmhpnlmofaa.M
set_option maxRecDepth 10000
open Go.RowKit
set_option linter.unusedVariables false

theorem Bk.drewN {w : World} {g e : Nat} {k : IntKind} {l : List Int} (h : Bk w g e k l) (n : Nat) : Bk (w.drewN n) g e k l := h

set_option maxHeartbeats 800000 in
theorem rmul_ok (w : World) (A B : Option Addr) (c d : Nat) (x y : List Int) (hx : RN w A c x) (hy : RN w B d y) (hs : x.length + y.length ≤ 70368744177664) :
    Calls Try.prog 55 #[.slice A x.length c, .slice B y.length d] w (RetN ((V x).toNat * (V y).toNat) w) := by
  obtain ⟨i0, hi, hz0, hz1, hz2⟩ := info_parts info_u32
  have RX := Lib.hid hx
  have RY := Lib.hid hy
  clear hx hy
  have hmk := mk_make 29 95 i0 .u32 Try.underlying29 hi hz0 hz1 ((x.length : Int) + (y.length : Int)) (by omega) (by rw [hz2]; omega) (by omega)
  rw [show ((x.length : Int) + (y.length : Int)).toNat = x.length + y.length from by omega] at hmk
  go_enter Try.func55, Try.ntmps55
  go_wp2_with fail
  clear hmk
  go_loopw [6] (fun i wr => ∃ (k : Nat) (p : List Int), k ≤ x.length ∧ i = .int .i64 (k : Int) ∧ Hid (p.length = x.length + y.length) ∧ Hid (MulI x y p k) ∧ Bk wr w.heap.size 95 .u32 p ∧ Hid (Below w.heap.size w wr)) (fun i _ => x.length - (intOf i).toNat)
  case atStart => exact ⟨0, List.replicate (x.length + y.length) 0, Nat.zero_le _, rfl, by simp [Hid], mul_start x y, Bk.made _, (Below.refl _ w).alloc (Nat.le_refl _) _⟩
  case round =>
    obtain ⟨k, p, hk, rfl, HL, HI, HB, HW⟩ := hrel
    obtain ⟨wo, rfl⟩ : ∃ wo : World, wo = wr := ⟨_, rfl⟩
    by_cases hlt : k < x.length
    · have bx := (RX.out).2 k
      go_wp2
      go_loopw [7, 8] (fun cv mv wr2 => ∃ (m : Nat) (q : Int) (p2 : List Int), m ≤ y.length ∧ mv = .int .i64 (m : Int) ∧ cv = .int .u64 q ∧ 0 ≤ q ∧ q ≤ 4294967295 ∧ Hid (p2.length = x.length + y.length) ∧ Hid (MulJ x y p2 k m q) ∧ Bk wr2 w.heap.size 95 .u32 p2 ∧ Hid (Below w.heap.size w wr2)) (fun _ mv _ => y.length - (intOf mv).toNat)
      case atStart => exact ⟨0, 0, p, Nat.zero_le _, rfl, rfl, Int.le_refl _, by omega, HL, mul_in HI.out, HB, HW⟩
      case round =>
        obtain ⟨m, q, p2, hm, rfl, rfl, hq0, hq1, HL2, HI2, HB2, HW2⟩ := hrel
        by_cases hlt2 : m < y.length
        · obtain ⟨ad, rfl, hcx⟩ := ((RX.out).below HW2.out).1.2.2 k hlt
          obtain ⟨bd, rfl, hcy⟩ := ((RY.out).below HW2.out).1.2.2 m hlt2
          have by' := (RY.out).2 m
          have bp := (HI2.out).1 (k + m)
          have bxy := mul_bound bx by'
          obtain ⟨hcp, hfp⟩ := HB2.cell (j := k + m) (by have := HL2.out; omega)
          have HS : Hid (MulJ x y (p2.set (k + m) ((dg p2 (k + m) + dg x k * dg y m + q) % 4294967296)) k (m + 1) ((dg p2 (k + m) + dg x k * dg y m + q) / 4294967296)) := by
            have h := mul_round HI2.out RX.out.2 RY.out.2 hlt2 HL2.out hlt
            rw [show q + (dg x k * dg y m + dg p2 (k + m)) = dg p2 (k + m) + dg x k * dg y m + q by omega] at h
            exact h
          go_wp2
          go_quiet (fail)
          go_wp2
          go_roundw
          case measure => simp [intOf]; omega
          case rel =>
            exact ⟨m + 1, _, p2.set (k + m) ((dg p2 (k + m) + dg x k * dg y m + q) % 4294967296), by omega, by go_num, rfl, by omega, by omega, by show _ = _; rw [List.length_set]; exact HL2.out, HS, (HB2.drewN _).set _ _, below_set (below_drewN HW2.out _) (Nat.le_refl _) _⟩
        · obtain rfl : m = y.length := by omega
          obtain ⟨hcp, hfp⟩ := HB2.cell (j := k + y.length) (by have := HL2.out; omega)
          have HS := Lib.hid (mul_out HI2.out HL2.out hlt)
          go_wp2
          go_roundw
          case measure => simp [intOf]; omega
          case rel => exact ⟨k + 1, p2.set (k + y.length) q, by omega, by go_num, by show _ = _; rw [List.length_set]; exact HL2.out, HS, HB2.set _ _, below_set HW2.out (Nat.le_refl _) _⟩
    · obtain rfl : k = x.length := by omega
      have hpl : p.length ≤ 70368744177664 := by have := HL.out; omega
      have hR := HB.reads (by omega)
      go_wp2_with fail
      rw [← HL.out]
      refine (rnorm_ok _ _ _ p ⟨hR, HI.out.1⟩ hpl).mono ?_
      rintro e w1 ⟨A1, c1, z, rfl, HZ, hz, hB⟩
      have HB1 := Lib.hid (below_seq HW.out hB)
      clear hR hB
      go_wp2
      go_ret
      refine ⟨_, _, z, rfl, ?_, hz, HB1.out⟩
      show z = _
      rw [HZ.out, HI.out.2.2]
      have h1 := V_nonneg RX.out.2
      have h2 := V_nonneg RY.out.2
      congr 1
      show (V x * V y).toNat = _
      rw [Int.toNat_mul h1 h2]

end Go.Proofs.Ytgdlnmhpnlmofaa.M
