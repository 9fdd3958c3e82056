/- The reference: Bits. -/
import Derived.Test.YtgdlnmhpnlmofaaRefE
import Derived.Test.YtgdlnmhpnlmofaaNatH
namespace Go.Proofs.Ytgdlnmhpnlmofaa.M
set_option maxRecDepth 10000
open Go.RowKit
set_option linter.unusedVariables false

theorem pw_two (k : Nat) : pw k = ((2 ^ (32 * k) : Nat) : Int) := by
  induction k with
  | zero => rfl
  | succ k ih =>
    rw [pw_succ, ih, show 32 * (k + 1) = 32 * k + 32 by omega, Nat.pow_add]
    generalize 2 ^ (32 * k) = x
    omega
/-- b is the number of bits of N. -/
def BL (N b : Nat) : Prop := (N = 0 ∧ b = 0) ∨ (0 < b ∧ 2 ^ (b - 1) ≤ N ∧ N < 2 ^ b)
theorem BL_top {x : List Int} (h : Nf x) {n : Nat} (hn : x.length = n + 1) : BL (V x).toNat (32 * n + Lib.bitLen (dg x n).toNat) := by
  have h0 := h.2 (by omega)
  rw [hn, Nat.add_sub_cancel] at h0
  have hb := h.1 n
  have hl := (S_bound (f := dg x) (k := n) (fun j _ => h.1 j))
  have hv : V x = S (dg x) n + dg x n * pw n := by unfold V; rw [hn, S_succ]
  have hbb := Lib.bitLenAux_bounds 64 (dg x n).toNat (by omega) (by omega)
  have e : Lib.bitLenAux 64 (dg x n).toNat = Lib.bitLen (dg x n).toNat := rfl
  rw [e] at hbb
  obtain ⟨c1, c2, c3⟩ := hbb
  generalize Lib.bitLen (dg x n).toNat = m at *
  refine .inr ⟨by omega, ?_, ?_⟩
  · rw [show 32 * n + m - 1 = 32 * n + (m - 1) by omega, Nat.pow_add]
    have a1 : ((2 ^ (m - 1) : Nat) : Int) * pw n ≤ dg x n * pw n := Int.mul_le_mul_of_nonneg_right (by omega) (by have := pw_pos n; omega)
    rw [pw_two, ← Int.natCast_mul] at a1
    have a2 : ((2 ^ (m - 1) * 2 ^ (32 * n) : Nat) : Int) ≤ V x := by
      rw [hv, pw_two]
      omega
    rw [Nat.mul_comm]
    omega
  · have a1 : (dg x n + 1) * pw n ≤ ((2 ^ m : Nat) : Int) * pw n := Int.mul_le_mul_of_nonneg_right (by omega) (by have := pw_pos n; omega)
    rw [Int.add_mul, Int.one_mul] at a1
    have a2 : V x < ((2 ^ m : Nat) : Int) * pw n := by omega
    rw [pw_two, ← Int.natCast_mul] at a2
    have e3 : 2 ^ (32 * n + m) = 2 ^ m * 2 ^ (32 * n) := by rw [Nat.pow_add, Nat.mul_comm]
    rw [e3]
    have := V_nonneg h.1
    omega

/-- The number of bits. -/
def RetBits (N : Nat) (m : Nat) (w : World) (e : Ending) (w' : World) : Prop := ∃ b : Nat, e = .returned (.int .i64 (b : Int)) ∧ Hid (BL N b) ∧ b ≤ m ∧ Below w.heap.size w w'

set_option maxHeartbeats 800000 in
theorem rbits_ok (w : World) (A : Option Addr) (c : Nat) (xs : List Int) (hx : RN w A c xs) (hs : xs.length ≤ 70368744177664) : Calls Try.prog 81 #[.slice A xs.length c] w (RetBits (V xs).toNat (32 * xs.length) w) := by
  have hln := nrm_len hx.2
  have HV0 := Lib.hid (V_nonneg hx.2)
  go_enter Try.func81, Try.ntmps81
  go_wp2_with fail
  refine (rnorm_ok _ A c xs hx hs).mono ?_
  rintro e w1 ⟨A1, c1, x, rfl, HX, hx', hB⟩
  have HB := Lib.hid hB
  have RX := Lib.hid hx'
  have NX : Nf x := by rw [HX.out]; exact limbs_nf _
  have EX : V x = V xs := by rw [HX.out, V_limbs]; have := HV0.out; omega
  have hl : x.length ≤ xs.length := by
    have e : nrm xs = x := by rw [HX.out]; rfl
    rw [← e]; exact hln
  have HNX := Lib.hid NX
  have HEX := Lib.hid EX
  clear hx hx' hB NX EX HX
  by_cases h0 : x.length = 0
  · have hb : ((x.length : Int) == 0) = true := beq_iff_eq.2 (by omega)
    have H0 := Lib.hid h0
    clear h0
    go_wp2_with fail
    go_ret
    refine ⟨0, rfl, .inl ⟨?_, rfl⟩, Nat.zero_le _, HB.out⟩
    rw [← HEX.out, List.length_eq_zero_iff.1 H0.out]
    rfl
  · have hb : ((x.length : Int) == 0) = false := beq_eq_false_iff_ne.2 (by omega)
    obtain ⟨n, hn⟩ : ∃ n, x.length = n + 1 := ⟨x.length - 1, by omega⟩
    obtain ⟨ad, rfl, hc⟩ := (RX.out).1.2.2 n (by omega)
    have bx := (RX.out).2 n
    have HBL := Lib.hid (BL_top HNX.out hn)
    have hl32 := Lib.bitLen_le (dg x n).toNat 32 (by omega) (by omega)
    have en : (x.length : Int) - 1 = (n : Int) := by omega
    have hle : n + 1 ≤ x.length := by omega
    have hle2 : x.length ≤ n + 1 := by omega
    clear hn h0
    go_wp2_with fail
    clear en
    go_loopw [3, 4] (fun nv xv wr => ∃ (m t : Nat), nv = .int .i64 (m : Int) ∧ xv = .int .u32 (t : Int) ∧ t ≤ 4294967295 ∧ m ≤ 32 * n + 32 ∧ Hid (m + Lib.bitLen t = 32 * n + Lib.bitLen (dg x n).toNat) ∧ w1 = wr) (fun _ xv _ => (intOf xv).toNat)
    case atStart => exact ⟨32 * n, (dg x n).toNat, by go_num, by rw [Int.toNat_of_nonneg bx.1], by omega, by omega, rfl, rfl⟩
    case round =>
      obtain ⟨m, t, rfl, rfl, ht, hm, HT, rfl⟩ := hrel
      by_cases ht0 : 0 < t
      · have HT2 : Hid (m + 1 + Lib.bitLen (t / 2) = 32 * n + Lib.bitLen (dg x n).toNat) := by
          have h1 := HT.out
          rw [Lib.bitLen_half t (by omega) (by omega)] at h1
          show _ = _
          omega
        have hm2 : m + 1 ≤ 32 * n + 32 := by have := HT2.out; omega
        go_wp2_with fail
        go_roundw
        case rel => exact ⟨m + 1, t / 2, by go_num, by go_num, by omega, hm2, HT2, by first | rfl | trivial⟩
        case measure => simp [intOf]; omega
      · obtain rfl : t = 0 := by omega
        go_wp2_with fail
        go_ret
        have h1 := HT.out
        rw [show Lib.bitLen 0 = 0 from rfl, Nat.add_zero] at h1
        refine ⟨m, rfl, ?_, by omega, HB.out⟩
        rw [← HEX.out, h1]
        exact HBL.out

end Go.Proofs.Ytgdlnmhpnlmofaa.M
