/- Skipping: the program's and the reference's. -/
import Derived.Test.YtcjpobnkapfccaaDrawA
namespace Go.Proofs.Ytcjpobnkapfccaa.M
open Go.RowKit
set_option linter.unusedVariables false
set_option linter.unusedSimpArgs false

set_option maxHeartbeats 800000 in
theorem dskip_ok (w : World) (s n : Int) (hn0 : -9223372036854775808 ≤ n) (hn1 : n ≤ 9223372036854775807) :
    Calls Try.prog 27 #[.int .u64 s, .int .i64 n] w (fun e w' => e = .returned (.int .u64 (skips s (min n 9999999).toNat)) ∧ w' = w) := by
  go_enter Try.func27, Try.ntmps27
  obtain ⟨mi, hmi⟩ : ∃ mi, min n 9999999 = mi := ⟨_, rfl⟩
  rw [hmi]
  obtain ⟨m, hm⟩ : ∃ m : Nat, mi.toNat = m := ⟨_, rfl⟩
  have hmm : mi ≤ 9999999 := by omega
  have hm9 : m ≤ 9999999 := by omega
  go_wp2_with fail
  go_loopw [5, 9] (fun v iv wr => ∃ k : Nat, v = .int .u64 (skips s k) ∧ iv = .int .i64 (k : Int) ∧ k ≤ m ∧ wr = w) (fun _ iv _ => m - (intOf iv).toNat)
  case atStart => exact ⟨0, rfl, rfl, Nat.zero_le _, rfl⟩
  case round =>
    obtain ⟨k, rfl, rfl, hk, rfl⟩ := hrel
    by_cases hlt : k < m
    · have hl : decide ((k : Int) < mi) = true := decide_eq_true (by omega)
      clear hm
      go_wp2_with fail
      refine (dstep_ok wr (skips s k)).mono ?_
      rintro e w1 ⟨rfl, rfl⟩
      go_wp2_with fail
      go_roundw
      case rel => exact ⟨k + 1, rfl, by go_num, hlt, by first | trivial | rfl⟩
      case measure => simp [intOf]; omega
    · have hl : decide ((k : Int) < mi) = false := decide_eq_false (by omega)
      obtain rfl : k = m := by omega
      have HM := Lib.hid hm
      clear hm
      go_wp2_with fail
      go_ret
      rw [HM.out]
      exact ⟨rfl, rfl⟩

set_option maxHeartbeats 800000 in
theorem rdskip_ok (w : World) (s n : Int) (hn0 : -9223372036854775808 ≤ n) (hn1 : n ≤ 9223372036854775807) :
    Calls Try.prog 28 #[.int .u64 s, .int .i64 n] w (fun e w' => e = .returned (.int .u64 (skips s (min n 9999999).toNat)) ∧ w' = w) := by
  go_enter Try.func28, Try.ntmps28
  obtain ⟨mi, hmi⟩ : ∃ mi, min n 9999999 = mi := ⟨_, rfl⟩
  rw [hmi]
  obtain ⟨m, hm⟩ : ∃ m : Nat, mi.toNat = m := ⟨_, rfl⟩
  have hmm : mi ≤ 9999999 := by omega
  have hm9 : m ≤ 9999999 := by omega
  by_cases hg : 9999999 < n
  · have hd : decide (9999999 < n) = true := decide_eq_true hg
    obtain rfl : 9999999 = mi := by omega
    clear hg hmi
    go_wp2_with fail
    go_loopw [5, 6] (fun v iv wr => ∃ k : Nat, v = .int .u64 (skips s k) ∧ iv = .int .i64 (k : Int) ∧ k ≤ m ∧ wr = w) (fun _ iv _ => m - (intOf iv).toNat)
    case atStart => exact ⟨0, rfl, rfl, Nat.zero_le _, rfl⟩
    case round =>
      obtain ⟨k, rfl, rfl, hk, rfl⟩ := hrel
      by_cases hlt : k < m
      · have hl : decide ((k : Int) < 9999999) = true := decide_eq_true (by omega)
        clear hm
        go_wp2_with fail
        refine (rdstep_ok wr (skips s k)).mono ?_
        rintro e w1 ⟨rfl, rfl⟩
        go_wp2_with fail
        go_roundw
        case rel => exact ⟨k + 1, rfl, by go_num, hlt, by first | trivial | rfl⟩
        case measure => simp [intOf]; omega
      · have hl : decide ((k : Int) < 9999999) = false := decide_eq_false (by omega)
        obtain rfl : k = m := by omega
        have HM := Lib.hid hm
        clear hm
        go_wp2_with fail
        go_ret
        rw [HM.out]
        exact ⟨rfl, rfl⟩
  · have hd : decide (9999999 < n) = false := decide_eq_false hg
    obtain rfl : mi = n := by omega
    clear hg hmi
    go_wp2_with fail
    go_loopw [5, 6] (fun v iv wr => ∃ k : Nat, v = .int .u64 (skips s k) ∧ iv = .int .i64 (k : Int) ∧ k ≤ m ∧ wr = w) (fun _ iv _ => m - (intOf iv).toNat)
    case atStart => exact ⟨0, rfl, rfl, Nat.zero_le _, rfl⟩
    case round =>
      obtain ⟨k, rfl, rfl, hk, rfl⟩ := hrel
      by_cases hlt : k < m
      · have hl : decide ((k : Int) < mi) = true := decide_eq_true (by omega)
        clear hm
        go_wp2_with fail
        refine (rdstep_ok wr (skips s k)).mono ?_
        rintro e w1 ⟨rfl, rfl⟩
        go_wp2_with fail
        go_roundw
        case rel => exact ⟨k + 1, rfl, by go_num, hlt, by first | trivial | rfl⟩
        case measure => simp [intOf]; omega
      · have hl : decide ((k : Int) < mi) = false := decide_eq_false (by omega)
        obtain rfl : k = m := by omega
        have HM := Lib.hid hm
        clear hm
        go_wp2_with fail
        go_ret
        rw [HM.out]
        exact ⟨rfl, rfl⟩

end Go.Proofs.Ytcjpobnkapfccaa.M
