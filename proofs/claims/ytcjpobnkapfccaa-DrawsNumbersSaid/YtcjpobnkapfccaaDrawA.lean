/- The draws of the program: one step, numbers below a bound. -/
import Derived.Test.YtcjpobnkapfccaaDrawP
namespace Go.Proofs.Ytcjpobnkapfccaa.M
open Go.RowKit
set_option linter.unusedVariables false
set_option linter.unusedSimpArgs false

set_option maxHeartbeats 400000 in
theorem dstep_ok (w : World) (s : Int) :
    Calls Try.prog 33 #[.int .u64 s] w (fun e w' => e = .returned (.int .u64 (lcg s)) ∧ w' = w) := by
  go_enter Try.func33, Try.ntmps33
  have h := lcg_wrap s
  go_wp2_with fail
  go_ret
  exact ⟨rfl, rfl⟩

set_option maxHeartbeats 400000 in
theorem dnew_ok (w : World) (s : Int) :
    Calls Try.prog 21 #[.int .u64 s] w (fun e w' => e = .returned (.int .u64 (lcg s)) ∧ w' = w) := by
  go_enter Try.func21, Try.ntmps21
  go_wp2_with fail
  refine (dstep_ok w s).mono ?_
  rintro e w1 ⟨rfl, rfl⟩
  go_wp2_with fail
  go_ret
  exact ⟨rfl, rfl⟩

set_option maxHeartbeats 400000 in
theorem dnext_ok (w : World) (s : Int) :
    Calls Try.prog 20 #[.int .u64 s] w (fun e w' => e = .returned (.tuple #[.int .u32 (hi s), .int .u64 (lcg s)]) ∧ w' = w) := by
  go_enter Try.func20, Try.ntmps20
  go_wp2_with fail
  refine (dstep_ok w s).mono ?_
  rintro e w1 ⟨rfl, rfl⟩
  have hb := lcg_bound s
  obtain ⟨l, hl⟩ : ∃ l, lcg s = l := ⟨_, rfl⟩
  have HL := Lib.hid hl
  rw [hl] at hb
  obtain ⟨hb0, hb1⟩ := hb
  rw [hl]
  clear hl
  go_wp2_with fail
  go_ret2
  refine ⟨?_, rfl⟩
  unfold hi
  rw [HL.out]
  rfl

set_option maxHeartbeats 400000 in
theorem dbelow_ok (w : World) (s n : Int) (hn0 : -9223372036854775808 ≤ n) (hn1 : n ≤ 9223372036854775807) :
    Calls Try.prog 10 #[.int .u64 s, .int .i64 n] w (fun e w' => e = .returned (.tuple #[.int .i64 (below s n), .int .u64 (belowS s n)]) ∧ w' = w) := by
  go_enter Try.func10, Try.ntmps10
  by_cases h1 : n < 1
  · have e1 : decide (n < 1) = true := decide_eq_true h1
    have HE : Hid (below s n = 0 ∧ belowS s n = s) := by
      show _ ∧ _
      unfold below belowS
      rw [if_pos (.inl h1), if_pos (.inl h1)]
      exact ⟨rfl, rfl⟩
    clear h1
    go_wp2_with fail
    go_ret2
    rw [HE.out.1, HE.out.2]
    exact ⟨rfl, rfl⟩
  · have e1 : decide (n < 1) = false := decide_eq_false h1
    by_cases h2 : 2147483648 < n
    · have e2 : decide (2147483648 < n) = true := decide_eq_true h2
      have HE : Hid (below s n = 0 ∧ belowS s n = s) := by
        show _ ∧ _
        unfold below belowS
        rw [if_pos (.inr h2), if_pos (.inr h2)]
        exact ⟨rfl, rfl⟩
      clear h1 h2
      go_wp2_with fail
      go_ret2
      rw [HE.out.1, HE.out.2]
      exact ⟨rfl, rfl⟩
    · have e2 : decide (2147483648 < n) = false := decide_eq_false h2
      have HE : Hid (below s n = hi s * n / 4294967296 ∧ belowS s n = lcg s) := by
        show _ ∧ _
        unfold below belowS
        rw [if_neg (by omega), if_neg (by omega)]
        exact ⟨rfl, rfl⟩
      have hb := hi_bound s
      have hp1 : 0 ≤ hi s * n := Int.mul_nonneg hb.1 (by omega)
      have hp2 : hi s * n ≤ 4294967295 * 2147483648 := Int.mul_le_mul hb.2 (by omega) (by omega) (by omega)
      have ew : IntKind.u64.wrap n = n := IntWalk.u64_in _ (by omega)
      have hq : 0 ≤ hi s * n / 4294967296 := by omega
      have hq2 : hi s * n / 4294967296 ≤ 9223372036854775807 := by omega
      obtain ⟨hb0, hb1⟩ := hb
      clear h1 h2
      go_wp2_with fail
      refine (dnext_ok w s).mono ?_
      rintro e w1 ⟨rfl, rfl⟩
      go_wp2_with fail
      go_ret2
      rw [HE.out.1, HE.out.2]
      exact ⟨rfl, rfl⟩

set_option maxHeartbeats 400000 in
theorem rdstep_ok (w : World) (s : Int) :
    Calls Try.prog 40 #[.int .u64 s] w (fun e w' => e = .returned (.int .u64 (lcg s)) ∧ w' = w) := by
  go_enter Try.func40, Try.ntmps40
  have h := lcg_wrap s
  go_wp2_with fail
  go_ret
  exact ⟨rfl, rfl⟩

set_option maxHeartbeats 400000 in
theorem rdnew_ok (w : World) (s : Int) :
    Calls Try.prog 26 #[.int .u64 s] w (fun e w' => e = .returned (.int .u64 (lcg s)) ∧ w' = w) := by
  go_enter Try.func26, Try.ntmps26
  go_wp2_with fail
  refine (rdstep_ok w s).mono ?_
  rintro e w1 ⟨rfl, rfl⟩
  go_wp2_with fail
  go_ret
  exact ⟨rfl, rfl⟩

set_option maxHeartbeats 400000 in
theorem rdnext_ok (w : World) (s : Int) :
    Calls Try.prog 25 #[.int .u64 s] w (fun e w' => e = .returned (.tuple #[.int .u32 (hi s), .int .u64 (lcg s)]) ∧ w' = w) := by
  go_enter Try.func25, Try.ntmps25
  go_wp2_with fail
  refine (rdstep_ok w s).mono ?_
  rintro e w1 ⟨rfl, rfl⟩
  have hb := lcg_bound s
  obtain ⟨l, hl⟩ : ∃ l, lcg s = l := ⟨_, rfl⟩
  have HL := Lib.hid hl
  rw [hl] at hb
  obtain ⟨hb0, hb1⟩ := hb
  rw [hl]
  clear hl
  go_wp2_with fail
  go_ret2
  refine ⟨?_, rfl⟩
  unfold hi
  rw [HL.out]
  rfl

set_option maxHeartbeats 400000 in
theorem rdbelow_ok (w : World) (s n : Int) (hn0 : -9223372036854775808 ≤ n) (hn1 : n ≤ 9223372036854775807) :
    Calls Try.prog 11 #[.int .u64 s, .int .i64 n] w (fun e w' => e = .returned (.tuple #[.int .i64 (below s n), .int .u64 (belowS s n)]) ∧ w' = w) := by
  go_enter Try.func11, Try.ntmps11
  by_cases h1 : n < 1
  · have e1 : decide (n < 1) = true := decide_eq_true h1
    have HE : Hid (below s n = 0 ∧ belowS s n = s) := by
      show _ ∧ _
      unfold below belowS
      rw [if_pos (.inl h1), if_pos (.inl h1)]
      exact ⟨rfl, rfl⟩
    clear h1
    go_wp2_with fail
    go_ret2
    rw [HE.out.1, HE.out.2]
    exact ⟨rfl, rfl⟩
  · have e1 : decide (n < 1) = false := decide_eq_false h1
    by_cases h2 : 2147483648 < n
    · have e2 : decide (2147483648 < n) = true := decide_eq_true h2
      have HE : Hid (below s n = 0 ∧ belowS s n = s) := by
        show _ ∧ _
        unfold below belowS
        rw [if_pos (.inr h2), if_pos (.inr h2)]
        exact ⟨rfl, rfl⟩
      clear h1 h2
      go_wp2_with fail
      go_ret2
      rw [HE.out.1, HE.out.2]
      exact ⟨rfl, rfl⟩
    · have e2 : decide (2147483648 < n) = false := decide_eq_false h2
      have HE : Hid (below s n = hi s * n / 4294967296 ∧ belowS s n = lcg s) := by
        show _ ∧ _
        unfold below belowS
        rw [if_neg (by omega), if_neg (by omega)]
        exact ⟨rfl, rfl⟩
      have hb := hi_bound s
      have hp1 : 0 ≤ hi s * n := Int.mul_nonneg hb.1 (by omega)
      have hp2 : hi s * n ≤ 4294967295 * 2147483648 := Int.mul_le_mul hb.2 (by omega) (by omega) (by omega)
      have ew : IntKind.u64.wrap n = n := IntWalk.u64_in _ (by omega)
      have hq : 0 ≤ hi s * n / 4294967296 := by omega
      have hq2 : hi s * n / 4294967296 ≤ 9223372036854775807 := by omega
      obtain ⟨hb0, hb1⟩ := hb
      clear h1 h2
      go_wp2_with fail
      refine (rdnext_ok w s).mono ?_
      rintro e w1 ⟨rfl, rfl⟩
      go_wp2_with fail
      go_ret2
      rw [HE.out.1, HE.out.2]
      exact ⟨rfl, rfl⟩

end Go.Proofs.Ytcjpobnkapfccaa.M
