/- Injective -/
import Derived.Test.YtcjpobnkapfccaaDrawF
import Derived.Test.YtcjpobnkapfccaaDrawG
namespace Go.Proofs.Ytcjpobnkapfccaa.M
open Go.RowKit
set_option linter.unusedVariables false
set_option linter.unusedSimpArgs false
theorem lcg_back {a : Int} (h : 0 ≤ a ∧ a ≤ 18446744073709551615) : (lcg a - 1442695040888963407) * 13877824140714322085 % 18446744073709551616 = a := by
  unfold lcg
  omega
theorem lcg_inj {a b : Int} (ha : 0 ≤ a ∧ a ≤ 18446744073709551615) (hb : 0 ≤ b ∧ b ≤ 18446744073709551615) (h : lcg a = lcg b) : a = b := by
  rw [← lcg_back ha, ← lcg_back hb, h]

set_option maxHeartbeats 800000 in
theorem injective_ok (w : World) (a b : Int) (ha : 0 ≤ a ∧ a ≤ 18446744073709551615) (hb : 0 ≤ b ∧ b ≤ 18446744073709551615) :
    Calls Try.prog 6 #[.int .u64 a, .int .u64 b] w (RetT w) := by
  go_enter Try.func6, Try.ntmps6
  by_cases hab : a = b
  · subst hab
    go_wp2_with fail
    refine (dnext_ok w a).mono ?_
    rintro e w1 ⟨rfl, rfl⟩
    go_wp2_with fail
    refine (dnext_ok w1 a).mono ?_
    rintro e w2 ⟨rfl, rfl⟩
    go_wp2_with fail
    refine (dnew_ok w2 a).mono ?_
    rintro e w3 ⟨rfl, rfl⟩
    go_wp2_with fail
    refine (dnew_ok w3 a).mono ?_
    rintro e w4 ⟨rfl, rfl⟩
    go_wp2_with fail
    refine (dnew_ok w4 a).mono ?_
    rintro e w5 ⟨rfl, rfl⟩
    go_wp2_with fail
    refine (awake_ok w5).mono ?_
    rintro e w9 ⟨rfl, hB9⟩
    have HB9 := Lib.hid (hB9)
    clear hB9
    go_wp2_with fail
    go_ret
    exact ⟨rfl, HB9.out⟩
  · have e1 : (a == b) = false := beq_eq_false_iff_ne.2 hab
    have e2 : (lcg a == lcg b) = false := beq_eq_false_iff_ne.2 (fun h => hab (lcg_inj ha hb h))
    clear hab
    go_wp2_with fail
    refine (dnext_ok w a).mono ?_
    rintro e w1 ⟨rfl, rfl⟩
    go_wp2_with fail
    refine (dnext_ok w1 b).mono ?_
    rintro e w2 ⟨rfl, rfl⟩
    go_wp2_with fail
    refine (dnew_ok w2 a).mono ?_
    rintro e w3 ⟨rfl, rfl⟩
    go_wp2_with fail
    refine (dnew_ok w3 b).mono ?_
    rintro e w4 ⟨rfl, rfl⟩
    go_wp2_with fail
    refine (dnew_ok w4 a).mono ?_
    rintro e w5 ⟨rfl, rfl⟩
    go_wp2_with fail
    refine (awake_ok w5).mono ?_
    rintro e w9 ⟨rfl, hB9⟩
    have HB9 := Lib.hid (hB9)
    clear hB9
    go_wp2_with fail
    go_ret
    exact ⟨rfl, HB9.out⟩
theorem injective_row (w : World) (a : Int) (ha : 0 ≤ a ∧ a ≤ 18446744073709551615) (b : Int) (hb : 0 ≤ b ∧ b ≤ 18446744073709551615) :
    Calls Try.prog 6 #[.int .u64 a, .int .u64 b] w (RetT w) := injective_ok w a b ha hb

end Go.Proofs.Ytcjpobnkapfccaa.M
