/- Steps -/
import Derived.Test.YtcjpobnkapfccaaDrawF
import Derived.Test.YtcjpobnkapfccaaDrawG
namespace Go.Proofs.Ytcjpobnkapfccaa.M
open Go.RowKit
set_option linter.unusedVariables false
set_option linter.unusedSimpArgs false

set_option maxHeartbeats 800000 in
theorem steps_ok (w : World) (s d n : Int) (hn0 : -9223372036854775808 ≤ n) (hn1 : n ≤ 9223372036854775807) :
    Calls Try.prog 8 #[.int .u64 s, .int .u64 d, .int .i64 n] w (RetT w) := by
  go_enter Try.func8, Try.ntmps8
  go_wp2_with fail
  refine (dnext_ok w d).mono ?_
  rintro e w1 ⟨rfl, rfl⟩
  go_wp2_with fail
  refine (rdnext_ok w1 d).mono ?_
  rintro e w2 ⟨rfl, rfl⟩
  go_wp2_with fail
  refine (dnew_ok w2 s).mono ?_
  rintro e w3 ⟨rfl, rfl⟩
  go_wp2_with fail
  refine (rdnew_ok w3 s).mono ?_
  rintro e w4 ⟨rfl, rfl⟩
  go_wp2_with fail
  refine (dskip_ok w4 d n hn0 hn1).mono ?_
  rintro e w5 ⟨rfl, rfl⟩
  go_wp2_with fail
  refine (rdskip_ok w5 d n hn0 hn1).mono ?_
  rintro e w6 ⟨rfl, rfl⟩
  go_wp2_with fail
  refine (awake_ok w6).mono ?_
  rintro e w9 ⟨rfl, hB9⟩
  have HB9 := Lib.hid (hB9)
  clear hB9
  go_wp2_with fail
  go_ret
  exact ⟨rfl, HB9.out⟩
theorem steps_row (w : World) (s : Int) (hs : 0 ≤ s ∧ s ≤ 18446744073709551615) (d : Int) (hd : 0 ≤ d ∧ d ≤ 18446744073709551615) (n : Int) (hn : -9223372036854775808 ≤ n ∧ n ≤ 9223372036854775807) :
    Calls Try.prog 8 #[.int .u64 s, .int .u64 d, .int .i64 n] w (RetT w) := steps_ok w s d n hn.1 hn.2

end Go.Proofs.Ytcjpobnkapfccaa.M
