/- The law CombinNumbers: its walk. -/
import Derived.Test.YtmafifpibfjomaaRefK
namespace Go.Proofs.Ytmafifpibfjomaa.M
open Go.RowKit
set_option linter.unusedVariables false
set_option linter.unusedSimpArgs false

set_option maxHeartbeats 1600000 in
theorem numbers_in (w : World) (n k : Int) (h0 : 0 ≤ n) (h1 : n ≤ 200) :
    Calls Try.prog 3 #[.int .i64 n, .int .i64 k] w (RetTrue w) := by
  go_enter Try.func3, Try.ntmps3
  go_wp2_with fail
  refine (factorial_ok _ n h0 h1).mono ?_
  rintro e w1 ⟨A1, c1, f, rfl, HF, hf, hB⟩
  have HB1 := Lib.hid hB
  have RF1 := Lib.hid hf
  clear hB hf
  go_wp2_with fail
  refine (rfactorial_ok _ n h0 h1).mono ?_
  rintro e w2 ⟨A2, c2, g, rfl, HG, hg, hB⟩
  have HB2 := Lib.hid (below_seq HB1.out hB)
  have RF2 := Lib.hid (RF1.out.below hB)
  have RG2 := Lib.hid hg
  clear hB hg
  go_wp2_with fail
  refine (limbs_yes _ A1 A2 _ _ f g RF2.out.1 RG2.out.1 (by rw [HF.out, HG.out])).mono ?_
  rintro e w3 ⟨n3, rfl, rfl⟩
  have HB3 := Lib.hid (below_drewN HB2.out n3)
  go_wp2_with fail
  refine (choose_ok _ n k h0 h1).mono ?_
  rintro e w4 ⟨A4, c4, x, rfl, HX, hx, hB⟩
  have HB4 := Lib.hid (HB3.out.trans (hB.mono HB3.out.size))
  have RX4 := Lib.hid hx
  clear hB hx
  go_wp2_with fail
  refine (rchoose_ok _ n k h0 h1).mono ?_
  rintro e w5 ⟨A5, c5, y, rfl, HY, hy, hB⟩
  have HB5 := Lib.hid (HB4.out.trans (hB.mono HB4.out.size))
  have RX5 := Lib.hid (RX4.out.below hB)
  have RY5 := Lib.hid hy
  clear hB hy
  go_wp2_with fail
  refine (limbs_yes _ A4 A5 _ _ x y RX5.out.1 RY5.out.1 (by rw [HX.out, HY.out])).mono ?_
  rintro e w6 ⟨n6, rfl, rfl⟩
  have HB6 := Lib.hid (below_drewN HB5.out n6)
  go_wp2_with fail
  go_ret
  exact ⟨rfl, HB6.out⟩

set_option maxHeartbeats 1600000 in
theorem numbers_out (w : World) (n k : Int) (h : n < 0 ∨ 200 < n) :
    Calls Try.prog 3 #[.int .i64 n, .int .i64 k] w (RetTrue w) := by
  go_enter Try.func3, Try.ntmps3
  go_wp2_with fail
  refine (factorial_no _ n h).mono ?_
  rintro e w1 ⟨A1, c1, f, rfl, HF, hf, hB⟩
  have HB1 := Lib.hid hB
  have RF1 := Lib.hid hf
  clear hB hf
  go_wp2_with fail
  refine (rfactorial_no _ n h).mono ?_
  rintro e w2 ⟨A2, c2, g, rfl, HG, hg, hB⟩
  have HB2 := Lib.hid (below_seq HB1.out hB)
  have RF2 := Lib.hid (RF1.out.below hB)
  have RG2 := Lib.hid hg
  clear hB hg
  go_wp2_with fail
  refine (limbs_yes _ A1 A2 _ _ f g RF2.out.1 RG2.out.1 (by rw [HF.out, HG.out])).mono ?_
  rintro e w3 ⟨n3, rfl, rfl⟩
  have HB3 := Lib.hid (below_drewN HB2.out n3)
  go_wp2_with fail
  refine (choose_no _ n k h).mono ?_
  rintro e w4 ⟨A4, c4, x, rfl, HX, hx, hB⟩
  have HB4 := Lib.hid (HB3.out.trans (hB.mono HB3.out.size))
  have RX4 := Lib.hid hx
  clear hB hx
  go_wp2_with fail
  refine (rchoose_no _ n k h).mono ?_
  rintro e w5 ⟨A5, c5, y, rfl, HY, hy, hB⟩
  have HB5 := Lib.hid (HB4.out.trans (hB.mono HB4.out.size))
  have RX5 := Lib.hid (RX4.out.below hB)
  have RY5 := Lib.hid hy
  clear hB hy
  go_wp2_with fail
  refine (limbs_yes _ A4 A5 _ _ x y RX5.out.1 RY5.out.1 (by rw [HX.out, HY.out])).mono ?_
  rintro e w6 ⟨n6, rfl, rfl⟩
  have HB6 := Lib.hid (below_drewN HB5.out n6)
  go_wp2_with fail
  go_ret
  exact ⟨rfl, HB6.out⟩

theorem numbers (w : World) (n : Int) (_ : -9223372036854775808 ≤ n ∧ n ≤ 9223372036854775807) (k : Int) (_ : -9223372036854775808 ≤ k ∧ k ≤ 9223372036854775807) : Calls Try.prog 3 #[.int .i64 n, .int .i64 k] w (RetTrue w) := by
  by_cases h : 0 ≤ n ∧ n ≤ 200
  · exact numbers_in w n k h.1 h.2
  · exact numbers_out w n k (by omega)

end Go.Proofs.Ytmafifpibfjomaa.M
