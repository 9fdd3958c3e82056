/- Lists -/
import Derived.Test.YtcjpobnkapfccaaDrawF
import Derived.Test.YtcjpobnkapfccaaDrawG
namespace Go.Proofs.Ytcjpobnkapfccaa.M
open Go.RowKit
set_option linter.unusedVariables false
set_option linter.unusedSimpArgs false

set_option maxHeartbeats 800000 in
theorem lists_ok (w : World) (d n : Int) (hn0 : -9223372036854775808 ≤ n) (hn1 : n ≤ 9223372036854775807) (A : Option Addr) (c : Nat) (ws : List Int) (hw : Rk w .i64 A c ws) :
    Calls Try.prog 4 #[.int .u64 d, .int .i64 n, .slice A ws.length c] w (RetT w) := by
  have HX := Lib.hid hw
  clear hw
  go_enter Try.func4, Try.ntmps4
  go_wp2_with fail
  refine (dshuffle_ok w d n hn0 hn1).mono ?_
  rintro e w1 ⟨A1, c1, l1, rfl, H1, hl1, hB1⟩
  have HB1 := Lib.hid hB1
  have R1 := Lib.hid hl1
  clear hB1 hl1
  go_wp2_with fail
  refine (rdshuffle_ok w1 d n hn0 hn1).mono ?_
  rintro e w2 ⟨A2, c2, l2, rfl, H2, hl2, hB2⟩
  have HB2 := Lib.hid (below_seq HB1.out hB2)
  have R12 := Lib.hid (R1.out.below hB2)
  have R2 := Lib.hid hl2
  clear hB2 hl2
  go_wp2_with fail
  refine (equal_yes w2 A1 A2 c1 c2 l1 l2 R12.out R2.out (by rw [H1.out, H2.out])).mono ?_
  rintro e w3 ⟨rfl, k, rfl⟩
  have HB3 := Lib.hid (below_drewN HB2.out k)
  go_wp2_with fail
  refine (dpick_ok (w2.drewN k) d A c ws (HX.out.below HB3.out)).mono ?_
  obtain ⟨pi, hpi⟩ : ∃ pi, pickI d ws = pi := ⟨_, rfl⟩
  obtain ⟨ps, hps⟩ : ∃ ps, pickS d ws = ps := ⟨_, rfl⟩
  rw [hpi, hps]
  rintro e w4 ⟨rfl, hw4⟩
  have HB4 : Hid (Below w.heap.size w w4) := by show Below _ _ _; rw [hw4]; exact HB3.out
  have HX4 := Lib.hid (HX.out.below HB4.out)
  have HPI := Lib.hid hpi
  have HPS := Lib.hid hps
  clear hw4 hpi hps
  go_wp2_with fail
  refine (rdpick_ok w4 d A c ws HX4.out).mono ?_
  rw [HPI.out, HPS.out]
  rintro e w5 ⟨rfl, rfl⟩
  go_wp2_with fail
  refine (awake_ok w5).mono ?_
  rintro e w9 ⟨rfl, hB9⟩
  have HB9 := Lib.hid (HB4.out.trans (hB9.mono HB4.out.size))
  clear hB9
  go_wp2_with fail
  go_ret
  exact ⟨rfl, HB9.out⟩
theorem lists_row (w : World) (d : Int) (hd : 0 ≤ d ∧ d ≤ 18446744073709551615) (n : Int) (hn : -9223372036854775808 ≤ n ∧ n ≤ 9223372036854775807) (A : Option Addr) (c : Nat) (ws : List Int) (hw : Rk w .i64 A c ws) (_ : ∀ x ∈ ws, (Lit.int .i64 x).wf = true) (_ : ws.length * 8 ≤ 140737488351232) :
    Calls Try.prog 4 #[.int .u64 d, .int .i64 n, .slice A ws.length c] w (RetT w) := lists_ok w d n hn.1 hn.2 A c ws hw

end Go.Proofs.Ytcjpobnkapfccaa.M
