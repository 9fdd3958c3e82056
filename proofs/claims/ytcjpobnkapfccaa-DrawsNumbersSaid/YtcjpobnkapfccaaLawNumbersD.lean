/- Numbers -/
import Derived.Test.YtcjpobnkapfccaaDrawF
import Derived.Test.YtcjpobnkapfccaaDrawG
import Derived.Test.YtcjpobnkapfccaaRefRatC
namespace Go.Proofs.Ytcjpobnkapfccaa.M
open Go.RowKit
set_option linter.unusedVariables false
set_option linter.unusedSimpArgs false

set_option maxHeartbeats 1600000 in
theorem numbers_ok (w : World) (d n : Int) (hn : -9223372036854775808 ≤ n ∧ n ≤ 9223372036854775807) (b : Bool) (A B : Option Addr) (c e : Nat) (xs ys : List Int) (hx : RN w A c xs) (hy : RN w B e ys) (hsx : xs.length ≤ 35184372088780) (hsy : ys.length ≤ 35184372088780) :
    Calls Try.prog 3 #[.int .u64 d, .int .i64 n, .agg #[.bool b, .slice A xs.length c, .slice B ys.length e]] w (RetT w) := by
  have HX := Lib.hid hx
  have HY := Lib.hid hy
  clear hx hy
  go_enter Try.func3, Try.ntmps3
  obtain ⟨xb, hxb⟩ : ∃ xb, below d n = xb := ⟨_, rfl⟩
  obtain ⟨sb, hsb⟩ : ∃ sb, belowS d n = sb := ⟨_, rfl⟩
  obtain ⟨ch, hch⟩ : ∃ ch, chance d (qv b xs ys) = ch := ⟨_, rfl⟩
  have HXB := Lib.hid hxb
  have HSB := Lib.hid hsb
  have HCH := Lib.hid hch
  clear hxb hsb hch
  go_wp2_with fail
  obtain ⟨W, hW⟩ : ∃ W, W = (w.alloc (.cells #[.bool b, .slice A xs.length c, .slice B ys.length e] 29)) := ⟨_, rfl⟩
  rw [← hW]
  have hBW : Below w.heap.size w W := by rw [hW]; exact ((Below.refl _ _).alloc (Nat.le_refl _) _)
  have vW0 : Vr W (w.heap.size) 29 #[.bool b, .slice A xs.length c, .slice B ys.length e] := by rw [hW]; exact (Vr.new' _ _ _ (by simp only [size_alloc]))
  clear hW
  have HVW0 := Lib.hid vW0
  have HBW := Lib.hid hBW
  clear hBW vW0
  have oc0 := (HVW0.out).cell 0 rfl
  have oc1 := (HVW0.out).cell 1 rfl
  have oc2 := (HVW0.out).cell 2 rfl
  refine (dbelow_ok W d n hn.1 hn.2).mono ?_
  rw [HXB.out, HSB.out]
  rintro e_ W ⟨rfl, rfl⟩
  go_wp2_with fail
  refine (rdbelow_ok W d n hn.1 hn.2).mono ?_
  rw [HXB.out, HSB.out]
  rintro e_ W ⟨rfl, rfl⟩
  go_wp2_with fail
  refine (dchance_ok W d b A B c e xs ys (HX.out.below HBW.out) (HY.out.below HBW.out) (by omega) (by omega)).mono ?_
  rw [HCH.out]
  rintro e_ w1 ⟨rfl, hB1⟩
  have HVW0ac0 := (HVW0.out.below' hB1).cell 0 rfl
  have HVW0ac1 := (HVW0.out.below' hB1).cell 1 rfl
  have HVW0ac2 := (HVW0.out.below' hB1).cell 2 rfl
  have HVW0a := Lib.hid (HVW0.out.below' hB1)
  have B1 := Lib.hid (HBW.out.trans (hB1.mono HBW.out.size))
  clear hB1
  go_wp2_with fail
  refine (rdchance_ok w1 d b A B c e xs ys (HX.out.below B1.out) (HY.out.below B1.out) (by omega) (by omega)).mono ?_
  rw [HCH.out]
  rintro e_ w2 ⟨rfl, hB2⟩
  have B2 := Lib.hid (B1.out.trans (hB2.mono B1.out.size))
  clear hB2
  go_wp2_with fail
  refine (awake_ok w2).mono ?_
  rintro e_ w9 ⟨rfl, hB9⟩
  have HB9 := Lib.hid (B2.out.trans (hB9.mono B2.out.size))
  clear hB9
  go_wp2_with fail
  go_ret
  exact ⟨rfl, HB9.out⟩
theorem numbers_row (w : World) (d : Int) (hd : 0 ≤ d ∧ d ≤ 18446744073709551615) (n : Int) (hn : -9223372036854775808 ≤ n ∧ n ≤ 9223372036854775807) (b : Bool) (A B : Option Addr) (c e : Nat) (xs ys : List Int) (hx : RN w A c xs) (hy : RN w B e ys) (hsx : xs.length * 4 ≤ 140737488351232) (hsy : ys.length * 4 ≤ 140737488351232) :
    Calls Try.prog 3 #[.int .u64 d, .int .i64 n, .agg #[.bool b, .slice A xs.length c, .slice B ys.length e]] w (RetT w) := numbers_ok w d n hn b A B c e xs ys hx hy (by omega) (by omega)

end Go.Proofs.Ytcjpobnkapfccaa.M
