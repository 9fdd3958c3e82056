/- Chance of the program. -/
import Derived.Test.YtcjpobnkapfccaaDrawB
import Derived.Test.YtcjpobnkapfccaaRatC
namespace Go.Proofs.Ytcjpobnkapfccaa.M
open Go.RowKit
set_option linter.unusedVariables false
set_option linter.unusedSimpArgs false
/-- Whether an event of this probability is drawn. -/
def chance (s : Int) (q : Rat) : Bool := decide (mkRat (hi s) 4294967296 < q)

set_option maxHeartbeats 1600000 in
theorem dchance_ok (w : World) (s : Int) (b : Bool) (A B : Option Addr) (c d : Nat) (xs ys : List Int) (hx : RN w A c xs) (hy : RN w B d ys) (hsx : xs.length ≤ 35184372088800) (hsy : ys.length ≤ 35184372088800) :
    Calls Try.prog 12 #[.int .u64 s, .agg #[.bool b, .slice A xs.length c, .slice B ys.length d]] w (fun e w' => e = .returned (.tuple #[.bool (chance s (qv b xs ys)), .int .u64 (lcg s)]) ∧ Below w.heap.size w w') := by
  have HX := Lib.hid hx
  have HY := Lib.hid hy
  clear hx hy
  go_enter Try.func12, Try.ntmps12
  go_wp2_with fail
  obtain ⟨W, hW⟩ : ∃ W, W = (w.alloc (.cells #[.bool b, .slice A xs.length c, .slice B ys.length d] 29)) := ⟨_, rfl⟩
  rw [← hW]
  have hBW : Below w.heap.size w W := by rw [hW]; exact ((Below.refl _ _).alloc (Nat.le_refl _) _)
  have vW0 : Vr W (w.heap.size) 29 #[.bool b, .slice A xs.length c, .slice B ys.length d] := by rw [hW]; exact (Vr.new' _ _ _ (by simp only [size_alloc]))
  clear hW
  have HVW0 := Lib.hid vW0
  have HBW := Lib.hid hBW
  clear hBW vW0
  refine (dnext_ok W s).mono ?_
  rintro e w1 ⟨rfl, rfl⟩
  have hb := hi_bound s
  obtain ⟨l, hl⟩ : ∃ l, hi s = l := ⟨_, rfl⟩
  have HL := Lib.hid hl
  rw [hl] at hb
  obtain ⟨hb0, hb1⟩ := hb
  rw [hl]
  clear hl
  go_wp2_with fail
  refine (qof_ok w1 l 4294967296 (by omega) (by omega) (by omega) (by omega)).mono ?_
  rintro e w2 ⟨b1, A1, c1, x, B1, d1, y, rfl, HQ1, HQ2, HQ3, hr1, hr2, hB1⟩
  have hs := mk_small (n := l) (d := (4294967296 : Int).toNat) (by decide)
  have hlx : x.length ≤ 2 := by
    rw [HQ2.out]
    refine limbs_len ?_
    rw [pw_succ, pw_succ, pw_zero]
    omega
  have hly : y.length ≤ 2 := by
    rw [HQ3.out]
    refine limbs_len ?_
    rw [pw_succ, pw_succ, pw_zero]
    omega
  have HB1 := Lib.hid (HBW.out.trans (hB1.mono HBW.out.size))
  have HV1 := Lib.hid (HVW0.out.below' hB1)
  have HR1 := Lib.hid hr1
  have HR2 := Lib.hid hr2
  clear hB1 hr1 hr2 hs
  go_upto_region 3 with fail
  obtain ⟨T, hT⟩ : ∃ T, T = (w2.alloc (.cells #[.bool b1, .slice A1 x.length c1, .slice B1 y.length d1] 29)) := ⟨_, rfl⟩
  rw [← hT]
  have hBT : Below w2.heap.size w2 T := by rw [hT]; exact ((Below.refl _ _).alloc (Nat.le_refl _) _)
  have vT0 : Vr T (w2.heap.size) 29 #[.bool b1, .slice A1 x.length c1, .slice B1 y.length d1] := by rw [hT]; exact (Vr.new' _ _ _ (by simp only [size_alloc]))
  clear hT
  have HVT0 := Lib.hid vT0
  have HBT := Lib.hid hBT
  clear hBT vT0
  have HB2 := Lib.hid (HB1.out.trans (HBT.out.mono HB1.out.size))
  have HV2 := Lib.hid (HV1.out.below' HBT.out)
  have pc0 := (HV2.out).cell 0 rfl
  have pc1 := (HV2.out).cell 1 rfl
  have pc2 := (HV2.out).cell 2 rfl
  have qc0 := (HVT0.out).cell 0 rfl
  have qc1 := (HVT0.out).cell 1 rfl
  have qc2 := (HVT0.out).cell 2 rfl
  have hqv : qv b1 x y = mkRat l 4294967296 := by
    unfold qv
    rw [HQ1.out, HQ2.out, HQ3.out, zv_norm, V_limbs, Int.toNat_natCast]
    exact Rat.mkRat_self _
  have HQV := Lib.hid hqv
  clear hqv
  go_wp2_with fail
  refine (qcmp_ok T b1 b A1 B1 A B c1 d1 c d x y xs ys (HR1.out.below HBT.out) (HR2.out.below HBT.out) (HX.out.below HB2.out) (HY.out.below HB2.out) (by omega) (by omega) hsx hsy).mono ?_
  rw [cmp_qv HR2.out.2 HY.out.2, HQV.out]
  rintro e w3 ⟨rfl, hB3⟩
  have HB3 := Lib.hid (HB2.out.trans (hB3.mono HB2.out.size))
  have hd : decide (cmpQ (mkRat l 4294967296) (qv b xs ys) < 0) = chance s (qv b xs ys) := by
    unfold chance
    rw [HL.out]
    exact decide_eq_decide.2 cmpQ_lt
  have HD := Lib.hid hd
  clear hd hB3
  go_wp2_with fail
  go_ret2
  exact ⟨by rw [← HD.out]; rfl, HB3.out⟩

end Go.Proofs.Ytcjpobnkapfccaa.M
