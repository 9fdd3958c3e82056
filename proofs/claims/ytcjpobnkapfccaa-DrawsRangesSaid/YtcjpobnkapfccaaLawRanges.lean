/- Ranges -/
import Derived.Test.YtcjpobnkapfccaaDrawF
import Derived.Test.YtcjpobnkapfccaaDrawG
namespace Go.Proofs.Ytcjpobnkapfccaa.M
open Go.RowKit
set_option linter.unusedVariables false
set_option linter.unusedSimpArgs false
theorem below_mono {s n m : Int} (h1 : 1 ≤ n) (h2 : n ≤ m) (h3 : m ≤ 2147483648) : below s n ≤ below s m := by
  unfold below
  rw [if_neg (by omega), if_neg (by omega)]
  have h := hi_bound s
  have h4 : hi s * n ≤ hi s * m := Int.mul_le_mul_of_nonneg_left h2 h.1
  exact Int.ediv_le_ediv (by omega) h4
theorem hi_rat (s : Int) : ¬ mkRat (hi s) 4294967296 < 0 ∧ mkRat (hi s) 4294967296 < mkRat 1 1 := by
  have h := hi_bound s
  constructor
  · have h2 := mk_lt (n := hi s) (n' := 0) (d := 4294967296) (d' := 1) (by decide) (by decide)
    have e : mkRat 0 1 = 0 := rfl
    rw [e] at h2
    rw [h2]
    omega
  · rw [mk_lt (by decide) (by decide)]
    omega
theorem cmpQ_le {p q : Rat} : cmpQ p q ≤ 0 ↔ ¬ q < p := by
  unfold cmpQ
  by_cases h : p < q
  · rw [if_pos h]
    exact ⟨fun _ h2 => by grind, fun _ => by decide⟩
  · rw [if_neg h]
    by_cases h2 : p = q
    · rw [if_pos h2, h2]
      exact ⟨fun _ => Rat.lt_irrefl, fun _ => by decide⟩
    · rw [if_neg h2]
      constructor
      · intro h3; omega
      · intro h3
        exact absurd (Rat.le_antisymm (Rat.not_lt.1 h3) (Rat.not_lt.1 h)) h2
theorem cmpQ_ge {p q : Rat} : 0 ≤ cmpQ p q ↔ ¬ p < q := by
  rw [← cmpQ_lt]; omega
theorem qsign_q (w : World) (b : Bool) (A B : Option Addr) (c d : Nat) (xs ys : List Int) (hx : RN w A c xs) (hy : RN w B d ys) (hsx : xs.length ≤ 35184372088800) (hsy : ys.length ≤ 35184372088800) :
    Calls Try.prog 24 #[.agg #[.bool b, .slice A xs.length c, .slice B ys.length d]] w (fun e w' => e = .returned (.int .i64 (cmpQ (qv b xs ys) 0)) ∧ Below w.heap.size w w') := by
  have h := qsign_ok w b A B c d xs ys hx hy hsx hsy
  rw [sign_qv hy.2] at h
  exact h
theorem qcmp_q (w : World) (p q : Bool) (P P2 Q Q2 : Option Addr) (cp cp2 cq cq2 : Nat) (xs ys us vs : List Int) (hx : RN w P cp xs) (hy : RN w P2 cp2 ys) (hu : RN w Q cq us) (hw : RN w Q2 cq2 vs) (hsx : xs.length ≤ 35184372088800) (hsy : ys.length ≤ 35184372088800) (hsu : us.length ≤ 35184372088800) (hsw : vs.length ≤ 35184372088800) :
    Calls Try.prog 23 #[.agg #[.bool p, .slice P xs.length cp, .slice P2 ys.length cp2], .agg #[.bool q, .slice Q us.length cq, .slice Q2 vs.length cq2]] w (fun e w' => e = .returned (.int .i64 (cmpQ (qv p xs ys) (qv q us vs))) ∧ Below w.heap.size w w') := by
  have h := qcmp_ok w p q P P2 Q Q2 cp cp2 cq cq2 xs ys us vs hx hy hu hw hsx hsy hsu hsw
  rw [cmp_qv hy.2 hw.2] at h
  exact h

set_option maxHeartbeats 6400000 in
theorem ranges_ok (w : World) (d n m : Int) (hn : -9223372036854775808 ≤ n ∧ n ≤ 9223372036854775807) (hm : -9223372036854775808 ≤ m ∧ m ≤ 9223372036854775807) (p q : Bool) (P P2 Q Q2 : Option Addr) (cp cp2 cq cq2 : Nat) (xs ys us vs : List Int) (hx : RN w P cp xs) (hy : RN w P2 cp2 ys) (hu : RN w Q cq us) (hw : RN w Q2 cq2 vs) (hsx : xs.length ≤ 35184372088800) (hsy : ys.length ≤ 35184372088800) (hsu : us.length ≤ 35184372088800) (hsw : vs.length ≤ 35184372088800) :
    Calls Try.prog 7 #[.int .u64 d, .int .i64 n, .int .i64 m, .agg #[.bool p, .slice P xs.length cp, .slice P2 ys.length cp2], .agg #[.bool q, .slice Q us.length cq, .slice Q2 vs.length cq2]] w (RetT w) := by
  have HX := Lib.hid hx
  have HY := Lib.hid hy
  have HU := Lib.hid hu
  have HW := Lib.hid hw
  clear hx hy hu hw
  go_enter Try.func7, Try.ntmps7
  obtain ⟨a, ha⟩ : ∃ a, chance d (qv p xs ys) = a := ⟨_, rfl⟩
  obtain ⟨bq, hbq⟩ : ∃ bq, chance d (qv q us vs) = bq := ⟨_, rfl⟩
  have HCA := Lib.hid ha
  have HCB := Lib.hid hbq
  clear ha hbq
  go_wp2_with fail
  obtain ⟨W, hW⟩ : ∃ W, W = ((w.alloc (.cells #[.bool p, .slice P xs.length cp, .slice P2 ys.length cp2] 29)).alloc (.cells #[.bool q, .slice Q us.length cq, .slice Q2 vs.length cq2] 29)) := ⟨_, rfl⟩
  rw [← hW]
  have hBW : Below w.heap.size w W := by rw [hW]; exact (((Below.refl _ _).alloc (Nat.le_refl _) _).alloc (by simp only [size_alloc]; omega) _)
  have vW0 : Vr W (w.heap.size) 29 #[.bool p, .slice P xs.length cp, .slice P2 ys.length cp2] := by rw [hW]; exact ((Vr.new' _ _ _ (by simp only [size_alloc])).alloc _)
  have vW1 : Vr W (w.heap.size + 1) 29 #[.bool q, .slice Q us.length cq, .slice Q2 vs.length cq2] := by rw [hW]; exact (Vr.new' _ _ _ (by simp only [size_alloc]))
  clear hW
  obtain ⟨gW1, hgW1⟩ : ∃ g, w.heap.size + 1 = g := ⟨_, rfl⟩
  rw [hgW1] at vW1 ⊢
  have hneW01 : w.heap.size ≠ gW1 := by omega
  have hgeW1 : w.heap.size ≤ gW1 := by omega
  have hneW10 : gW1 ≠ w.heap.size := by omega
  have HVW0 := Lib.hid vW0
  have HVW1 := Lib.hid vW1
  have HBW := Lib.hid hBW
  clear hBW vW0 vW1 hgW1
  refine (dnext_ok W d).mono ?_
  rintro e w1 ⟨rfl, rfl⟩
  go_wp2_with fail
  refine (dbelow_ok w1 d n hn.1 hn.2).mono ?_
  obtain ⟨xb, hxb⟩ : ∃ xb, below d n = xb := ⟨_, rfl⟩
  obtain ⟨yb, hyb⟩ : ∃ yb, below d m = yb := ⟨_, rfl⟩
  have HYS : ∃ ym, belowS d m = ym := ⟨_, rfl⟩
  obtain ⟨ym, hym⟩ := HYS
  have HM := Lib.hid hyb
  have HMS := Lib.hid hym
  clear hym
  by_cases hA : n < 1 ∨ 2147483648 < n
  · have h1 : xb = 0 := by rw [← hxb]; unfold below; rw [if_pos hA]
    have h2 : belowS d n = d := by unfold belowS; rw [if_pos hA]
    rw [hxb, h2]
    subst h1
    clear hxb h2 hyb
    rintro e W ⟨rfl, rfl⟩
    go_wp2_with fail
    refine (dbelow_ok W d m hm.1 hm.2).mono ?_
    rw [HM.out, HMS.out]
    rintro e W ⟨rfl, rfl⟩
    rcases (show n < 1 ∨ (1 ≤ n ∧ 2147483648 < n) by omega) with hA | ⟨hA1, hA⟩
    · have e1 : decide (n < 1) = true := decide_eq_true hA
      go_wp2_with fail
      refine (qof_ok W 1 1 (by omega) (by omega) (by omega) (by omega)).mono ?_
      rintro e w2 ⟨b1, A1, c1, x, B1, d1, y, rfl, HQ1, HQ2, HQ3, hr1, hr2, hB5⟩
      have hml := mk_len (n := 1) (m := 1) (by decide) (by decide) (by decide)
      have hqv : qv b1 x y = mkRat 1 1 := by rw [HQ1.out, HQ2.out, HQ3.out]; exact qv_norm _
      have hlx : x.length ≤ 2 := by rw [HQ2.out]; exact hml.1
      have hly : y.length ≤ 2 := by rw [HQ3.out]; exact hml.2
      have HQV := Lib.hid hqv
      have HB5 := Lib.hid (HBW.out.trans (hB5.mono HBW.out.size))
      have HV05 := Lib.hid (HVW0.out.below' hB5)
      have HV15 := Lib.hid (HVW1.out.below' hB5)
      have HR1 := Lib.hid hr1
      have HR2 := Lib.hid hr2
      clear hB5 hr1 hr2 hml hqv
      go_upto_region 12 with fail
      obtain ⟨T, hT⟩ : ∃ T, T = (w2.alloc (.cells #[.bool b1, .slice A1 x.length c1, .slice B1 y.length d1] 29)) := ⟨_, rfl⟩
      rw [← hT]
      have hBT : Below w2.heap.size w2 T := by rw [hT]; exact ((Below.refl _ _).alloc (Nat.le_refl _) _)
      have vT0 : Vr T (w2.heap.size) 29 #[.bool b1, .slice A1 x.length c1, .slice B1 y.length d1] := by rw [hT]; exact (Vr.new' _ _ _ (by simp only [size_alloc]))
      clear hT
      have HVT0 := Lib.hid vT0
      have HBT := Lib.hid hBT
      clear hBT vT0
      have B_3 := Lib.hid (HB5.out.trans (HBT.out.mono HB5.out.size))
      have V0_3 := Lib.hid (HV05.out.below' HBT.out)
      have V1_3 := Lib.hid (HV15.out.below' HBT.out)
      have V2_3 := HVT0
      have O1_3 := Lib.hid (HR1.out.below HBT.out)
      have O2_3 := Lib.hid (HR2.out.below HBT.out)
      clear HVW0 HVW1 HBW HV05 HV15 HB5 HR1 HR2
      obtain ⟨w3, rfl⟩ : ∃ w3, w3 = T := ⟨_, rfl⟩
      have v3ac0 := (V0_3.out).cell 0 rfl
      have v3ac1 := (V0_3.out).cell 1 rfl
      have v3ac2 := (V0_3.out).cell 2 rfl
      have v3bc0 := (V1_3.out).cell 0 rfl
      have v3bc1 := (V1_3.out).cell 1 rfl
      have v3bc2 := (V1_3.out).cell 2 rfl
      have v3cc0 := (V2_3.out).cell 0 rfl
      have v3cc1 := (V2_3.out).cell 1 rfl
      have v3cc2 := (V2_3.out).cell 2 rfl
      go_wp2_with fail
      refine (dchance_ok w3 d p P P2 cp cp2 xs ys (HX.out.below B_3.out) (HY.out.below B_3.out) hsx hsy).mono ?_
      rw [HCA.out]
      rintro e w4 ⟨rfl, hB⟩
      have v4ac0 := (V0_3.out.below' hB).cell 0 rfl
      have v4ac1 := (V0_3.out.below' hB).cell 1 rfl
      have v4ac2 := (V0_3.out.below' hB).cell 2 rfl
      have V0_4 := Lib.hid (V0_3.out.below' hB)
      have v4bc0 := (V1_3.out.below' hB).cell 0 rfl
      have v4bc1 := (V1_3.out.below' hB).cell 1 rfl
      have v4bc2 := (V1_3.out.below' hB).cell 2 rfl
      have V1_4 := Lib.hid (V1_3.out.below' hB)
      have v4cc0 := (V2_3.out.below' hB).cell 0 rfl
      have v4cc1 := (V2_3.out.below' hB).cell 1 rfl
      have v4cc2 := (V2_3.out.below' hB).cell 2 rfl
      have V2_4 := Lib.hid (V2_3.out.below' hB)
      have B_4 := Lib.hid (B_3.out.trans (hB.mono B_3.out.size))
      have O1_4 := Lib.hid (O1_3.out.below hB)
      have O2_4 := Lib.hid (O2_3.out.below hB)
      clear hB
      go_wp2_with fail
      refine (dchance_ok w4 d q Q Q2 cq cq2 us vs (HU.out.below B_4.out) (HW.out.below B_4.out) hsu hsw).mono ?_
      rw [HCB.out]
      rintro e w5 ⟨rfl, hB⟩
      have v5ac0 := (V0_4.out.below' hB).cell 0 rfl
      have v5ac1 := (V0_4.out.below' hB).cell 1 rfl
      have v5ac2 := (V0_4.out.below' hB).cell 2 rfl
      have V0_5 := Lib.hid (V0_4.out.below' hB)
      have v5bc0 := (V1_4.out.below' hB).cell 0 rfl
      have v5bc1 := (V1_4.out.below' hB).cell 1 rfl
      have v5bc2 := (V1_4.out.below' hB).cell 2 rfl
      have V1_5 := Lib.hid (V1_4.out.below' hB)
      have v5cc0 := (V2_4.out.below' hB).cell 0 rfl
      have v5cc1 := (V2_4.out.below' hB).cell 1 rfl
      have v5cc2 := (V2_4.out.below' hB).cell 2 rfl
      have V2_5 := Lib.hid (V2_4.out.below' hB)
      have B_5 := Lib.hid (B_4.out.trans (hB.mono B_4.out.size))
      have O1_5 := Lib.hid (O1_4.out.below hB)
      have O2_5 := Lib.hid (O2_4.out.below hB)
      clear hB
      cases a
      · -- the event is off
        have hs3 : cmpQ (qv p xs ys) (mkRat 1 1) = -1 := by
          have h : ¬ mkRat (hi d) 4294967296 < qv p xs ys := by
            have h := HCA.out
            unfold chance at h
            exact of_decide_eq_false h
          unfold cmpQ
          rw [if_pos (by have := (hi_rat d).2; have := Rat.not_lt.1 h; grind)]
        obtain ⟨s2, hs2⟩ : ∃ s2, cmpQ (qv p xs ys) 0 = s2 := ⟨_, rfl⟩
        rcases Bool.eq_false_or_eq_true (decide (s2 ≤ 0)) with k | k
        · go_wp2_with fail
          refine (qsign_q w5 p P P2 cp cp2 xs ys (HX.out.below B_5.out) (HY.out.below B_5.out) hsx hsy).mono ?_
          rw [hs2]
          rintro e w6 ⟨rfl, hB⟩
          have v6ac0 := (V0_5.out.below' hB).cell 0 rfl
          have v6ac1 := (V0_5.out.below' hB).cell 1 rfl
          have v6ac2 := (V0_5.out.below' hB).cell 2 rfl
          have V0_6 := Lib.hid (V0_5.out.below' hB)
          have v6bc0 := (V1_5.out.below' hB).cell 0 rfl
          have v6bc1 := (V1_5.out.below' hB).cell 1 rfl
          have v6bc2 := (V1_5.out.below' hB).cell 2 rfl
          have V1_6 := Lib.hid (V1_5.out.below' hB)
          have v6cc0 := (V2_5.out.below' hB).cell 0 rfl
          have v6cc1 := (V2_5.out.below' hB).cell 1 rfl
          have v6cc2 := (V2_5.out.below' hB).cell 2 rfl
          have V2_6 := Lib.hid (V2_5.out.below' hB)
          have B_6 := Lib.hid (B_5.out.trans (hB.mono B_5.out.size))
          have O1_6 := Lib.hid (O1_5.out.below hB)
          have O2_6 := Lib.hid (O2_5.out.below hB)
          clear hB
          clear hs2
          go_wp2_with fail
          refine (qcmp_q w6 p b1 P P2 A1 B1 cp cp2 c1 d1 xs ys x y (HX.out.below B_6.out) (HY.out.below B_6.out) O1_6.out O2_6.out hsx hsy (by omega) (by omega)).mono ?_
          rw [HQV.out, hs3]
          rintro e w7 ⟨rfl, hB⟩
          have v7ac0 := (V0_6.out.below' hB).cell 0 rfl
          have v7ac1 := (V0_6.out.below' hB).cell 1 rfl
          have v7ac2 := (V0_6.out.below' hB).cell 2 rfl
          have V0_7 := Lib.hid (V0_6.out.below' hB)
          have v7bc0 := (V1_6.out.below' hB).cell 0 rfl
          have v7bc1 := (V1_6.out.below' hB).cell 1 rfl
          have v7bc2 := (V1_6.out.below' hB).cell 2 rfl
          have V1_7 := Lib.hid (V1_6.out.below' hB)
          have v7cc0 := (V2_6.out.below' hB).cell 0 rfl
          have v7cc1 := (V2_6.out.below' hB).cell 1 rfl
          have v7cc2 := (V2_6.out.below' hB).cell 2 rfl
          have V2_7 := Lib.hid (V2_6.out.below' hB)
          have B_7 := Lib.hid (B_6.out.trans (hB.mono B_6.out.size))
          have O1_7 := Lib.hid (O1_6.out.below hB)
          have O2_7 := Lib.hid (O2_6.out.below hB)
          clear hB
          go_wp2_with fail
          refine (awake_ok w7).mono ?_
          rintro e w9 ⟨rfl, hB9⟩
          have HB9 := Lib.hid (B_7.out.trans (hB9.mono B_7.out.size))
          clear hB9
          go_wp2_with fail
          go_ret
          exact ⟨rfl, HB9.out⟩
        · go_wp2_with fail
          refine (qsign_q w5 p P P2 cp cp2 xs ys (HX.out.below B_5.out) (HY.out.below B_5.out) hsx hsy).mono ?_
          rw [hs2]
          rintro e w6 ⟨rfl, hB⟩
          have v6ac0 := (V0_5.out.below' hB).cell 0 rfl
          have v6ac1 := (V0_5.out.below' hB).cell 1 rfl
          have v6ac2 := (V0_5.out.below' hB).cell 2 rfl
          have V0_6 := Lib.hid (V0_5.out.below' hB)
          have v6bc0 := (V1_5.out.below' hB).cell 0 rfl
          have v6bc1 := (V1_5.out.below' hB).cell 1 rfl
          have v6bc2 := (V1_5.out.below' hB).cell 2 rfl
          have V1_6 := Lib.hid (V1_5.out.below' hB)
          have v6cc0 := (V2_5.out.below' hB).cell 0 rfl
          have v6cc1 := (V2_5.out.below' hB).cell 1 rfl
          have v6cc2 := (V2_5.out.below' hB).cell 2 rfl
          have V2_6 := Lib.hid (V2_5.out.below' hB)
          have B_6 := Lib.hid (B_5.out.trans (hB.mono B_5.out.size))
          have O1_6 := Lib.hid (O1_5.out.below hB)
          have O2_6 := Lib.hid (O2_5.out.below hB)
          clear hB
          clear hs2
          go_wp2_with fail
          refine (qcmp_q w6 p b1 P P2 A1 B1 cp cp2 c1 d1 xs ys x y (HX.out.below B_6.out) (HY.out.below B_6.out) O1_6.out O2_6.out hsx hsy (by omega) (by omega)).mono ?_
          rw [HQV.out, hs3]
          rintro e w7 ⟨rfl, hB⟩
          have v7ac0 := (V0_6.out.below' hB).cell 0 rfl
          have v7ac1 := (V0_6.out.below' hB).cell 1 rfl
          have v7ac2 := (V0_6.out.below' hB).cell 2 rfl
          have V0_7 := Lib.hid (V0_6.out.below' hB)
          have v7bc0 := (V1_6.out.below' hB).cell 0 rfl
          have v7bc1 := (V1_6.out.below' hB).cell 1 rfl
          have v7bc2 := (V1_6.out.below' hB).cell 2 rfl
          have V1_7 := Lib.hid (V1_6.out.below' hB)
          have v7cc0 := (V2_6.out.below' hB).cell 0 rfl
          have v7cc1 := (V2_6.out.below' hB).cell 1 rfl
          have v7cc2 := (V2_6.out.below' hB).cell 2 rfl
          have V2_7 := Lib.hid (V2_6.out.below' hB)
          have B_7 := Lib.hid (B_6.out.trans (hB.mono B_6.out.size))
          have O1_7 := Lib.hid (O1_6.out.below hB)
          have O2_7 := Lib.hid (O2_6.out.below hB)
          clear hB
          go_wp2_with fail
          refine (awake_ok w7).mono ?_
          rintro e w9 ⟨rfl, hB9⟩
          have HB9 := Lib.hid (B_7.out.trans (hB9.mono B_7.out.size))
          clear hB9
          go_wp2_with fail
          go_ret
          exact ⟨rfl, HB9.out⟩
      · have hp : mkRat (hi d) 4294967296 < qv p xs ys := by
          have h := HCA.out
          unfold chance at h
          exact of_decide_eq_true h
        have HP := Lib.hid hp
        clear hp
        obtain ⟨s1, hs1⟩ : ∃ s1, cmpQ (qv p xs ys) (qv q us vs) = s1 := ⟨_, rfl⟩
        obtain ⟨s2, hs2⟩ : ∃ s2, cmpQ (qv p xs ys) 0 = s2 := ⟨_, rfl⟩
        obtain ⟨s3, hs3⟩ : ∃ s3, cmpQ (qv p xs ys) (mkRat 1 1) = s3 := ⟨_, rfl⟩
        have k2 : decide (s2 ≤ 0) = false := decide_eq_false (by
          rw [← hs2, cmpQ_le]
          intro h
          have := (hi_rat d).1
          have := HP.out
          grind)
        rcases Bool.eq_false_or_eq_true (decide (s1 ≤ 0)) with k1 | k1
        · have hb : bq = true := by
            rw [← HCB.out]
            unfold chance
            have h1 := of_decide_eq_true k1
            rw [← hs1, cmpQ_le] at h1
            have := HP.out
            exact decide_eq_true (by grind)
          subst hb
          rcases Bool.eq_false_or_eq_true (decide (0 ≤ s3)) with k3 | k3
          · go_wp2_with fail
            refine (qcmp_q w5 p q P P2 Q Q2 cp cp2 cq cq2 xs ys us vs (HX.out.below B_5.out) (HY.out.below B_5.out) (HU.out.below B_5.out) (HW.out.below B_5.out) hsx hsy hsu hsw).mono ?_
            rw [hs1]
            rintro e w6 ⟨rfl, hB⟩
            have v6ac0 := (V0_5.out.below' hB).cell 0 rfl
            have v6ac1 := (V0_5.out.below' hB).cell 1 rfl
            have v6ac2 := (V0_5.out.below' hB).cell 2 rfl
            have V0_6 := Lib.hid (V0_5.out.below' hB)
            have v6bc0 := (V1_5.out.below' hB).cell 0 rfl
            have v6bc1 := (V1_5.out.below' hB).cell 1 rfl
            have v6bc2 := (V1_5.out.below' hB).cell 2 rfl
            have V1_6 := Lib.hid (V1_5.out.below' hB)
            have v6cc0 := (V2_5.out.below' hB).cell 0 rfl
            have v6cc1 := (V2_5.out.below' hB).cell 1 rfl
            have v6cc2 := (V2_5.out.below' hB).cell 2 rfl
            have V2_6 := Lib.hid (V2_5.out.below' hB)
            have B_6 := Lib.hid (B_5.out.trans (hB.mono B_5.out.size))
            have O1_6 := Lib.hid (O1_5.out.below hB)
            have O2_6 := Lib.hid (O2_5.out.below hB)
            clear hB
            clear hs1
            go_wp2_with fail
            refine (qsign_q w6 p P P2 cp cp2 xs ys (HX.out.below B_6.out) (HY.out.below B_6.out) hsx hsy).mono ?_
            rw [hs2]
            rintro e w7 ⟨rfl, hB⟩
            have v7ac0 := (V0_6.out.below' hB).cell 0 rfl
            have v7ac1 := (V0_6.out.below' hB).cell 1 rfl
            have v7ac2 := (V0_6.out.below' hB).cell 2 rfl
            have V0_7 := Lib.hid (V0_6.out.below' hB)
            have v7bc0 := (V1_6.out.below' hB).cell 0 rfl
            have v7bc1 := (V1_6.out.below' hB).cell 1 rfl
            have v7bc2 := (V1_6.out.below' hB).cell 2 rfl
            have V1_7 := Lib.hid (V1_6.out.below' hB)
            have v7cc0 := (V2_6.out.below' hB).cell 0 rfl
            have v7cc1 := (V2_6.out.below' hB).cell 1 rfl
            have v7cc2 := (V2_6.out.below' hB).cell 2 rfl
            have V2_7 := Lib.hid (V2_6.out.below' hB)
            have B_7 := Lib.hid (B_6.out.trans (hB.mono B_6.out.size))
            have O1_7 := Lib.hid (O1_6.out.below hB)
            have O2_7 := Lib.hid (O2_6.out.below hB)
            clear hB
            clear hs2
            go_wp2_with fail
            refine (qcmp_q w7 p b1 P P2 A1 B1 cp cp2 c1 d1 xs ys x y (HX.out.below B_7.out) (HY.out.below B_7.out) O1_7.out O2_7.out hsx hsy (by omega) (by omega)).mono ?_
            rw [HQV.out, hs3]
            rintro e w8 ⟨rfl, hB⟩
            have v8ac0 := (V0_7.out.below' hB).cell 0 rfl
            have v8ac1 := (V0_7.out.below' hB).cell 1 rfl
            have v8ac2 := (V0_7.out.below' hB).cell 2 rfl
            have V0_8 := Lib.hid (V0_7.out.below' hB)
            have v8bc0 := (V1_7.out.below' hB).cell 0 rfl
            have v8bc1 := (V1_7.out.below' hB).cell 1 rfl
            have v8bc2 := (V1_7.out.below' hB).cell 2 rfl
            have V1_8 := Lib.hid (V1_7.out.below' hB)
            have v8cc0 := (V2_7.out.below' hB).cell 0 rfl
            have v8cc1 := (V2_7.out.below' hB).cell 1 rfl
            have v8cc2 := (V2_7.out.below' hB).cell 2 rfl
            have V2_8 := Lib.hid (V2_7.out.below' hB)
            have B_8 := Lib.hid (B_7.out.trans (hB.mono B_7.out.size))
            have O1_8 := Lib.hid (O1_7.out.below hB)
            have O2_8 := Lib.hid (O2_7.out.below hB)
            clear hB
            go_wp2_with fail
            refine (awake_ok w8).mono ?_
            rintro e w9 ⟨rfl, hB9⟩
            have HB9 := Lib.hid (B_8.out.trans (hB9.mono B_8.out.size))
            clear hB9
            go_wp2_with fail
            go_ret
            exact ⟨rfl, HB9.out⟩
          · go_wp2_with fail
            refine (qcmp_q w5 p q P P2 Q Q2 cp cp2 cq cq2 xs ys us vs (HX.out.below B_5.out) (HY.out.below B_5.out) (HU.out.below B_5.out) (HW.out.below B_5.out) hsx hsy hsu hsw).mono ?_
            rw [hs1]
            rintro e w6 ⟨rfl, hB⟩
            have v6ac0 := (V0_5.out.below' hB).cell 0 rfl
            have v6ac1 := (V0_5.out.below' hB).cell 1 rfl
            have v6ac2 := (V0_5.out.below' hB).cell 2 rfl
            have V0_6 := Lib.hid (V0_5.out.below' hB)
            have v6bc0 := (V1_5.out.below' hB).cell 0 rfl
            have v6bc1 := (V1_5.out.below' hB).cell 1 rfl
            have v6bc2 := (V1_5.out.below' hB).cell 2 rfl
            have V1_6 := Lib.hid (V1_5.out.below' hB)
            have v6cc0 := (V2_5.out.below' hB).cell 0 rfl
            have v6cc1 := (V2_5.out.below' hB).cell 1 rfl
            have v6cc2 := (V2_5.out.below' hB).cell 2 rfl
            have V2_6 := Lib.hid (V2_5.out.below' hB)
            have B_6 := Lib.hid (B_5.out.trans (hB.mono B_5.out.size))
            have O1_6 := Lib.hid (O1_5.out.below hB)
            have O2_6 := Lib.hid (O2_5.out.below hB)
            clear hB
            clear hs1
            go_wp2_with fail
            refine (qsign_q w6 p P P2 cp cp2 xs ys (HX.out.below B_6.out) (HY.out.below B_6.out) hsx hsy).mono ?_
            rw [hs2]
            rintro e w7 ⟨rfl, hB⟩
            have v7ac0 := (V0_6.out.below' hB).cell 0 rfl
            have v7ac1 := (V0_6.out.below' hB).cell 1 rfl
            have v7ac2 := (V0_6.out.below' hB).cell 2 rfl
            have V0_7 := Lib.hid (V0_6.out.below' hB)
            have v7bc0 := (V1_6.out.below' hB).cell 0 rfl
            have v7bc1 := (V1_6.out.below' hB).cell 1 rfl
            have v7bc2 := (V1_6.out.below' hB).cell 2 rfl
            have V1_7 := Lib.hid (V1_6.out.below' hB)
            have v7cc0 := (V2_6.out.below' hB).cell 0 rfl
            have v7cc1 := (V2_6.out.below' hB).cell 1 rfl
            have v7cc2 := (V2_6.out.below' hB).cell 2 rfl
            have V2_7 := Lib.hid (V2_6.out.below' hB)
            have B_7 := Lib.hid (B_6.out.trans (hB.mono B_6.out.size))
            have O1_7 := Lib.hid (O1_6.out.below hB)
            have O2_7 := Lib.hid (O2_6.out.below hB)
            clear hB
            clear hs2
            go_wp2_with fail
            refine (qcmp_q w7 p b1 P P2 A1 B1 cp cp2 c1 d1 xs ys x y (HX.out.below B_7.out) (HY.out.below B_7.out) O1_7.out O2_7.out hsx hsy (by omega) (by omega)).mono ?_
            rw [HQV.out, hs3]
            rintro e w8 ⟨rfl, hB⟩
            have v8ac0 := (V0_7.out.below' hB).cell 0 rfl
            have v8ac1 := (V0_7.out.below' hB).cell 1 rfl
            have v8ac2 := (V0_7.out.below' hB).cell 2 rfl
            have V0_8 := Lib.hid (V0_7.out.below' hB)
            have v8bc0 := (V1_7.out.below' hB).cell 0 rfl
            have v8bc1 := (V1_7.out.below' hB).cell 1 rfl
            have v8bc2 := (V1_7.out.below' hB).cell 2 rfl
            have V1_8 := Lib.hid (V1_7.out.below' hB)
            have v8cc0 := (V2_7.out.below' hB).cell 0 rfl
            have v8cc1 := (V2_7.out.below' hB).cell 1 rfl
            have v8cc2 := (V2_7.out.below' hB).cell 2 rfl
            have V2_8 := Lib.hid (V2_7.out.below' hB)
            have B_8 := Lib.hid (B_7.out.trans (hB.mono B_7.out.size))
            have O1_8 := Lib.hid (O1_7.out.below hB)
            have O2_8 := Lib.hid (O2_7.out.below hB)
            clear hB
            go_wp2_with fail
            refine (awake_ok w8).mono ?_
            rintro e w9 ⟨rfl, hB9⟩
            have HB9 := Lib.hid (B_8.out.trans (hB9.mono B_8.out.size))
            clear hB9
            go_wp2_with fail
            go_ret
            exact ⟨rfl, HB9.out⟩
        · rcases Bool.eq_false_or_eq_true (decide (0 ≤ s3)) with k3 | k3
          · go_wp2_with fail
            refine (qcmp_q w5 p q P P2 Q Q2 cp cp2 cq cq2 xs ys us vs (HX.out.below B_5.out) (HY.out.below B_5.out) (HU.out.below B_5.out) (HW.out.below B_5.out) hsx hsy hsu hsw).mono ?_
            rw [hs1]
            rintro e w6 ⟨rfl, hB⟩
            have v6ac0 := (V0_5.out.below' hB).cell 0 rfl
            have v6ac1 := (V0_5.out.below' hB).cell 1 rfl
            have v6ac2 := (V0_5.out.below' hB).cell 2 rfl
            have V0_6 := Lib.hid (V0_5.out.below' hB)
            have v6bc0 := (V1_5.out.below' hB).cell 0 rfl
            have v6bc1 := (V1_5.out.below' hB).cell 1 rfl
            have v6bc2 := (V1_5.out.below' hB).cell 2 rfl
            have V1_6 := Lib.hid (V1_5.out.below' hB)
            have v6cc0 := (V2_5.out.below' hB).cell 0 rfl
            have v6cc1 := (V2_5.out.below' hB).cell 1 rfl
            have v6cc2 := (V2_5.out.below' hB).cell 2 rfl
            have V2_6 := Lib.hid (V2_5.out.below' hB)
            have B_6 := Lib.hid (B_5.out.trans (hB.mono B_5.out.size))
            have O1_6 := Lib.hid (O1_5.out.below hB)
            have O2_6 := Lib.hid (O2_5.out.below hB)
            clear hB
            clear hs1
            go_wp2_with fail
            refine (qsign_q w6 p P P2 cp cp2 xs ys (HX.out.below B_6.out) (HY.out.below B_6.out) hsx hsy).mono ?_
            rw [hs2]
            rintro e w7 ⟨rfl, hB⟩
            have v7ac0 := (V0_6.out.below' hB).cell 0 rfl
            have v7ac1 := (V0_6.out.below' hB).cell 1 rfl
            have v7ac2 := (V0_6.out.below' hB).cell 2 rfl
            have V0_7 := Lib.hid (V0_6.out.below' hB)
            have v7bc0 := (V1_6.out.below' hB).cell 0 rfl
            have v7bc1 := (V1_6.out.below' hB).cell 1 rfl
            have v7bc2 := (V1_6.out.below' hB).cell 2 rfl
            have V1_7 := Lib.hid (V1_6.out.below' hB)
            have v7cc0 := (V2_6.out.below' hB).cell 0 rfl
            have v7cc1 := (V2_6.out.below' hB).cell 1 rfl
            have v7cc2 := (V2_6.out.below' hB).cell 2 rfl
            have V2_7 := Lib.hid (V2_6.out.below' hB)
            have B_7 := Lib.hid (B_6.out.trans (hB.mono B_6.out.size))
            have O1_7 := Lib.hid (O1_6.out.below hB)
            have O2_7 := Lib.hid (O2_6.out.below hB)
            clear hB
            clear hs2
            go_wp2_with fail
            refine (qcmp_q w7 p b1 P P2 A1 B1 cp cp2 c1 d1 xs ys x y (HX.out.below B_7.out) (HY.out.below B_7.out) O1_7.out O2_7.out hsx hsy (by omega) (by omega)).mono ?_
            rw [HQV.out, hs3]
            rintro e w8 ⟨rfl, hB⟩
            have v8ac0 := (V0_7.out.below' hB).cell 0 rfl
            have v8ac1 := (V0_7.out.below' hB).cell 1 rfl
            have v8ac2 := (V0_7.out.below' hB).cell 2 rfl
            have V0_8 := Lib.hid (V0_7.out.below' hB)
            have v8bc0 := (V1_7.out.below' hB).cell 0 rfl
            have v8bc1 := (V1_7.out.below' hB).cell 1 rfl
            have v8bc2 := (V1_7.out.below' hB).cell 2 rfl
            have V1_8 := Lib.hid (V1_7.out.below' hB)
            have v8cc0 := (V2_7.out.below' hB).cell 0 rfl
            have v8cc1 := (V2_7.out.below' hB).cell 1 rfl
            have v8cc2 := (V2_7.out.below' hB).cell 2 rfl
            have V2_8 := Lib.hid (V2_7.out.below' hB)
            have B_8 := Lib.hid (B_7.out.trans (hB.mono B_7.out.size))
            have O1_8 := Lib.hid (O1_7.out.below hB)
            have O2_8 := Lib.hid (O2_7.out.below hB)
            clear hB
            go_wp2_with fail
            refine (awake_ok w8).mono ?_
            rintro e w9 ⟨rfl, hB9⟩
            have HB9 := Lib.hid (B_8.out.trans (hB9.mono B_8.out.size))
            clear hB9
            go_wp2_with fail
            go_ret
            exact ⟨rfl, HB9.out⟩
          · go_wp2_with fail
            refine (qcmp_q w5 p q P P2 Q Q2 cp cp2 cq cq2 xs ys us vs (HX.out.below B_5.out) (HY.out.below B_5.out) (HU.out.below B_5.out) (HW.out.below B_5.out) hsx hsy hsu hsw).mono ?_
            rw [hs1]
            rintro e w6 ⟨rfl, hB⟩
            have v6ac0 := (V0_5.out.below' hB).cell 0 rfl
            have v6ac1 := (V0_5.out.below' hB).cell 1 rfl
            have v6ac2 := (V0_5.out.below' hB).cell 2 rfl
            have V0_6 := Lib.hid (V0_5.out.below' hB)
            have v6bc0 := (V1_5.out.below' hB).cell 0 rfl
            have v6bc1 := (V1_5.out.below' hB).cell 1 rfl
            have v6bc2 := (V1_5.out.below' hB).cell 2 rfl
            have V1_6 := Lib.hid (V1_5.out.below' hB)
            have v6cc0 := (V2_5.out.below' hB).cell 0 rfl
            have v6cc1 := (V2_5.out.below' hB).cell 1 rfl
            have v6cc2 := (V2_5.out.below' hB).cell 2 rfl
            have V2_6 := Lib.hid (V2_5.out.below' hB)
            have B_6 := Lib.hid (B_5.out.trans (hB.mono B_5.out.size))
            have O1_6 := Lib.hid (O1_5.out.below hB)
            have O2_6 := Lib.hid (O2_5.out.below hB)
            clear hB
            clear hs1
            go_wp2_with fail
            refine (qsign_q w6 p P P2 cp cp2 xs ys (HX.out.below B_6.out) (HY.out.below B_6.out) hsx hsy).mono ?_
            rw [hs2]
            rintro e w7 ⟨rfl, hB⟩
            have v7ac0 := (V0_6.out.below' hB).cell 0 rfl
            have v7ac1 := (V0_6.out.below' hB).cell 1 rfl
            have v7ac2 := (V0_6.out.below' hB).cell 2 rfl
            have V0_7 := Lib.hid (V0_6.out.below' hB)
            have v7bc0 := (V1_6.out.below' hB).cell 0 rfl
            have v7bc1 := (V1_6.out.below' hB).cell 1 rfl
            have v7bc2 := (V1_6.out.below' hB).cell 2 rfl
            have V1_7 := Lib.hid (V1_6.out.below' hB)
            have v7cc0 := (V2_6.out.below' hB).cell 0 rfl
            have v7cc1 := (V2_6.out.below' hB).cell 1 rfl
            have v7cc2 := (V2_6.out.below' hB).cell 2 rfl
            have V2_7 := Lib.hid (V2_6.out.below' hB)
            have B_7 := Lib.hid (B_6.out.trans (hB.mono B_6.out.size))
            have O1_7 := Lib.hid (O1_6.out.below hB)
            have O2_7 := Lib.hid (O2_6.out.below hB)
            clear hB
            clear hs2
            go_wp2_with fail
            refine (qcmp_q w7 p b1 P P2 A1 B1 cp cp2 c1 d1 xs ys x y (HX.out.below B_7.out) (HY.out.below B_7.out) O1_7.out O2_7.out hsx hsy (by omega) (by omega)).mono ?_
            rw [HQV.out, hs3]
            rintro e w8 ⟨rfl, hB⟩
            have v8ac0 := (V0_7.out.below' hB).cell 0 rfl
            have v8ac1 := (V0_7.out.below' hB).cell 1 rfl
            have v8ac2 := (V0_7.out.below' hB).cell 2 rfl
            have V0_8 := Lib.hid (V0_7.out.below' hB)
            have v8bc0 := (V1_7.out.below' hB).cell 0 rfl
            have v8bc1 := (V1_7.out.below' hB).cell 1 rfl
            have v8bc2 := (V1_7.out.below' hB).cell 2 rfl
            have V1_8 := Lib.hid (V1_7.out.below' hB)
            have v8cc0 := (V2_7.out.below' hB).cell 0 rfl
            have v8cc1 := (V2_7.out.below' hB).cell 1 rfl
            have v8cc2 := (V2_7.out.below' hB).cell 2 rfl
            have V2_8 := Lib.hid (V2_7.out.below' hB)
            have B_8 := Lib.hid (B_7.out.trans (hB.mono B_7.out.size))
            have O1_8 := Lib.hid (O1_7.out.below hB)
            have O2_8 := Lib.hid (O2_7.out.below hB)
            clear hB
            go_wp2_with fail
            refine (awake_ok w8).mono ?_
            rintro e w9 ⟨rfl, hB9⟩
            have HB9 := Lib.hid (B_8.out.trans (hB9.mono B_8.out.size))
            clear hB9
            go_wp2_with fail
            go_ret
            exact ⟨rfl, HB9.out⟩
    · have e1 : decide (n < 1) = false := decide_eq_false (by omega)
      have e2 : decide (2147483648 < n) = true := decide_eq_true hA
      go_wp2_with fail
      refine (qof_ok W 1 1 (by omega) (by omega) (by omega) (by omega)).mono ?_
      rintro e w2 ⟨b1, A1, c1, x, B1, d1, y, rfl, HQ1, HQ2, HQ3, hr1, hr2, hB5⟩
      have hml := mk_len (n := 1) (m := 1) (by decide) (by decide) (by decide)
      have hqv : qv b1 x y = mkRat 1 1 := by rw [HQ1.out, HQ2.out, HQ3.out]; exact qv_norm _
      have hlx : x.length ≤ 2 := by rw [HQ2.out]; exact hml.1
      have hly : y.length ≤ 2 := by rw [HQ3.out]; exact hml.2
      have HQV := Lib.hid hqv
      have HB5 := Lib.hid (HBW.out.trans (hB5.mono HBW.out.size))
      have HV05 := Lib.hid (HVW0.out.below' hB5)
      have HV15 := Lib.hid (HVW1.out.below' hB5)
      have HR1 := Lib.hid hr1
      have HR2 := Lib.hid hr2
      clear hB5 hr1 hr2 hml hqv
      go_upto_region 12 with fail
      obtain ⟨T, hT⟩ : ∃ T, T = (w2.alloc (.cells #[.bool b1, .slice A1 x.length c1, .slice B1 y.length d1] 29)) := ⟨_, rfl⟩
      rw [← hT]
      have hBT : Below w2.heap.size w2 T := by rw [hT]; exact ((Below.refl _ _).alloc (Nat.le_refl _) _)
      have vT0 : Vr T (w2.heap.size) 29 #[.bool b1, .slice A1 x.length c1, .slice B1 y.length d1] := by rw [hT]; exact (Vr.new' _ _ _ (by simp only [size_alloc]))
      clear hT
      have HVT0 := Lib.hid vT0
      have HBT := Lib.hid hBT
      clear hBT vT0
      have B_3 := Lib.hid (HB5.out.trans (HBT.out.mono HB5.out.size))
      have V0_3 := Lib.hid (HV05.out.below' HBT.out)
      have V1_3 := Lib.hid (HV15.out.below' HBT.out)
      have V2_3 := HVT0
      have O1_3 := Lib.hid (HR1.out.below HBT.out)
      have O2_3 := Lib.hid (HR2.out.below HBT.out)
      clear HVW0 HVW1 HBW HV05 HV15 HB5 HR1 HR2
      obtain ⟨w3, rfl⟩ : ∃ w3, w3 = T := ⟨_, rfl⟩
      have v3ac0 := (V0_3.out).cell 0 rfl
      have v3ac1 := (V0_3.out).cell 1 rfl
      have v3ac2 := (V0_3.out).cell 2 rfl
      have v3bc0 := (V1_3.out).cell 0 rfl
      have v3bc1 := (V1_3.out).cell 1 rfl
      have v3bc2 := (V1_3.out).cell 2 rfl
      have v3cc0 := (V2_3.out).cell 0 rfl
      have v3cc1 := (V2_3.out).cell 1 rfl
      have v3cc2 := (V2_3.out).cell 2 rfl
      go_wp2_with fail
      refine (dchance_ok w3 d p P P2 cp cp2 xs ys (HX.out.below B_3.out) (HY.out.below B_3.out) hsx hsy).mono ?_
      rw [HCA.out]
      rintro e w4 ⟨rfl, hB⟩
      have v4ac0 := (V0_3.out.below' hB).cell 0 rfl
      have v4ac1 := (V0_3.out.below' hB).cell 1 rfl
      have v4ac2 := (V0_3.out.below' hB).cell 2 rfl
      have V0_4 := Lib.hid (V0_3.out.below' hB)
      have v4bc0 := (V1_3.out.below' hB).cell 0 rfl
      have v4bc1 := (V1_3.out.below' hB).cell 1 rfl
      have v4bc2 := (V1_3.out.below' hB).cell 2 rfl
      have V1_4 := Lib.hid (V1_3.out.below' hB)
      have v4cc0 := (V2_3.out.below' hB).cell 0 rfl
      have v4cc1 := (V2_3.out.below' hB).cell 1 rfl
      have v4cc2 := (V2_3.out.below' hB).cell 2 rfl
      have V2_4 := Lib.hid (V2_3.out.below' hB)
      have B_4 := Lib.hid (B_3.out.trans (hB.mono B_3.out.size))
      have O1_4 := Lib.hid (O1_3.out.below hB)
      have O2_4 := Lib.hid (O2_3.out.below hB)
      clear hB
      go_wp2_with fail
      refine (dchance_ok w4 d q Q Q2 cq cq2 us vs (HU.out.below B_4.out) (HW.out.below B_4.out) hsu hsw).mono ?_
      rw [HCB.out]
      rintro e w5 ⟨rfl, hB⟩
      have v5ac0 := (V0_4.out.below' hB).cell 0 rfl
      have v5ac1 := (V0_4.out.below' hB).cell 1 rfl
      have v5ac2 := (V0_4.out.below' hB).cell 2 rfl
      have V0_5 := Lib.hid (V0_4.out.below' hB)
      have v5bc0 := (V1_4.out.below' hB).cell 0 rfl
      have v5bc1 := (V1_4.out.below' hB).cell 1 rfl
      have v5bc2 := (V1_4.out.below' hB).cell 2 rfl
      have V1_5 := Lib.hid (V1_4.out.below' hB)
      have v5cc0 := (V2_4.out.below' hB).cell 0 rfl
      have v5cc1 := (V2_4.out.below' hB).cell 1 rfl
      have v5cc2 := (V2_4.out.below' hB).cell 2 rfl
      have V2_5 := Lib.hid (V2_4.out.below' hB)
      have B_5 := Lib.hid (B_4.out.trans (hB.mono B_4.out.size))
      have O1_5 := Lib.hid (O1_4.out.below hB)
      have O2_5 := Lib.hid (O2_4.out.below hB)
      clear hB
      cases a
      · -- the event is off
        have hs3 : cmpQ (qv p xs ys) (mkRat 1 1) = -1 := by
          have h : ¬ mkRat (hi d) 4294967296 < qv p xs ys := by
            have h := HCA.out
            unfold chance at h
            exact of_decide_eq_false h
          unfold cmpQ
          rw [if_pos (by have := (hi_rat d).2; have := Rat.not_lt.1 h; grind)]
        obtain ⟨s2, hs2⟩ : ∃ s2, cmpQ (qv p xs ys) 0 = s2 := ⟨_, rfl⟩
        rcases Bool.eq_false_or_eq_true (decide (s2 ≤ 0)) with k | k
        · go_wp2_with fail
          refine (qsign_q w5 p P P2 cp cp2 xs ys (HX.out.below B_5.out) (HY.out.below B_5.out) hsx hsy).mono ?_
          rw [hs2]
          rintro e w6 ⟨rfl, hB⟩
          have v6ac0 := (V0_5.out.below' hB).cell 0 rfl
          have v6ac1 := (V0_5.out.below' hB).cell 1 rfl
          have v6ac2 := (V0_5.out.below' hB).cell 2 rfl
          have V0_6 := Lib.hid (V0_5.out.below' hB)
          have v6bc0 := (V1_5.out.below' hB).cell 0 rfl
          have v6bc1 := (V1_5.out.below' hB).cell 1 rfl
          have v6bc2 := (V1_5.out.below' hB).cell 2 rfl
          have V1_6 := Lib.hid (V1_5.out.below' hB)
          have v6cc0 := (V2_5.out.below' hB).cell 0 rfl
          have v6cc1 := (V2_5.out.below' hB).cell 1 rfl
          have v6cc2 := (V2_5.out.below' hB).cell 2 rfl
          have V2_6 := Lib.hid (V2_5.out.below' hB)
          have B_6 := Lib.hid (B_5.out.trans (hB.mono B_5.out.size))
          have O1_6 := Lib.hid (O1_5.out.below hB)
          have O2_6 := Lib.hid (O2_5.out.below hB)
          clear hB
          clear hs2
          go_wp2_with fail
          refine (qcmp_q w6 p b1 P P2 A1 B1 cp cp2 c1 d1 xs ys x y (HX.out.below B_6.out) (HY.out.below B_6.out) O1_6.out O2_6.out hsx hsy (by omega) (by omega)).mono ?_
          rw [HQV.out, hs3]
          rintro e w7 ⟨rfl, hB⟩
          have v7ac0 := (V0_6.out.below' hB).cell 0 rfl
          have v7ac1 := (V0_6.out.below' hB).cell 1 rfl
          have v7ac2 := (V0_6.out.below' hB).cell 2 rfl
          have V0_7 := Lib.hid (V0_6.out.below' hB)
          have v7bc0 := (V1_6.out.below' hB).cell 0 rfl
          have v7bc1 := (V1_6.out.below' hB).cell 1 rfl
          have v7bc2 := (V1_6.out.below' hB).cell 2 rfl
          have V1_7 := Lib.hid (V1_6.out.below' hB)
          have v7cc0 := (V2_6.out.below' hB).cell 0 rfl
          have v7cc1 := (V2_6.out.below' hB).cell 1 rfl
          have v7cc2 := (V2_6.out.below' hB).cell 2 rfl
          have V2_7 := Lib.hid (V2_6.out.below' hB)
          have B_7 := Lib.hid (B_6.out.trans (hB.mono B_6.out.size))
          have O1_7 := Lib.hid (O1_6.out.below hB)
          have O2_7 := Lib.hid (O2_6.out.below hB)
          clear hB
          go_wp2_with fail
          refine (awake_ok w7).mono ?_
          rintro e w9 ⟨rfl, hB9⟩
          have HB9 := Lib.hid (B_7.out.trans (hB9.mono B_7.out.size))
          clear hB9
          go_wp2_with fail
          go_ret
          exact ⟨rfl, HB9.out⟩
        · go_wp2_with fail
          refine (qsign_q w5 p P P2 cp cp2 xs ys (HX.out.below B_5.out) (HY.out.below B_5.out) hsx hsy).mono ?_
          rw [hs2]
          rintro e w6 ⟨rfl, hB⟩
          have v6ac0 := (V0_5.out.below' hB).cell 0 rfl
          have v6ac1 := (V0_5.out.below' hB).cell 1 rfl
          have v6ac2 := (V0_5.out.below' hB).cell 2 rfl
          have V0_6 := Lib.hid (V0_5.out.below' hB)
          have v6bc0 := (V1_5.out.below' hB).cell 0 rfl
          have v6bc1 := (V1_5.out.below' hB).cell 1 rfl
          have v6bc2 := (V1_5.out.below' hB).cell 2 rfl
          have V1_6 := Lib.hid (V1_5.out.below' hB)
          have v6cc0 := (V2_5.out.below' hB).cell 0 rfl
          have v6cc1 := (V2_5.out.below' hB).cell 1 rfl
          have v6cc2 := (V2_5.out.below' hB).cell 2 rfl
          have V2_6 := Lib.hid (V2_5.out.below' hB)
          have B_6 := Lib.hid (B_5.out.trans (hB.mono B_5.out.size))
          have O1_6 := Lib.hid (O1_5.out.below hB)
          have O2_6 := Lib.hid (O2_5.out.below hB)
          clear hB
          clear hs2
          go_wp2_with fail
          refine (qcmp_q w6 p b1 P P2 A1 B1 cp cp2 c1 d1 xs ys x y (HX.out.below B_6.out) (HY.out.below B_6.out) O1_6.out O2_6.out hsx hsy (by omega) (by omega)).mono ?_
          rw [HQV.out, hs3]
          rintro e w7 ⟨rfl, hB⟩
          have v7ac0 := (V0_6.out.below' hB).cell 0 rfl
          have v7ac1 := (V0_6.out.below' hB).cell 1 rfl
          have v7ac2 := (V0_6.out.below' hB).cell 2 rfl
          have V0_7 := Lib.hid (V0_6.out.below' hB)
          have v7bc0 := (V1_6.out.below' hB).cell 0 rfl
          have v7bc1 := (V1_6.out.below' hB).cell 1 rfl
          have v7bc2 := (V1_6.out.below' hB).cell 2 rfl
          have V1_7 := Lib.hid (V1_6.out.below' hB)
          have v7cc0 := (V2_6.out.below' hB).cell 0 rfl
          have v7cc1 := (V2_6.out.below' hB).cell 1 rfl
          have v7cc2 := (V2_6.out.below' hB).cell 2 rfl
          have V2_7 := Lib.hid (V2_6.out.below' hB)
          have B_7 := Lib.hid (B_6.out.trans (hB.mono B_6.out.size))
          have O1_7 := Lib.hid (O1_6.out.below hB)
          have O2_7 := Lib.hid (O2_6.out.below hB)
          clear hB
          go_wp2_with fail
          refine (awake_ok w7).mono ?_
          rintro e w9 ⟨rfl, hB9⟩
          have HB9 := Lib.hid (B_7.out.trans (hB9.mono B_7.out.size))
          clear hB9
          go_wp2_with fail
          go_ret
          exact ⟨rfl, HB9.out⟩
      · have hp : mkRat (hi d) 4294967296 < qv p xs ys := by
          have h := HCA.out
          unfold chance at h
          exact of_decide_eq_true h
        have HP := Lib.hid hp
        clear hp
        obtain ⟨s1, hs1⟩ : ∃ s1, cmpQ (qv p xs ys) (qv q us vs) = s1 := ⟨_, rfl⟩
        obtain ⟨s2, hs2⟩ : ∃ s2, cmpQ (qv p xs ys) 0 = s2 := ⟨_, rfl⟩
        obtain ⟨s3, hs3⟩ : ∃ s3, cmpQ (qv p xs ys) (mkRat 1 1) = s3 := ⟨_, rfl⟩
        have k2 : decide (s2 ≤ 0) = false := decide_eq_false (by
          rw [← hs2, cmpQ_le]
          intro h
          have := (hi_rat d).1
          have := HP.out
          grind)
        rcases Bool.eq_false_or_eq_true (decide (s1 ≤ 0)) with k1 | k1
        · have hb : bq = true := by
            rw [← HCB.out]
            unfold chance
            have h1 := of_decide_eq_true k1
            rw [← hs1, cmpQ_le] at h1
            have := HP.out
            exact decide_eq_true (by grind)
          subst hb
          rcases Bool.eq_false_or_eq_true (decide (0 ≤ s3)) with k3 | k3
          · go_wp2_with fail
            refine (qcmp_q w5 p q P P2 Q Q2 cp cp2 cq cq2 xs ys us vs (HX.out.below B_5.out) (HY.out.below B_5.out) (HU.out.below B_5.out) (HW.out.below B_5.out) hsx hsy hsu hsw).mono ?_
            rw [hs1]
            rintro e w6 ⟨rfl, hB⟩
            have v6ac0 := (V0_5.out.below' hB).cell 0 rfl
            have v6ac1 := (V0_5.out.below' hB).cell 1 rfl
            have v6ac2 := (V0_5.out.below' hB).cell 2 rfl
            have V0_6 := Lib.hid (V0_5.out.below' hB)
            have v6bc0 := (V1_5.out.below' hB).cell 0 rfl
            have v6bc1 := (V1_5.out.below' hB).cell 1 rfl
            have v6bc2 := (V1_5.out.below' hB).cell 2 rfl
            have V1_6 := Lib.hid (V1_5.out.below' hB)
            have v6cc0 := (V2_5.out.below' hB).cell 0 rfl
            have v6cc1 := (V2_5.out.below' hB).cell 1 rfl
            have v6cc2 := (V2_5.out.below' hB).cell 2 rfl
            have V2_6 := Lib.hid (V2_5.out.below' hB)
            have B_6 := Lib.hid (B_5.out.trans (hB.mono B_5.out.size))
            have O1_6 := Lib.hid (O1_5.out.below hB)
            have O2_6 := Lib.hid (O2_5.out.below hB)
            clear hB
            clear hs1
            go_wp2_with fail
            refine (qsign_q w6 p P P2 cp cp2 xs ys (HX.out.below B_6.out) (HY.out.below B_6.out) hsx hsy).mono ?_
            rw [hs2]
            rintro e w7 ⟨rfl, hB⟩
            have v7ac0 := (V0_6.out.below' hB).cell 0 rfl
            have v7ac1 := (V0_6.out.below' hB).cell 1 rfl
            have v7ac2 := (V0_6.out.below' hB).cell 2 rfl
            have V0_7 := Lib.hid (V0_6.out.below' hB)
            have v7bc0 := (V1_6.out.below' hB).cell 0 rfl
            have v7bc1 := (V1_6.out.below' hB).cell 1 rfl
            have v7bc2 := (V1_6.out.below' hB).cell 2 rfl
            have V1_7 := Lib.hid (V1_6.out.below' hB)
            have v7cc0 := (V2_6.out.below' hB).cell 0 rfl
            have v7cc1 := (V2_6.out.below' hB).cell 1 rfl
            have v7cc2 := (V2_6.out.below' hB).cell 2 rfl
            have V2_7 := Lib.hid (V2_6.out.below' hB)
            have B_7 := Lib.hid (B_6.out.trans (hB.mono B_6.out.size))
            have O1_7 := Lib.hid (O1_6.out.below hB)
            have O2_7 := Lib.hid (O2_6.out.below hB)
            clear hB
            clear hs2
            go_wp2_with fail
            refine (qcmp_q w7 p b1 P P2 A1 B1 cp cp2 c1 d1 xs ys x y (HX.out.below B_7.out) (HY.out.below B_7.out) O1_7.out O2_7.out hsx hsy (by omega) (by omega)).mono ?_
            rw [HQV.out, hs3]
            rintro e w8 ⟨rfl, hB⟩
            have v8ac0 := (V0_7.out.below' hB).cell 0 rfl
            have v8ac1 := (V0_7.out.below' hB).cell 1 rfl
            have v8ac2 := (V0_7.out.below' hB).cell 2 rfl
            have V0_8 := Lib.hid (V0_7.out.below' hB)
            have v8bc0 := (V1_7.out.below' hB).cell 0 rfl
            have v8bc1 := (V1_7.out.below' hB).cell 1 rfl
            have v8bc2 := (V1_7.out.below' hB).cell 2 rfl
            have V1_8 := Lib.hid (V1_7.out.below' hB)
            have v8cc0 := (V2_7.out.below' hB).cell 0 rfl
            have v8cc1 := (V2_7.out.below' hB).cell 1 rfl
            have v8cc2 := (V2_7.out.below' hB).cell 2 rfl
            have V2_8 := Lib.hid (V2_7.out.below' hB)
            have B_8 := Lib.hid (B_7.out.trans (hB.mono B_7.out.size))
            have O1_8 := Lib.hid (O1_7.out.below hB)
            have O2_8 := Lib.hid (O2_7.out.below hB)
            clear hB
            go_wp2_with fail
            refine (awake_ok w8).mono ?_
            rintro e w9 ⟨rfl, hB9⟩
            have HB9 := Lib.hid (B_8.out.trans (hB9.mono B_8.out.size))
            clear hB9
            go_wp2_with fail
            go_ret
            exact ⟨rfl, HB9.out⟩
          · go_wp2_with fail
            refine (qcmp_q w5 p q P P2 Q Q2 cp cp2 cq cq2 xs ys us vs (HX.out.below B_5.out) (HY.out.below B_5.out) (HU.out.below B_5.out) (HW.out.below B_5.out) hsx hsy hsu hsw).mono ?_
            rw [hs1]
            rintro e w6 ⟨rfl, hB⟩
            have v6ac0 := (V0_5.out.below' hB).cell 0 rfl
            have v6ac1 := (V0_5.out.below' hB).cell 1 rfl
            have v6ac2 := (V0_5.out.below' hB).cell 2 rfl
            have V0_6 := Lib.hid (V0_5.out.below' hB)
            have v6bc0 := (V1_5.out.below' hB).cell 0 rfl
            have v6bc1 := (V1_5.out.below' hB).cell 1 rfl
            have v6bc2 := (V1_5.out.below' hB).cell 2 rfl
            have V1_6 := Lib.hid (V1_5.out.below' hB)
            have v6cc0 := (V2_5.out.below' hB).cell 0 rfl
            have v6cc1 := (V2_5.out.below' hB).cell 1 rfl
            have v6cc2 := (V2_5.out.below' hB).cell 2 rfl
            have V2_6 := Lib.hid (V2_5.out.below' hB)
            have B_6 := Lib.hid (B_5.out.trans (hB.mono B_5.out.size))
            have O1_6 := Lib.hid (O1_5.out.below hB)
            have O2_6 := Lib.hid (O2_5.out.below hB)
            clear hB
            clear hs1
            go_wp2_with fail
            refine (qsign_q w6 p P P2 cp cp2 xs ys (HX.out.below B_6.out) (HY.out.below B_6.out) hsx hsy).mono ?_
            rw [hs2]
            rintro e w7 ⟨rfl, hB⟩
            have v7ac0 := (V0_6.out.below' hB).cell 0 rfl
            have v7ac1 := (V0_6.out.below' hB).cell 1 rfl
            have v7ac2 := (V0_6.out.below' hB).cell 2 rfl
            have V0_7 := Lib.hid (V0_6.out.below' hB)
            have v7bc0 := (V1_6.out.below' hB).cell 0 rfl
            have v7bc1 := (V1_6.out.below' hB).cell 1 rfl
            have v7bc2 := (V1_6.out.below' hB).cell 2 rfl
            have V1_7 := Lib.hid (V1_6.out.below' hB)
            have v7cc0 := (V2_6.out.below' hB).cell 0 rfl
            have v7cc1 := (V2_6.out.below' hB).cell 1 rfl
            have v7cc2 := (V2_6.out.below' hB).cell 2 rfl
            have V2_7 := Lib.hid (V2_6.out.below' hB)
            have B_7 := Lib.hid (B_6.out.trans (hB.mono B_6.out.size))
            have O1_7 := Lib.hid (O1_6.out.below hB)
            have O2_7 := Lib.hid (O2_6.out.below hB)
            clear hB
            clear hs2
            go_wp2_with fail
            refine (qcmp_q w7 p b1 P P2 A1 B1 cp cp2 c1 d1 xs ys x y (HX.out.below B_7.out) (HY.out.below B_7.out) O1_7.out O2_7.out hsx hsy (by omega) (by omega)).mono ?_
            rw [HQV.out, hs3]
            rintro e w8 ⟨rfl, hB⟩
            have v8ac0 := (V0_7.out.below' hB).cell 0 rfl
            have v8ac1 := (V0_7.out.below' hB).cell 1 rfl
            have v8ac2 := (V0_7.out.below' hB).cell 2 rfl
            have V0_8 := Lib.hid (V0_7.out.below' hB)
            have v8bc0 := (V1_7.out.below' hB).cell 0 rfl
            have v8bc1 := (V1_7.out.below' hB).cell 1 rfl
            have v8bc2 := (V1_7.out.below' hB).cell 2 rfl
            have V1_8 := Lib.hid (V1_7.out.below' hB)
            have v8cc0 := (V2_7.out.below' hB).cell 0 rfl
            have v8cc1 := (V2_7.out.below' hB).cell 1 rfl
            have v8cc2 := (V2_7.out.below' hB).cell 2 rfl
            have V2_8 := Lib.hid (V2_7.out.below' hB)
            have B_8 := Lib.hid (B_7.out.trans (hB.mono B_7.out.size))
            have O1_8 := Lib.hid (O1_7.out.below hB)
            have O2_8 := Lib.hid (O2_7.out.below hB)
            clear hB
            go_wp2_with fail
            refine (awake_ok w8).mono ?_
            rintro e w9 ⟨rfl, hB9⟩
            have HB9 := Lib.hid (B_8.out.trans (hB9.mono B_8.out.size))
            clear hB9
            go_wp2_with fail
            go_ret
            exact ⟨rfl, HB9.out⟩
        · rcases Bool.eq_false_or_eq_true (decide (0 ≤ s3)) with k3 | k3
          · go_wp2_with fail
            refine (qcmp_q w5 p q P P2 Q Q2 cp cp2 cq cq2 xs ys us vs (HX.out.below B_5.out) (HY.out.below B_5.out) (HU.out.below B_5.out) (HW.out.below B_5.out) hsx hsy hsu hsw).mono ?_
            rw [hs1]
            rintro e w6 ⟨rfl, hB⟩
            have v6ac0 := (V0_5.out.below' hB).cell 0 rfl
            have v6ac1 := (V0_5.out.below' hB).cell 1 rfl
            have v6ac2 := (V0_5.out.below' hB).cell 2 rfl
            have V0_6 := Lib.hid (V0_5.out.below' hB)
            have v6bc0 := (V1_5.out.below' hB).cell 0 rfl
            have v6bc1 := (V1_5.out.below' hB).cell 1 rfl
            have v6bc2 := (V1_5.out.below' hB).cell 2 rfl
            have V1_6 := Lib.hid (V1_5.out.below' hB)
            have v6cc0 := (V2_5.out.below' hB).cell 0 rfl
            have v6cc1 := (V2_5.out.below' hB).cell 1 rfl
            have v6cc2 := (V2_5.out.below' hB).cell 2 rfl
            have V2_6 := Lib.hid (V2_5.out.below' hB)
            have B_6 := Lib.hid (B_5.out.trans (hB.mono B_5.out.size))
            have O1_6 := Lib.hid (O1_5.out.below hB)
            have O2_6 := Lib.hid (O2_5.out.below hB)
            clear hB
            clear hs1
            go_wp2_with fail
            refine (qsign_q w6 p P P2 cp cp2 xs ys (HX.out.below B_6.out) (HY.out.below B_6.out) hsx hsy).mono ?_
            rw [hs2]
            rintro e w7 ⟨rfl, hB⟩
            have v7ac0 := (V0_6.out.below' hB).cell 0 rfl
            have v7ac1 := (V0_6.out.below' hB).cell 1 rfl
            have v7ac2 := (V0_6.out.below' hB).cell 2 rfl
            have V0_7 := Lib.hid (V0_6.out.below' hB)
            have v7bc0 := (V1_6.out.below' hB).cell 0 rfl
            have v7bc1 := (V1_6.out.below' hB).cell 1 rfl
            have v7bc2 := (V1_6.out.below' hB).cell 2 rfl
            have V1_7 := Lib.hid (V1_6.out.below' hB)
            have v7cc0 := (V2_6.out.below' hB).cell 0 rfl
            have v7cc1 := (V2_6.out.below' hB).cell 1 rfl
            have v7cc2 := (V2_6.out.below' hB).cell 2 rfl
            have V2_7 := Lib.hid (V2_6.out.below' hB)
            have B_7 := Lib.hid (B_6.out.trans (hB.mono B_6.out.size))
            have O1_7 := Lib.hid (O1_6.out.below hB)
            have O2_7 := Lib.hid (O2_6.out.below hB)
            clear hB
            clear hs2
            go_wp2_with fail
            refine (qcmp_q w7 p b1 P P2 A1 B1 cp cp2 c1 d1 xs ys x y (HX.out.below B_7.out) (HY.out.below B_7.out) O1_7.out O2_7.out hsx hsy (by omega) (by omega)).mono ?_
            rw [HQV.out, hs3]
            rintro e w8 ⟨rfl, hB⟩
            have v8ac0 := (V0_7.out.below' hB).cell 0 rfl
            have v8ac1 := (V0_7.out.below' hB).cell 1 rfl
            have v8ac2 := (V0_7.out.below' hB).cell 2 rfl
            have V0_8 := Lib.hid (V0_7.out.below' hB)
            have v8bc0 := (V1_7.out.below' hB).cell 0 rfl
            have v8bc1 := (V1_7.out.below' hB).cell 1 rfl
            have v8bc2 := (V1_7.out.below' hB).cell 2 rfl
            have V1_8 := Lib.hid (V1_7.out.below' hB)
            have v8cc0 := (V2_7.out.below' hB).cell 0 rfl
            have v8cc1 := (V2_7.out.below' hB).cell 1 rfl
            have v8cc2 := (V2_7.out.below' hB).cell 2 rfl
            have V2_8 := Lib.hid (V2_7.out.below' hB)
            have B_8 := Lib.hid (B_7.out.trans (hB.mono B_7.out.size))
            have O1_8 := Lib.hid (O1_7.out.below hB)
            have O2_8 := Lib.hid (O2_7.out.below hB)
            clear hB
            go_wp2_with fail
            refine (awake_ok w8).mono ?_
            rintro e w9 ⟨rfl, hB9⟩
            have HB9 := Lib.hid (B_8.out.trans (hB9.mono B_8.out.size))
            clear hB9
            go_wp2_with fail
            go_ret
            exact ⟨rfl, HB9.out⟩
          · go_wp2_with fail
            refine (qcmp_q w5 p q P P2 Q Q2 cp cp2 cq cq2 xs ys us vs (HX.out.below B_5.out) (HY.out.below B_5.out) (HU.out.below B_5.out) (HW.out.below B_5.out) hsx hsy hsu hsw).mono ?_
            rw [hs1]
            rintro e w6 ⟨rfl, hB⟩
            have v6ac0 := (V0_5.out.below' hB).cell 0 rfl
            have v6ac1 := (V0_5.out.below' hB).cell 1 rfl
            have v6ac2 := (V0_5.out.below' hB).cell 2 rfl
            have V0_6 := Lib.hid (V0_5.out.below' hB)
            have v6bc0 := (V1_5.out.below' hB).cell 0 rfl
            have v6bc1 := (V1_5.out.below' hB).cell 1 rfl
            have v6bc2 := (V1_5.out.below' hB).cell 2 rfl
            have V1_6 := Lib.hid (V1_5.out.below' hB)
            have v6cc0 := (V2_5.out.below' hB).cell 0 rfl
            have v6cc1 := (V2_5.out.below' hB).cell 1 rfl
            have v6cc2 := (V2_5.out.below' hB).cell 2 rfl
            have V2_6 := Lib.hid (V2_5.out.below' hB)
            have B_6 := Lib.hid (B_5.out.trans (hB.mono B_5.out.size))
            have O1_6 := Lib.hid (O1_5.out.below hB)
            have O2_6 := Lib.hid (O2_5.out.below hB)
            clear hB
            clear hs1
            go_wp2_with fail
            refine (qsign_q w6 p P P2 cp cp2 xs ys (HX.out.below B_6.out) (HY.out.below B_6.out) hsx hsy).mono ?_
            rw [hs2]
            rintro e w7 ⟨rfl, hB⟩
            have v7ac0 := (V0_6.out.below' hB).cell 0 rfl
            have v7ac1 := (V0_6.out.below' hB).cell 1 rfl
            have v7ac2 := (V0_6.out.below' hB).cell 2 rfl
            have V0_7 := Lib.hid (V0_6.out.below' hB)
            have v7bc0 := (V1_6.out.below' hB).cell 0 rfl
            have v7bc1 := (V1_6.out.below' hB).cell 1 rfl
            have v7bc2 := (V1_6.out.below' hB).cell 2 rfl
            have V1_7 := Lib.hid (V1_6.out.below' hB)
            have v7cc0 := (V2_6.out.below' hB).cell 0 rfl
            have v7cc1 := (V2_6.out.below' hB).cell 1 rfl
            have v7cc2 := (V2_6.out.below' hB).cell 2 rfl
            have V2_7 := Lib.hid (V2_6.out.below' hB)
            have B_7 := Lib.hid (B_6.out.trans (hB.mono B_6.out.size))
            have O1_7 := Lib.hid (O1_6.out.below hB)
            have O2_7 := Lib.hid (O2_6.out.below hB)
            clear hB
            clear hs2
            go_wp2_with fail
            refine (qcmp_q w7 p b1 P P2 A1 B1 cp cp2 c1 d1 xs ys x y (HX.out.below B_7.out) (HY.out.below B_7.out) O1_7.out O2_7.out hsx hsy (by omega) (by omega)).mono ?_
            rw [HQV.out, hs3]
            rintro e w8 ⟨rfl, hB⟩
            have v8ac0 := (V0_7.out.below' hB).cell 0 rfl
            have v8ac1 := (V0_7.out.below' hB).cell 1 rfl
            have v8ac2 := (V0_7.out.below' hB).cell 2 rfl
            have V0_8 := Lib.hid (V0_7.out.below' hB)
            have v8bc0 := (V1_7.out.below' hB).cell 0 rfl
            have v8bc1 := (V1_7.out.below' hB).cell 1 rfl
            have v8bc2 := (V1_7.out.below' hB).cell 2 rfl
            have V1_8 := Lib.hid (V1_7.out.below' hB)
            have v8cc0 := (V2_7.out.below' hB).cell 0 rfl
            have v8cc1 := (V2_7.out.below' hB).cell 1 rfl
            have v8cc2 := (V2_7.out.below' hB).cell 2 rfl
            have V2_8 := Lib.hid (V2_7.out.below' hB)
            have B_8 := Lib.hid (B_7.out.trans (hB.mono B_7.out.size))
            have O1_8 := Lib.hid (O1_7.out.below hB)
            have O2_8 := Lib.hid (O2_7.out.below hB)
            clear hB
            go_wp2_with fail
            refine (awake_ok w8).mono ?_
            rintro e w9 ⟨rfl, hB9⟩
            have HB9 := Lib.hid (B_8.out.trans (hB9.mono B_8.out.size))
            clear hB9
            go_wp2_with fail
            go_ret
            exact ⟨rfl, HB9.out⟩
  · have h2 : belowS d n = lcg d := by unfold belowS; rw [if_neg hA]
    have hbb := below_bound (s := d) (n := n) (by omega)
    rw [hxb] at hbb
    rw [hxb, h2]
    have e1 : decide (n < 1) = false := decide_eq_false (by omega)
    have e2 : decide (2147483648 < n) = false := decide_eq_false (by omega)
    have e3 : decide (xb < 0) = false := decide_eq_false (by omega)
    have e4 : decide (n ≤ xb) = false := decide_eq_false (by omega)
    rintro e W ⟨rfl, rfl⟩
    by_cases hC : n ≤ m ∧ m ≤ 2147483648
    · have e5 : decide (n ≤ m) = true := decide_eq_true hC.1
      have e6 : decide (m ≤ 2147483648) = true := decide_eq_true hC.2
      have e7 : decide (yb < xb) = false := decide_eq_false (by rw [← hxb, ← hyb]; have := below_mono (s := d) (by omega) hC.1 hC.2; omega)
      clear hxb hyb h2
      go_wp2_with fail
      refine (dbelow_ok W d m hm.1 hm.2).mono ?_
      rw [HM.out, HMS.out]
      rintro e W ⟨rfl, rfl⟩
      go_wp2_with fail
      refine (qof_ok W 1 1 (by omega) (by omega) (by omega) (by omega)).mono ?_
      rintro e w2 ⟨b1, A1, c1, x, B1, d1, y, rfl, HQ1, HQ2, HQ3, hr1, hr2, hB5⟩
      have hml := mk_len (n := 1) (m := 1) (by decide) (by decide) (by decide)
      have hqv : qv b1 x y = mkRat 1 1 := by rw [HQ1.out, HQ2.out, HQ3.out]; exact qv_norm _
      have hlx : x.length ≤ 2 := by rw [HQ2.out]; exact hml.1
      have hly : y.length ≤ 2 := by rw [HQ3.out]; exact hml.2
      have HQV := Lib.hid hqv
      have HB5 := Lib.hid (HBW.out.trans (hB5.mono HBW.out.size))
      have HV05 := Lib.hid (HVW0.out.below' hB5)
      have HV15 := Lib.hid (HVW1.out.below' hB5)
      have HR1 := Lib.hid hr1
      have HR2 := Lib.hid hr2
      clear hB5 hr1 hr2 hml hqv
      go_upto_region 12 with fail
      obtain ⟨T, hT⟩ : ∃ T, T = (w2.alloc (.cells #[.bool b1, .slice A1 x.length c1, .slice B1 y.length d1] 29)) := ⟨_, rfl⟩
      rw [← hT]
      have hBT : Below w2.heap.size w2 T := by rw [hT]; exact ((Below.refl _ _).alloc (Nat.le_refl _) _)
      have vT0 : Vr T (w2.heap.size) 29 #[.bool b1, .slice A1 x.length c1, .slice B1 y.length d1] := by rw [hT]; exact (Vr.new' _ _ _ (by simp only [size_alloc]))
      clear hT
      have HVT0 := Lib.hid vT0
      have HBT := Lib.hid hBT
      clear hBT vT0
      have B_3 := Lib.hid (HB5.out.trans (HBT.out.mono HB5.out.size))
      have V0_3 := Lib.hid (HV05.out.below' HBT.out)
      have V1_3 := Lib.hid (HV15.out.below' HBT.out)
      have V2_3 := HVT0
      have O1_3 := Lib.hid (HR1.out.below HBT.out)
      have O2_3 := Lib.hid (HR2.out.below HBT.out)
      clear HVW0 HVW1 HBW HV05 HV15 HB5 HR1 HR2
      obtain ⟨w3, rfl⟩ : ∃ w3, w3 = T := ⟨_, rfl⟩
      have v3ac0 := (V0_3.out).cell 0 rfl
      have v3ac1 := (V0_3.out).cell 1 rfl
      have v3ac2 := (V0_3.out).cell 2 rfl
      have v3bc0 := (V1_3.out).cell 0 rfl
      have v3bc1 := (V1_3.out).cell 1 rfl
      have v3bc2 := (V1_3.out).cell 2 rfl
      have v3cc0 := (V2_3.out).cell 0 rfl
      have v3cc1 := (V2_3.out).cell 1 rfl
      have v3cc2 := (V2_3.out).cell 2 rfl
      go_wp2_with fail
      refine (dchance_ok w3 d p P P2 cp cp2 xs ys (HX.out.below B_3.out) (HY.out.below B_3.out) hsx hsy).mono ?_
      rw [HCA.out]
      rintro e w4 ⟨rfl, hB⟩
      have v4ac0 := (V0_3.out.below' hB).cell 0 rfl
      have v4ac1 := (V0_3.out.below' hB).cell 1 rfl
      have v4ac2 := (V0_3.out.below' hB).cell 2 rfl
      have V0_4 := Lib.hid (V0_3.out.below' hB)
      have v4bc0 := (V1_3.out.below' hB).cell 0 rfl
      have v4bc1 := (V1_3.out.below' hB).cell 1 rfl
      have v4bc2 := (V1_3.out.below' hB).cell 2 rfl
      have V1_4 := Lib.hid (V1_3.out.below' hB)
      have v4cc0 := (V2_3.out.below' hB).cell 0 rfl
      have v4cc1 := (V2_3.out.below' hB).cell 1 rfl
      have v4cc2 := (V2_3.out.below' hB).cell 2 rfl
      have V2_4 := Lib.hid (V2_3.out.below' hB)
      have B_4 := Lib.hid (B_3.out.trans (hB.mono B_3.out.size))
      have O1_4 := Lib.hid (O1_3.out.below hB)
      have O2_4 := Lib.hid (O2_3.out.below hB)
      clear hB
      go_wp2_with fail
      refine (dchance_ok w4 d q Q Q2 cq cq2 us vs (HU.out.below B_4.out) (HW.out.below B_4.out) hsu hsw).mono ?_
      rw [HCB.out]
      rintro e w5 ⟨rfl, hB⟩
      have v5ac0 := (V0_4.out.below' hB).cell 0 rfl
      have v5ac1 := (V0_4.out.below' hB).cell 1 rfl
      have v5ac2 := (V0_4.out.below' hB).cell 2 rfl
      have V0_5 := Lib.hid (V0_4.out.below' hB)
      have v5bc0 := (V1_4.out.below' hB).cell 0 rfl
      have v5bc1 := (V1_4.out.below' hB).cell 1 rfl
      have v5bc2 := (V1_4.out.below' hB).cell 2 rfl
      have V1_5 := Lib.hid (V1_4.out.below' hB)
      have v5cc0 := (V2_4.out.below' hB).cell 0 rfl
      have v5cc1 := (V2_4.out.below' hB).cell 1 rfl
      have v5cc2 := (V2_4.out.below' hB).cell 2 rfl
      have V2_5 := Lib.hid (V2_4.out.below' hB)
      have B_5 := Lib.hid (B_4.out.trans (hB.mono B_4.out.size))
      have O1_5 := Lib.hid (O1_4.out.below hB)
      have O2_5 := Lib.hid (O2_4.out.below hB)
      clear hB
      cases a
      · -- the event is off
        have hs3 : cmpQ (qv p xs ys) (mkRat 1 1) = -1 := by
          have h : ¬ mkRat (hi d) 4294967296 < qv p xs ys := by
            have h := HCA.out
            unfold chance at h
            exact of_decide_eq_false h
          unfold cmpQ
          rw [if_pos (by have := (hi_rat d).2; have := Rat.not_lt.1 h; grind)]
        obtain ⟨s2, hs2⟩ : ∃ s2, cmpQ (qv p xs ys) 0 = s2 := ⟨_, rfl⟩
        rcases Bool.eq_false_or_eq_true (decide (s2 ≤ 0)) with k | k
        · go_wp2_with fail
          refine (qsign_q w5 p P P2 cp cp2 xs ys (HX.out.below B_5.out) (HY.out.below B_5.out) hsx hsy).mono ?_
          rw [hs2]
          rintro e w6 ⟨rfl, hB⟩
          have v6ac0 := (V0_5.out.below' hB).cell 0 rfl
          have v6ac1 := (V0_5.out.below' hB).cell 1 rfl
          have v6ac2 := (V0_5.out.below' hB).cell 2 rfl
          have V0_6 := Lib.hid (V0_5.out.below' hB)
          have v6bc0 := (V1_5.out.below' hB).cell 0 rfl
          have v6bc1 := (V1_5.out.below' hB).cell 1 rfl
          have v6bc2 := (V1_5.out.below' hB).cell 2 rfl
          have V1_6 := Lib.hid (V1_5.out.below' hB)
          have v6cc0 := (V2_5.out.below' hB).cell 0 rfl
          have v6cc1 := (V2_5.out.below' hB).cell 1 rfl
          have v6cc2 := (V2_5.out.below' hB).cell 2 rfl
          have V2_6 := Lib.hid (V2_5.out.below' hB)
          have B_6 := Lib.hid (B_5.out.trans (hB.mono B_5.out.size))
          have O1_6 := Lib.hid (O1_5.out.below hB)
          have O2_6 := Lib.hid (O2_5.out.below hB)
          clear hB
          clear hs2
          go_wp2_with fail
          refine (qcmp_q w6 p b1 P P2 A1 B1 cp cp2 c1 d1 xs ys x y (HX.out.below B_6.out) (HY.out.below B_6.out) O1_6.out O2_6.out hsx hsy (by omega) (by omega)).mono ?_
          rw [HQV.out, hs3]
          rintro e w7 ⟨rfl, hB⟩
          have v7ac0 := (V0_6.out.below' hB).cell 0 rfl
          have v7ac1 := (V0_6.out.below' hB).cell 1 rfl
          have v7ac2 := (V0_6.out.below' hB).cell 2 rfl
          have V0_7 := Lib.hid (V0_6.out.below' hB)
          have v7bc0 := (V1_6.out.below' hB).cell 0 rfl
          have v7bc1 := (V1_6.out.below' hB).cell 1 rfl
          have v7bc2 := (V1_6.out.below' hB).cell 2 rfl
          have V1_7 := Lib.hid (V1_6.out.below' hB)
          have v7cc0 := (V2_6.out.below' hB).cell 0 rfl
          have v7cc1 := (V2_6.out.below' hB).cell 1 rfl
          have v7cc2 := (V2_6.out.below' hB).cell 2 rfl
          have V2_7 := Lib.hid (V2_6.out.below' hB)
          have B_7 := Lib.hid (B_6.out.trans (hB.mono B_6.out.size))
          have O1_7 := Lib.hid (O1_6.out.below hB)
          have O2_7 := Lib.hid (O2_6.out.below hB)
          clear hB
          go_wp2_with fail
          refine (awake_ok w7).mono ?_
          rintro e w9 ⟨rfl, hB9⟩
          have HB9 := Lib.hid (B_7.out.trans (hB9.mono B_7.out.size))
          clear hB9
          go_wp2_with fail
          go_ret
          exact ⟨rfl, HB9.out⟩
        · go_wp2_with fail
          refine (qsign_q w5 p P P2 cp cp2 xs ys (HX.out.below B_5.out) (HY.out.below B_5.out) hsx hsy).mono ?_
          rw [hs2]
          rintro e w6 ⟨rfl, hB⟩
          have v6ac0 := (V0_5.out.below' hB).cell 0 rfl
          have v6ac1 := (V0_5.out.below' hB).cell 1 rfl
          have v6ac2 := (V0_5.out.below' hB).cell 2 rfl
          have V0_6 := Lib.hid (V0_5.out.below' hB)
          have v6bc0 := (V1_5.out.below' hB).cell 0 rfl
          have v6bc1 := (V1_5.out.below' hB).cell 1 rfl
          have v6bc2 := (V1_5.out.below' hB).cell 2 rfl
          have V1_6 := Lib.hid (V1_5.out.below' hB)
          have v6cc0 := (V2_5.out.below' hB).cell 0 rfl
          have v6cc1 := (V2_5.out.below' hB).cell 1 rfl
          have v6cc2 := (V2_5.out.below' hB).cell 2 rfl
          have V2_6 := Lib.hid (V2_5.out.below' hB)
          have B_6 := Lib.hid (B_5.out.trans (hB.mono B_5.out.size))
          have O1_6 := Lib.hid (O1_5.out.below hB)
          have O2_6 := Lib.hid (O2_5.out.below hB)
          clear hB
          clear hs2
          go_wp2_with fail
          refine (qcmp_q w6 p b1 P P2 A1 B1 cp cp2 c1 d1 xs ys x y (HX.out.below B_6.out) (HY.out.below B_6.out) O1_6.out O2_6.out hsx hsy (by omega) (by omega)).mono ?_
          rw [HQV.out, hs3]
          rintro e w7 ⟨rfl, hB⟩
          have v7ac0 := (V0_6.out.below' hB).cell 0 rfl
          have v7ac1 := (V0_6.out.below' hB).cell 1 rfl
          have v7ac2 := (V0_6.out.below' hB).cell 2 rfl
          have V0_7 := Lib.hid (V0_6.out.below' hB)
          have v7bc0 := (V1_6.out.below' hB).cell 0 rfl
          have v7bc1 := (V1_6.out.below' hB).cell 1 rfl
          have v7bc2 := (V1_6.out.below' hB).cell 2 rfl
          have V1_7 := Lib.hid (V1_6.out.below' hB)
          have v7cc0 := (V2_6.out.below' hB).cell 0 rfl
          have v7cc1 := (V2_6.out.below' hB).cell 1 rfl
          have v7cc2 := (V2_6.out.below' hB).cell 2 rfl
          have V2_7 := Lib.hid (V2_6.out.below' hB)
          have B_7 := Lib.hid (B_6.out.trans (hB.mono B_6.out.size))
          have O1_7 := Lib.hid (O1_6.out.below hB)
          have O2_7 := Lib.hid (O2_6.out.below hB)
          clear hB
          go_wp2_with fail
          refine (awake_ok w7).mono ?_
          rintro e w9 ⟨rfl, hB9⟩
          have HB9 := Lib.hid (B_7.out.trans (hB9.mono B_7.out.size))
          clear hB9
          go_wp2_with fail
          go_ret
          exact ⟨rfl, HB9.out⟩
      · have hp : mkRat (hi d) 4294967296 < qv p xs ys := by
          have h := HCA.out
          unfold chance at h
          exact of_decide_eq_true h
        have HP := Lib.hid hp
        clear hp
        obtain ⟨s1, hs1⟩ : ∃ s1, cmpQ (qv p xs ys) (qv q us vs) = s1 := ⟨_, rfl⟩
        obtain ⟨s2, hs2⟩ : ∃ s2, cmpQ (qv p xs ys) 0 = s2 := ⟨_, rfl⟩
        obtain ⟨s3, hs3⟩ : ∃ s3, cmpQ (qv p xs ys) (mkRat 1 1) = s3 := ⟨_, rfl⟩
        have k2 : decide (s2 ≤ 0) = false := decide_eq_false (by
          rw [← hs2, cmpQ_le]
          intro h
          have := (hi_rat d).1
          have := HP.out
          grind)
        rcases Bool.eq_false_or_eq_true (decide (s1 ≤ 0)) with k1 | k1
        · have hb : bq = true := by
            rw [← HCB.out]
            unfold chance
            have h1 := of_decide_eq_true k1
            rw [← hs1, cmpQ_le] at h1
            have := HP.out
            exact decide_eq_true (by grind)
          subst hb
          rcases Bool.eq_false_or_eq_true (decide (0 ≤ s3)) with k3 | k3
          · go_wp2_with fail
            refine (qcmp_q w5 p q P P2 Q Q2 cp cp2 cq cq2 xs ys us vs (HX.out.below B_5.out) (HY.out.below B_5.out) (HU.out.below B_5.out) (HW.out.below B_5.out) hsx hsy hsu hsw).mono ?_
            rw [hs1]
            rintro e w6 ⟨rfl, hB⟩
            have v6ac0 := (V0_5.out.below' hB).cell 0 rfl
            have v6ac1 := (V0_5.out.below' hB).cell 1 rfl
            have v6ac2 := (V0_5.out.below' hB).cell 2 rfl
            have V0_6 := Lib.hid (V0_5.out.below' hB)
            have v6bc0 := (V1_5.out.below' hB).cell 0 rfl
            have v6bc1 := (V1_5.out.below' hB).cell 1 rfl
            have v6bc2 := (V1_5.out.below' hB).cell 2 rfl
            have V1_6 := Lib.hid (V1_5.out.below' hB)
            have v6cc0 := (V2_5.out.below' hB).cell 0 rfl
            have v6cc1 := (V2_5.out.below' hB).cell 1 rfl
            have v6cc2 := (V2_5.out.below' hB).cell 2 rfl
            have V2_6 := Lib.hid (V2_5.out.below' hB)
            have B_6 := Lib.hid (B_5.out.trans (hB.mono B_5.out.size))
            have O1_6 := Lib.hid (O1_5.out.below hB)
            have O2_6 := Lib.hid (O2_5.out.below hB)
            clear hB
            clear hs1
            go_wp2_with fail
            refine (qsign_q w6 p P P2 cp cp2 xs ys (HX.out.below B_6.out) (HY.out.below B_6.out) hsx hsy).mono ?_
            rw [hs2]
            rintro e w7 ⟨rfl, hB⟩
            have v7ac0 := (V0_6.out.below' hB).cell 0 rfl
            have v7ac1 := (V0_6.out.below' hB).cell 1 rfl
            have v7ac2 := (V0_6.out.below' hB).cell 2 rfl
            have V0_7 := Lib.hid (V0_6.out.below' hB)
            have v7bc0 := (V1_6.out.below' hB).cell 0 rfl
            have v7bc1 := (V1_6.out.below' hB).cell 1 rfl
            have v7bc2 := (V1_6.out.below' hB).cell 2 rfl
            have V1_7 := Lib.hid (V1_6.out.below' hB)
            have v7cc0 := (V2_6.out.below' hB).cell 0 rfl
            have v7cc1 := (V2_6.out.below' hB).cell 1 rfl
            have v7cc2 := (V2_6.out.below' hB).cell 2 rfl
            have V2_7 := Lib.hid (V2_6.out.below' hB)
            have B_7 := Lib.hid (B_6.out.trans (hB.mono B_6.out.size))
            have O1_7 := Lib.hid (O1_6.out.below hB)
            have O2_7 := Lib.hid (O2_6.out.below hB)
            clear hB
            clear hs2
            go_wp2_with fail
            refine (qcmp_q w7 p b1 P P2 A1 B1 cp cp2 c1 d1 xs ys x y (HX.out.below B_7.out) (HY.out.below B_7.out) O1_7.out O2_7.out hsx hsy (by omega) (by omega)).mono ?_
            rw [HQV.out, hs3]
            rintro e w8 ⟨rfl, hB⟩
            have v8ac0 := (V0_7.out.below' hB).cell 0 rfl
            have v8ac1 := (V0_7.out.below' hB).cell 1 rfl
            have v8ac2 := (V0_7.out.below' hB).cell 2 rfl
            have V0_8 := Lib.hid (V0_7.out.below' hB)
            have v8bc0 := (V1_7.out.below' hB).cell 0 rfl
            have v8bc1 := (V1_7.out.below' hB).cell 1 rfl
            have v8bc2 := (V1_7.out.below' hB).cell 2 rfl
            have V1_8 := Lib.hid (V1_7.out.below' hB)
            have v8cc0 := (V2_7.out.below' hB).cell 0 rfl
            have v8cc1 := (V2_7.out.below' hB).cell 1 rfl
            have v8cc2 := (V2_7.out.below' hB).cell 2 rfl
            have V2_8 := Lib.hid (V2_7.out.below' hB)
            have B_8 := Lib.hid (B_7.out.trans (hB.mono B_7.out.size))
            have O1_8 := Lib.hid (O1_7.out.below hB)
            have O2_8 := Lib.hid (O2_7.out.below hB)
            clear hB
            go_wp2_with fail
            refine (awake_ok w8).mono ?_
            rintro e w9 ⟨rfl, hB9⟩
            have HB9 := Lib.hid (B_8.out.trans (hB9.mono B_8.out.size))
            clear hB9
            go_wp2_with fail
            go_ret
            exact ⟨rfl, HB9.out⟩
          · go_wp2_with fail
            refine (qcmp_q w5 p q P P2 Q Q2 cp cp2 cq cq2 xs ys us vs (HX.out.below B_5.out) (HY.out.below B_5.out) (HU.out.below B_5.out) (HW.out.below B_5.out) hsx hsy hsu hsw).mono ?_
            rw [hs1]
            rintro e w6 ⟨rfl, hB⟩
            have v6ac0 := (V0_5.out.below' hB).cell 0 rfl
            have v6ac1 := (V0_5.out.below' hB).cell 1 rfl
            have v6ac2 := (V0_5.out.below' hB).cell 2 rfl
            have V0_6 := Lib.hid (V0_5.out.below' hB)
            have v6bc0 := (V1_5.out.below' hB).cell 0 rfl
            have v6bc1 := (V1_5.out.below' hB).cell 1 rfl
            have v6bc2 := (V1_5.out.below' hB).cell 2 rfl
            have V1_6 := Lib.hid (V1_5.out.below' hB)
            have v6cc0 := (V2_5.out.below' hB).cell 0 rfl
            have v6cc1 := (V2_5.out.below' hB).cell 1 rfl
            have v6cc2 := (V2_5.out.below' hB).cell 2 rfl
            have V2_6 := Lib.hid (V2_5.out.below' hB)
            have B_6 := Lib.hid (B_5.out.trans (hB.mono B_5.out.size))
            have O1_6 := Lib.hid (O1_5.out.below hB)
            have O2_6 := Lib.hid (O2_5.out.below hB)
            clear hB
            clear hs1
            go_wp2_with fail
            refine (qsign_q w6 p P P2 cp cp2 xs ys (HX.out.below B_6.out) (HY.out.below B_6.out) hsx hsy).mono ?_
            rw [hs2]
            rintro e w7 ⟨rfl, hB⟩
            have v7ac0 := (V0_6.out.below' hB).cell 0 rfl
            have v7ac1 := (V0_6.out.below' hB).cell 1 rfl
            have v7ac2 := (V0_6.out.below' hB).cell 2 rfl
            have V0_7 := Lib.hid (V0_6.out.below' hB)
            have v7bc0 := (V1_6.out.below' hB).cell 0 rfl
            have v7bc1 := (V1_6.out.below' hB).cell 1 rfl
            have v7bc2 := (V1_6.out.below' hB).cell 2 rfl
            have V1_7 := Lib.hid (V1_6.out.below' hB)
            have v7cc0 := (V2_6.out.below' hB).cell 0 rfl
            have v7cc1 := (V2_6.out.below' hB).cell 1 rfl
            have v7cc2 := (V2_6.out.below' hB).cell 2 rfl
            have V2_7 := Lib.hid (V2_6.out.below' hB)
            have B_7 := Lib.hid (B_6.out.trans (hB.mono B_6.out.size))
            have O1_7 := Lib.hid (O1_6.out.below hB)
            have O2_7 := Lib.hid (O2_6.out.below hB)
            clear hB
            clear hs2
            go_wp2_with fail
            refine (qcmp_q w7 p b1 P P2 A1 B1 cp cp2 c1 d1 xs ys x y (HX.out.below B_7.out) (HY.out.below B_7.out) O1_7.out O2_7.out hsx hsy (by omega) (by omega)).mono ?_
            rw [HQV.out, hs3]
            rintro e w8 ⟨rfl, hB⟩
            have v8ac0 := (V0_7.out.below' hB).cell 0 rfl
            have v8ac1 := (V0_7.out.below' hB).cell 1 rfl
            have v8ac2 := (V0_7.out.below' hB).cell 2 rfl
            have V0_8 := Lib.hid (V0_7.out.below' hB)
            have v8bc0 := (V1_7.out.below' hB).cell 0 rfl
            have v8bc1 := (V1_7.out.below' hB).cell 1 rfl
            have v8bc2 := (V1_7.out.below' hB).cell 2 rfl
            have V1_8 := Lib.hid (V1_7.out.below' hB)
            have v8cc0 := (V2_7.out.below' hB).cell 0 rfl
            have v8cc1 := (V2_7.out.below' hB).cell 1 rfl
            have v8cc2 := (V2_7.out.below' hB).cell 2 rfl
            have V2_8 := Lib.hid (V2_7.out.below' hB)
            have B_8 := Lib.hid (B_7.out.trans (hB.mono B_7.out.size))
            have O1_8 := Lib.hid (O1_7.out.below hB)
            have O2_8 := Lib.hid (O2_7.out.below hB)
            clear hB
            go_wp2_with fail
            refine (awake_ok w8).mono ?_
            rintro e w9 ⟨rfl, hB9⟩
            have HB9 := Lib.hid (B_8.out.trans (hB9.mono B_8.out.size))
            clear hB9
            go_wp2_with fail
            go_ret
            exact ⟨rfl, HB9.out⟩
        · rcases Bool.eq_false_or_eq_true (decide (0 ≤ s3)) with k3 | k3
          · go_wp2_with fail
            refine (qcmp_q w5 p q P P2 Q Q2 cp cp2 cq cq2 xs ys us vs (HX.out.below B_5.out) (HY.out.below B_5.out) (HU.out.below B_5.out) (HW.out.below B_5.out) hsx hsy hsu hsw).mono ?_
            rw [hs1]
            rintro e w6 ⟨rfl, hB⟩
            have v6ac0 := (V0_5.out.below' hB).cell 0 rfl
            have v6ac1 := (V0_5.out.below' hB).cell 1 rfl
            have v6ac2 := (V0_5.out.below' hB).cell 2 rfl
            have V0_6 := Lib.hid (V0_5.out.below' hB)
            have v6bc0 := (V1_5.out.below' hB).cell 0 rfl
            have v6bc1 := (V1_5.out.below' hB).cell 1 rfl
            have v6bc2 := (V1_5.out.below' hB).cell 2 rfl
            have V1_6 := Lib.hid (V1_5.out.below' hB)
            have v6cc0 := (V2_5.out.below' hB).cell 0 rfl
            have v6cc1 := (V2_5.out.below' hB).cell 1 rfl
            have v6cc2 := (V2_5.out.below' hB).cell 2 rfl
            have V2_6 := Lib.hid (V2_5.out.below' hB)
            have B_6 := Lib.hid (B_5.out.trans (hB.mono B_5.out.size))
            have O1_6 := Lib.hid (O1_5.out.below hB)
            have O2_6 := Lib.hid (O2_5.out.below hB)
            clear hB
            clear hs1
            go_wp2_with fail
            refine (qsign_q w6 p P P2 cp cp2 xs ys (HX.out.below B_6.out) (HY.out.below B_6.out) hsx hsy).mono ?_
            rw [hs2]
            rintro e w7 ⟨rfl, hB⟩
            have v7ac0 := (V0_6.out.below' hB).cell 0 rfl
            have v7ac1 := (V0_6.out.below' hB).cell 1 rfl
            have v7ac2 := (V0_6.out.below' hB).cell 2 rfl
            have V0_7 := Lib.hid (V0_6.out.below' hB)
            have v7bc0 := (V1_6.out.below' hB).cell 0 rfl
            have v7bc1 := (V1_6.out.below' hB).cell 1 rfl
            have v7bc2 := (V1_6.out.below' hB).cell 2 rfl
            have V1_7 := Lib.hid (V1_6.out.below' hB)
            have v7cc0 := (V2_6.out.below' hB).cell 0 rfl
            have v7cc1 := (V2_6.out.below' hB).cell 1 rfl
            have v7cc2 := (V2_6.out.below' hB).cell 2 rfl
            have V2_7 := Lib.hid (V2_6.out.below' hB)
            have B_7 := Lib.hid (B_6.out.trans (hB.mono B_6.out.size))
            have O1_7 := Lib.hid (O1_6.out.below hB)
            have O2_7 := Lib.hid (O2_6.out.below hB)
            clear hB
            clear hs2
            go_wp2_with fail
            refine (qcmp_q w7 p b1 P P2 A1 B1 cp cp2 c1 d1 xs ys x y (HX.out.below B_7.out) (HY.out.below B_7.out) O1_7.out O2_7.out hsx hsy (by omega) (by omega)).mono ?_
            rw [HQV.out, hs3]
            rintro e w8 ⟨rfl, hB⟩
            have v8ac0 := (V0_7.out.below' hB).cell 0 rfl
            have v8ac1 := (V0_7.out.below' hB).cell 1 rfl
            have v8ac2 := (V0_7.out.below' hB).cell 2 rfl
            have V0_8 := Lib.hid (V0_7.out.below' hB)
            have v8bc0 := (V1_7.out.below' hB).cell 0 rfl
            have v8bc1 := (V1_7.out.below' hB).cell 1 rfl
            have v8bc2 := (V1_7.out.below' hB).cell 2 rfl
            have V1_8 := Lib.hid (V1_7.out.below' hB)
            have v8cc0 := (V2_7.out.below' hB).cell 0 rfl
            have v8cc1 := (V2_7.out.below' hB).cell 1 rfl
            have v8cc2 := (V2_7.out.below' hB).cell 2 rfl
            have V2_8 := Lib.hid (V2_7.out.below' hB)
            have B_8 := Lib.hid (B_7.out.trans (hB.mono B_7.out.size))
            have O1_8 := Lib.hid (O1_7.out.below hB)
            have O2_8 := Lib.hid (O2_7.out.below hB)
            clear hB
            go_wp2_with fail
            refine (awake_ok w8).mono ?_
            rintro e w9 ⟨rfl, hB9⟩
            have HB9 := Lib.hid (B_8.out.trans (hB9.mono B_8.out.size))
            clear hB9
            go_wp2_with fail
            go_ret
            exact ⟨rfl, HB9.out⟩
          · go_wp2_with fail
            refine (qcmp_q w5 p q P P2 Q Q2 cp cp2 cq cq2 xs ys us vs (HX.out.below B_5.out) (HY.out.below B_5.out) (HU.out.below B_5.out) (HW.out.below B_5.out) hsx hsy hsu hsw).mono ?_
            rw [hs1]
            rintro e w6 ⟨rfl, hB⟩
            have v6ac0 := (V0_5.out.below' hB).cell 0 rfl
            have v6ac1 := (V0_5.out.below' hB).cell 1 rfl
            have v6ac2 := (V0_5.out.below' hB).cell 2 rfl
            have V0_6 := Lib.hid (V0_5.out.below' hB)
            have v6bc0 := (V1_5.out.below' hB).cell 0 rfl
            have v6bc1 := (V1_5.out.below' hB).cell 1 rfl
            have v6bc2 := (V1_5.out.below' hB).cell 2 rfl
            have V1_6 := Lib.hid (V1_5.out.below' hB)
            have v6cc0 := (V2_5.out.below' hB).cell 0 rfl
            have v6cc1 := (V2_5.out.below' hB).cell 1 rfl
            have v6cc2 := (V2_5.out.below' hB).cell 2 rfl
            have V2_6 := Lib.hid (V2_5.out.below' hB)
            have B_6 := Lib.hid (B_5.out.trans (hB.mono B_5.out.size))
            have O1_6 := Lib.hid (O1_5.out.below hB)
            have O2_6 := Lib.hid (O2_5.out.below hB)
            clear hB
            clear hs1
            go_wp2_with fail
            refine (qsign_q w6 p P P2 cp cp2 xs ys (HX.out.below B_6.out) (HY.out.below B_6.out) hsx hsy).mono ?_
            rw [hs2]
            rintro e w7 ⟨rfl, hB⟩
            have v7ac0 := (V0_6.out.below' hB).cell 0 rfl
            have v7ac1 := (V0_6.out.below' hB).cell 1 rfl
            have v7ac2 := (V0_6.out.below' hB).cell 2 rfl
            have V0_7 := Lib.hid (V0_6.out.below' hB)
            have v7bc0 := (V1_6.out.below' hB).cell 0 rfl
            have v7bc1 := (V1_6.out.below' hB).cell 1 rfl
            have v7bc2 := (V1_6.out.below' hB).cell 2 rfl
            have V1_7 := Lib.hid (V1_6.out.below' hB)
            have v7cc0 := (V2_6.out.below' hB).cell 0 rfl
            have v7cc1 := (V2_6.out.below' hB).cell 1 rfl
            have v7cc2 := (V2_6.out.below' hB).cell 2 rfl
            have V2_7 := Lib.hid (V2_6.out.below' hB)
            have B_7 := Lib.hid (B_6.out.trans (hB.mono B_6.out.size))
            have O1_7 := Lib.hid (O1_6.out.below hB)
            have O2_7 := Lib.hid (O2_6.out.below hB)
            clear hB
            clear hs2
            go_wp2_with fail
            refine (qcmp_q w7 p b1 P P2 A1 B1 cp cp2 c1 d1 xs ys x y (HX.out.below B_7.out) (HY.out.below B_7.out) O1_7.out O2_7.out hsx hsy (by omega) (by omega)).mono ?_
            rw [HQV.out, hs3]
            rintro e w8 ⟨rfl, hB⟩
            have v8ac0 := (V0_7.out.below' hB).cell 0 rfl
            have v8ac1 := (V0_7.out.below' hB).cell 1 rfl
            have v8ac2 := (V0_7.out.below' hB).cell 2 rfl
            have V0_8 := Lib.hid (V0_7.out.below' hB)
            have v8bc0 := (V1_7.out.below' hB).cell 0 rfl
            have v8bc1 := (V1_7.out.below' hB).cell 1 rfl
            have v8bc2 := (V1_7.out.below' hB).cell 2 rfl
            have V1_8 := Lib.hid (V1_7.out.below' hB)
            have v8cc0 := (V2_7.out.below' hB).cell 0 rfl
            have v8cc1 := (V2_7.out.below' hB).cell 1 rfl
            have v8cc2 := (V2_7.out.below' hB).cell 2 rfl
            have V2_8 := Lib.hid (V2_7.out.below' hB)
            have B_8 := Lib.hid (B_7.out.trans (hB.mono B_7.out.size))
            have O1_8 := Lib.hid (O1_7.out.below hB)
            have O2_8 := Lib.hid (O2_7.out.below hB)
            clear hB
            go_wp2_with fail
            refine (awake_ok w8).mono ?_
            rintro e w9 ⟨rfl, hB9⟩
            have HB9 := Lib.hid (B_8.out.trans (hB9.mono B_8.out.size))
            clear hB9
            go_wp2_with fail
            go_ret
            exact ⟨rfl, HB9.out⟩
    · clear hxb hyb h2
      go_wp2_with fail
      refine (dbelow_ok W d m hm.1 hm.2).mono ?_
      rw [HM.out, HMS.out]
      rintro e W ⟨rfl, rfl⟩
      rcases (show m < n ∨ (n ≤ m ∧ 2147483648 < m) by omega) with hD | ⟨hD1, hD⟩
      · have e5 : decide (n ≤ m) = false := decide_eq_false (by omega)
        go_wp2_with fail
        refine (qof_ok W 1 1 (by omega) (by omega) (by omega) (by omega)).mono ?_
        rintro e w2 ⟨b1, A1, c1, x, B1, d1, y, rfl, HQ1, HQ2, HQ3, hr1, hr2, hB5⟩
        have hml := mk_len (n := 1) (m := 1) (by decide) (by decide) (by decide)
        have hqv : qv b1 x y = mkRat 1 1 := by rw [HQ1.out, HQ2.out, HQ3.out]; exact qv_norm _
        have hlx : x.length ≤ 2 := by rw [HQ2.out]; exact hml.1
        have hly : y.length ≤ 2 := by rw [HQ3.out]; exact hml.2
        have HQV := Lib.hid hqv
        have HB5 := Lib.hid (HBW.out.trans (hB5.mono HBW.out.size))
        have HV05 := Lib.hid (HVW0.out.below' hB5)
        have HV15 := Lib.hid (HVW1.out.below' hB5)
        have HR1 := Lib.hid hr1
        have HR2 := Lib.hid hr2
        clear hB5 hr1 hr2 hml hqv
        go_upto_region 12 with fail
        obtain ⟨T, hT⟩ : ∃ T, T = (w2.alloc (.cells #[.bool b1, .slice A1 x.length c1, .slice B1 y.length d1] 29)) := ⟨_, rfl⟩
        rw [← hT]
        have hBT : Below w2.heap.size w2 T := by rw [hT]; exact ((Below.refl _ _).alloc (Nat.le_refl _) _)
        have vT0 : Vr T (w2.heap.size) 29 #[.bool b1, .slice A1 x.length c1, .slice B1 y.length d1] := by rw [hT]; exact (Vr.new' _ _ _ (by simp only [size_alloc]))
        clear hT
        have HVT0 := Lib.hid vT0
        have HBT := Lib.hid hBT
        clear hBT vT0
        have B_3 := Lib.hid (HB5.out.trans (HBT.out.mono HB5.out.size))
        have V0_3 := Lib.hid (HV05.out.below' HBT.out)
        have V1_3 := Lib.hid (HV15.out.below' HBT.out)
        have V2_3 := HVT0
        have O1_3 := Lib.hid (HR1.out.below HBT.out)
        have O2_3 := Lib.hid (HR2.out.below HBT.out)
        clear HVW0 HVW1 HBW HV05 HV15 HB5 HR1 HR2
        obtain ⟨w3, rfl⟩ : ∃ w3, w3 = T := ⟨_, rfl⟩
        have v3ac0 := (V0_3.out).cell 0 rfl
        have v3ac1 := (V0_3.out).cell 1 rfl
        have v3ac2 := (V0_3.out).cell 2 rfl
        have v3bc0 := (V1_3.out).cell 0 rfl
        have v3bc1 := (V1_3.out).cell 1 rfl
        have v3bc2 := (V1_3.out).cell 2 rfl
        have v3cc0 := (V2_3.out).cell 0 rfl
        have v3cc1 := (V2_3.out).cell 1 rfl
        have v3cc2 := (V2_3.out).cell 2 rfl
        go_wp2_with fail
        refine (dchance_ok w3 d p P P2 cp cp2 xs ys (HX.out.below B_3.out) (HY.out.below B_3.out) hsx hsy).mono ?_
        rw [HCA.out]
        rintro e w4 ⟨rfl, hB⟩
        have v4ac0 := (V0_3.out.below' hB).cell 0 rfl
        have v4ac1 := (V0_3.out.below' hB).cell 1 rfl
        have v4ac2 := (V0_3.out.below' hB).cell 2 rfl
        have V0_4 := Lib.hid (V0_3.out.below' hB)
        have v4bc0 := (V1_3.out.below' hB).cell 0 rfl
        have v4bc1 := (V1_3.out.below' hB).cell 1 rfl
        have v4bc2 := (V1_3.out.below' hB).cell 2 rfl
        have V1_4 := Lib.hid (V1_3.out.below' hB)
        have v4cc0 := (V2_3.out.below' hB).cell 0 rfl
        have v4cc1 := (V2_3.out.below' hB).cell 1 rfl
        have v4cc2 := (V2_3.out.below' hB).cell 2 rfl
        have V2_4 := Lib.hid (V2_3.out.below' hB)
        have B_4 := Lib.hid (B_3.out.trans (hB.mono B_3.out.size))
        have O1_4 := Lib.hid (O1_3.out.below hB)
        have O2_4 := Lib.hid (O2_3.out.below hB)
        clear hB
        go_wp2_with fail
        refine (dchance_ok w4 d q Q Q2 cq cq2 us vs (HU.out.below B_4.out) (HW.out.below B_4.out) hsu hsw).mono ?_
        rw [HCB.out]
        rintro e w5 ⟨rfl, hB⟩
        have v5ac0 := (V0_4.out.below' hB).cell 0 rfl
        have v5ac1 := (V0_4.out.below' hB).cell 1 rfl
        have v5ac2 := (V0_4.out.below' hB).cell 2 rfl
        have V0_5 := Lib.hid (V0_4.out.below' hB)
        have v5bc0 := (V1_4.out.below' hB).cell 0 rfl
        have v5bc1 := (V1_4.out.below' hB).cell 1 rfl
        have v5bc2 := (V1_4.out.below' hB).cell 2 rfl
        have V1_5 := Lib.hid (V1_4.out.below' hB)
        have v5cc0 := (V2_4.out.below' hB).cell 0 rfl
        have v5cc1 := (V2_4.out.below' hB).cell 1 rfl
        have v5cc2 := (V2_4.out.below' hB).cell 2 rfl
        have V2_5 := Lib.hid (V2_4.out.below' hB)
        have B_5 := Lib.hid (B_4.out.trans (hB.mono B_4.out.size))
        have O1_5 := Lib.hid (O1_4.out.below hB)
        have O2_5 := Lib.hid (O2_4.out.below hB)
        clear hB
        cases a
        · -- the event is off
          have hs3 : cmpQ (qv p xs ys) (mkRat 1 1) = -1 := by
            have h : ¬ mkRat (hi d) 4294967296 < qv p xs ys := by
              have h := HCA.out
              unfold chance at h
              exact of_decide_eq_false h
            unfold cmpQ
            rw [if_pos (by have := (hi_rat d).2; have := Rat.not_lt.1 h; grind)]
          obtain ⟨s2, hs2⟩ : ∃ s2, cmpQ (qv p xs ys) 0 = s2 := ⟨_, rfl⟩
          rcases Bool.eq_false_or_eq_true (decide (s2 ≤ 0)) with k | k
          · go_wp2_with fail
            refine (qsign_q w5 p P P2 cp cp2 xs ys (HX.out.below B_5.out) (HY.out.below B_5.out) hsx hsy).mono ?_
            rw [hs2]
            rintro e w6 ⟨rfl, hB⟩
            have v6ac0 := (V0_5.out.below' hB).cell 0 rfl
            have v6ac1 := (V0_5.out.below' hB).cell 1 rfl
            have v6ac2 := (V0_5.out.below' hB).cell 2 rfl
            have V0_6 := Lib.hid (V0_5.out.below' hB)
            have v6bc0 := (V1_5.out.below' hB).cell 0 rfl
            have v6bc1 := (V1_5.out.below' hB).cell 1 rfl
            have v6bc2 := (V1_5.out.below' hB).cell 2 rfl
            have V1_6 := Lib.hid (V1_5.out.below' hB)
            have v6cc0 := (V2_5.out.below' hB).cell 0 rfl
            have v6cc1 := (V2_5.out.below' hB).cell 1 rfl
            have v6cc2 := (V2_5.out.below' hB).cell 2 rfl
            have V2_6 := Lib.hid (V2_5.out.below' hB)
            have B_6 := Lib.hid (B_5.out.trans (hB.mono B_5.out.size))
            have O1_6 := Lib.hid (O1_5.out.below hB)
            have O2_6 := Lib.hid (O2_5.out.below hB)
            clear hB
            clear hs2
            go_wp2_with fail
            refine (qcmp_q w6 p b1 P P2 A1 B1 cp cp2 c1 d1 xs ys x y (HX.out.below B_6.out) (HY.out.below B_6.out) O1_6.out O2_6.out hsx hsy (by omega) (by omega)).mono ?_
            rw [HQV.out, hs3]
            rintro e w7 ⟨rfl, hB⟩
            have v7ac0 := (V0_6.out.below' hB).cell 0 rfl
            have v7ac1 := (V0_6.out.below' hB).cell 1 rfl
            have v7ac2 := (V0_6.out.below' hB).cell 2 rfl
            have V0_7 := Lib.hid (V0_6.out.below' hB)
            have v7bc0 := (V1_6.out.below' hB).cell 0 rfl
            have v7bc1 := (V1_6.out.below' hB).cell 1 rfl
            have v7bc2 := (V1_6.out.below' hB).cell 2 rfl
            have V1_7 := Lib.hid (V1_6.out.below' hB)
            have v7cc0 := (V2_6.out.below' hB).cell 0 rfl
            have v7cc1 := (V2_6.out.below' hB).cell 1 rfl
            have v7cc2 := (V2_6.out.below' hB).cell 2 rfl
            have V2_7 := Lib.hid (V2_6.out.below' hB)
            have B_7 := Lib.hid (B_6.out.trans (hB.mono B_6.out.size))
            have O1_7 := Lib.hid (O1_6.out.below hB)
            have O2_7 := Lib.hid (O2_6.out.below hB)
            clear hB
            go_wp2_with fail
            refine (awake_ok w7).mono ?_
            rintro e w9 ⟨rfl, hB9⟩
            have HB9 := Lib.hid (B_7.out.trans (hB9.mono B_7.out.size))
            clear hB9
            go_wp2_with fail
            go_ret
            exact ⟨rfl, HB9.out⟩
          · go_wp2_with fail
            refine (qsign_q w5 p P P2 cp cp2 xs ys (HX.out.below B_5.out) (HY.out.below B_5.out) hsx hsy).mono ?_
            rw [hs2]
            rintro e w6 ⟨rfl, hB⟩
            have v6ac0 := (V0_5.out.below' hB).cell 0 rfl
            have v6ac1 := (V0_5.out.below' hB).cell 1 rfl
            have v6ac2 := (V0_5.out.below' hB).cell 2 rfl
            have V0_6 := Lib.hid (V0_5.out.below' hB)
            have v6bc0 := (V1_5.out.below' hB).cell 0 rfl
            have v6bc1 := (V1_5.out.below' hB).cell 1 rfl
            have v6bc2 := (V1_5.out.below' hB).cell 2 rfl
            have V1_6 := Lib.hid (V1_5.out.below' hB)
            have v6cc0 := (V2_5.out.below' hB).cell 0 rfl
            have v6cc1 := (V2_5.out.below' hB).cell 1 rfl
            have v6cc2 := (V2_5.out.below' hB).cell 2 rfl
            have V2_6 := Lib.hid (V2_5.out.below' hB)
            have B_6 := Lib.hid (B_5.out.trans (hB.mono B_5.out.size))
            have O1_6 := Lib.hid (O1_5.out.below hB)
            have O2_6 := Lib.hid (O2_5.out.below hB)
            clear hB
            clear hs2
            go_wp2_with fail
            refine (qcmp_q w6 p b1 P P2 A1 B1 cp cp2 c1 d1 xs ys x y (HX.out.below B_6.out) (HY.out.below B_6.out) O1_6.out O2_6.out hsx hsy (by omega) (by omega)).mono ?_
            rw [HQV.out, hs3]
            rintro e w7 ⟨rfl, hB⟩
            have v7ac0 := (V0_6.out.below' hB).cell 0 rfl
            have v7ac1 := (V0_6.out.below' hB).cell 1 rfl
            have v7ac2 := (V0_6.out.below' hB).cell 2 rfl
            have V0_7 := Lib.hid (V0_6.out.below' hB)
            have v7bc0 := (V1_6.out.below' hB).cell 0 rfl
            have v7bc1 := (V1_6.out.below' hB).cell 1 rfl
            have v7bc2 := (V1_6.out.below' hB).cell 2 rfl
            have V1_7 := Lib.hid (V1_6.out.below' hB)
            have v7cc0 := (V2_6.out.below' hB).cell 0 rfl
            have v7cc1 := (V2_6.out.below' hB).cell 1 rfl
            have v7cc2 := (V2_6.out.below' hB).cell 2 rfl
            have V2_7 := Lib.hid (V2_6.out.below' hB)
            have B_7 := Lib.hid (B_6.out.trans (hB.mono B_6.out.size))
            have O1_7 := Lib.hid (O1_6.out.below hB)
            have O2_7 := Lib.hid (O2_6.out.below hB)
            clear hB
            go_wp2_with fail
            refine (awake_ok w7).mono ?_
            rintro e w9 ⟨rfl, hB9⟩
            have HB9 := Lib.hid (B_7.out.trans (hB9.mono B_7.out.size))
            clear hB9
            go_wp2_with fail
            go_ret
            exact ⟨rfl, HB9.out⟩
        · have hp : mkRat (hi d) 4294967296 < qv p xs ys := by
            have h := HCA.out
            unfold chance at h
            exact of_decide_eq_true h
          have HP := Lib.hid hp
          clear hp
          obtain ⟨s1, hs1⟩ : ∃ s1, cmpQ (qv p xs ys) (qv q us vs) = s1 := ⟨_, rfl⟩
          obtain ⟨s2, hs2⟩ : ∃ s2, cmpQ (qv p xs ys) 0 = s2 := ⟨_, rfl⟩
          obtain ⟨s3, hs3⟩ : ∃ s3, cmpQ (qv p xs ys) (mkRat 1 1) = s3 := ⟨_, rfl⟩
          have k2 : decide (s2 ≤ 0) = false := decide_eq_false (by
            rw [← hs2, cmpQ_le]
            intro h
            have := (hi_rat d).1
            have := HP.out
            grind)
          rcases Bool.eq_false_or_eq_true (decide (s1 ≤ 0)) with k1 | k1
          · have hb : bq = true := by
              rw [← HCB.out]
              unfold chance
              have h1 := of_decide_eq_true k1
              rw [← hs1, cmpQ_le] at h1
              have := HP.out
              exact decide_eq_true (by grind)
            subst hb
            rcases Bool.eq_false_or_eq_true (decide (0 ≤ s3)) with k3 | k3
            · go_wp2_with fail
              refine (qcmp_q w5 p q P P2 Q Q2 cp cp2 cq cq2 xs ys us vs (HX.out.below B_5.out) (HY.out.below B_5.out) (HU.out.below B_5.out) (HW.out.below B_5.out) hsx hsy hsu hsw).mono ?_
              rw [hs1]
              rintro e w6 ⟨rfl, hB⟩
              have v6ac0 := (V0_5.out.below' hB).cell 0 rfl
              have v6ac1 := (V0_5.out.below' hB).cell 1 rfl
              have v6ac2 := (V0_5.out.below' hB).cell 2 rfl
              have V0_6 := Lib.hid (V0_5.out.below' hB)
              have v6bc0 := (V1_5.out.below' hB).cell 0 rfl
              have v6bc1 := (V1_5.out.below' hB).cell 1 rfl
              have v6bc2 := (V1_5.out.below' hB).cell 2 rfl
              have V1_6 := Lib.hid (V1_5.out.below' hB)
              have v6cc0 := (V2_5.out.below' hB).cell 0 rfl
              have v6cc1 := (V2_5.out.below' hB).cell 1 rfl
              have v6cc2 := (V2_5.out.below' hB).cell 2 rfl
              have V2_6 := Lib.hid (V2_5.out.below' hB)
              have B_6 := Lib.hid (B_5.out.trans (hB.mono B_5.out.size))
              have O1_6 := Lib.hid (O1_5.out.below hB)
              have O2_6 := Lib.hid (O2_5.out.below hB)
              clear hB
              clear hs1
              go_wp2_with fail
              refine (qsign_q w6 p P P2 cp cp2 xs ys (HX.out.below B_6.out) (HY.out.below B_6.out) hsx hsy).mono ?_
              rw [hs2]
              rintro e w7 ⟨rfl, hB⟩
              have v7ac0 := (V0_6.out.below' hB).cell 0 rfl
              have v7ac1 := (V0_6.out.below' hB).cell 1 rfl
              have v7ac2 := (V0_6.out.below' hB).cell 2 rfl
              have V0_7 := Lib.hid (V0_6.out.below' hB)
              have v7bc0 := (V1_6.out.below' hB).cell 0 rfl
              have v7bc1 := (V1_6.out.below' hB).cell 1 rfl
              have v7bc2 := (V1_6.out.below' hB).cell 2 rfl
              have V1_7 := Lib.hid (V1_6.out.below' hB)
              have v7cc0 := (V2_6.out.below' hB).cell 0 rfl
              have v7cc1 := (V2_6.out.below' hB).cell 1 rfl
              have v7cc2 := (V2_6.out.below' hB).cell 2 rfl
              have V2_7 := Lib.hid (V2_6.out.below' hB)
              have B_7 := Lib.hid (B_6.out.trans (hB.mono B_6.out.size))
              have O1_7 := Lib.hid (O1_6.out.below hB)
              have O2_7 := Lib.hid (O2_6.out.below hB)
              clear hB
              clear hs2
              go_wp2_with fail
              refine (qcmp_q w7 p b1 P P2 A1 B1 cp cp2 c1 d1 xs ys x y (HX.out.below B_7.out) (HY.out.below B_7.out) O1_7.out O2_7.out hsx hsy (by omega) (by omega)).mono ?_
              rw [HQV.out, hs3]
              rintro e w8 ⟨rfl, hB⟩
              have v8ac0 := (V0_7.out.below' hB).cell 0 rfl
              have v8ac1 := (V0_7.out.below' hB).cell 1 rfl
              have v8ac2 := (V0_7.out.below' hB).cell 2 rfl
              have V0_8 := Lib.hid (V0_7.out.below' hB)
              have v8bc0 := (V1_7.out.below' hB).cell 0 rfl
              have v8bc1 := (V1_7.out.below' hB).cell 1 rfl
              have v8bc2 := (V1_7.out.below' hB).cell 2 rfl
              have V1_8 := Lib.hid (V1_7.out.below' hB)
              have v8cc0 := (V2_7.out.below' hB).cell 0 rfl
              have v8cc1 := (V2_7.out.below' hB).cell 1 rfl
              have v8cc2 := (V2_7.out.below' hB).cell 2 rfl
              have V2_8 := Lib.hid (V2_7.out.below' hB)
              have B_8 := Lib.hid (B_7.out.trans (hB.mono B_7.out.size))
              have O1_8 := Lib.hid (O1_7.out.below hB)
              have O2_8 := Lib.hid (O2_7.out.below hB)
              clear hB
              go_wp2_with fail
              refine (awake_ok w8).mono ?_
              rintro e w9 ⟨rfl, hB9⟩
              have HB9 := Lib.hid (B_8.out.trans (hB9.mono B_8.out.size))
              clear hB9
              go_wp2_with fail
              go_ret
              exact ⟨rfl, HB9.out⟩
            · go_wp2_with fail
              refine (qcmp_q w5 p q P P2 Q Q2 cp cp2 cq cq2 xs ys us vs (HX.out.below B_5.out) (HY.out.below B_5.out) (HU.out.below B_5.out) (HW.out.below B_5.out) hsx hsy hsu hsw).mono ?_
              rw [hs1]
              rintro e w6 ⟨rfl, hB⟩
              have v6ac0 := (V0_5.out.below' hB).cell 0 rfl
              have v6ac1 := (V0_5.out.below' hB).cell 1 rfl
              have v6ac2 := (V0_5.out.below' hB).cell 2 rfl
              have V0_6 := Lib.hid (V0_5.out.below' hB)
              have v6bc0 := (V1_5.out.below' hB).cell 0 rfl
              have v6bc1 := (V1_5.out.below' hB).cell 1 rfl
              have v6bc2 := (V1_5.out.below' hB).cell 2 rfl
              have V1_6 := Lib.hid (V1_5.out.below' hB)
              have v6cc0 := (V2_5.out.below' hB).cell 0 rfl
              have v6cc1 := (V2_5.out.below' hB).cell 1 rfl
              have v6cc2 := (V2_5.out.below' hB).cell 2 rfl
              have V2_6 := Lib.hid (V2_5.out.below' hB)
              have B_6 := Lib.hid (B_5.out.trans (hB.mono B_5.out.size))
              have O1_6 := Lib.hid (O1_5.out.below hB)
              have O2_6 := Lib.hid (O2_5.out.below hB)
              clear hB
              clear hs1
              go_wp2_with fail
              refine (qsign_q w6 p P P2 cp cp2 xs ys (HX.out.below B_6.out) (HY.out.below B_6.out) hsx hsy).mono ?_
              rw [hs2]
              rintro e w7 ⟨rfl, hB⟩
              have v7ac0 := (V0_6.out.below' hB).cell 0 rfl
              have v7ac1 := (V0_6.out.below' hB).cell 1 rfl
              have v7ac2 := (V0_6.out.below' hB).cell 2 rfl
              have V0_7 := Lib.hid (V0_6.out.below' hB)
              have v7bc0 := (V1_6.out.below' hB).cell 0 rfl
              have v7bc1 := (V1_6.out.below' hB).cell 1 rfl
              have v7bc2 := (V1_6.out.below' hB).cell 2 rfl
              have V1_7 := Lib.hid (V1_6.out.below' hB)
              have v7cc0 := (V2_6.out.below' hB).cell 0 rfl
              have v7cc1 := (V2_6.out.below' hB).cell 1 rfl
              have v7cc2 := (V2_6.out.below' hB).cell 2 rfl
              have V2_7 := Lib.hid (V2_6.out.below' hB)
              have B_7 := Lib.hid (B_6.out.trans (hB.mono B_6.out.size))
              have O1_7 := Lib.hid (O1_6.out.below hB)
              have O2_7 := Lib.hid (O2_6.out.below hB)
              clear hB
              clear hs2
              go_wp2_with fail
              refine (qcmp_q w7 p b1 P P2 A1 B1 cp cp2 c1 d1 xs ys x y (HX.out.below B_7.out) (HY.out.below B_7.out) O1_7.out O2_7.out hsx hsy (by omega) (by omega)).mono ?_
              rw [HQV.out, hs3]
              rintro e w8 ⟨rfl, hB⟩
              have v8ac0 := (V0_7.out.below' hB).cell 0 rfl
              have v8ac1 := (V0_7.out.below' hB).cell 1 rfl
              have v8ac2 := (V0_7.out.below' hB).cell 2 rfl
              have V0_8 := Lib.hid (V0_7.out.below' hB)
              have v8bc0 := (V1_7.out.below' hB).cell 0 rfl
              have v8bc1 := (V1_7.out.below' hB).cell 1 rfl
              have v8bc2 := (V1_7.out.below' hB).cell 2 rfl
              have V1_8 := Lib.hid (V1_7.out.below' hB)
              have v8cc0 := (V2_7.out.below' hB).cell 0 rfl
              have v8cc1 := (V2_7.out.below' hB).cell 1 rfl
              have v8cc2 := (V2_7.out.below' hB).cell 2 rfl
              have V2_8 := Lib.hid (V2_7.out.below' hB)
              have B_8 := Lib.hid (B_7.out.trans (hB.mono B_7.out.size))
              have O1_8 := Lib.hid (O1_7.out.below hB)
              have O2_8 := Lib.hid (O2_7.out.below hB)
              clear hB
              go_wp2_with fail
              refine (awake_ok w8).mono ?_
              rintro e w9 ⟨rfl, hB9⟩
              have HB9 := Lib.hid (B_8.out.trans (hB9.mono B_8.out.size))
              clear hB9
              go_wp2_with fail
              go_ret
              exact ⟨rfl, HB9.out⟩
          · rcases Bool.eq_false_or_eq_true (decide (0 ≤ s3)) with k3 | k3
            · go_wp2_with fail
              refine (qcmp_q w5 p q P P2 Q Q2 cp cp2 cq cq2 xs ys us vs (HX.out.below B_5.out) (HY.out.below B_5.out) (HU.out.below B_5.out) (HW.out.below B_5.out) hsx hsy hsu hsw).mono ?_
              rw [hs1]
              rintro e w6 ⟨rfl, hB⟩
              have v6ac0 := (V0_5.out.below' hB).cell 0 rfl
              have v6ac1 := (V0_5.out.below' hB).cell 1 rfl
              have v6ac2 := (V0_5.out.below' hB).cell 2 rfl
              have V0_6 := Lib.hid (V0_5.out.below' hB)
              have v6bc0 := (V1_5.out.below' hB).cell 0 rfl
              have v6bc1 := (V1_5.out.below' hB).cell 1 rfl
              have v6bc2 := (V1_5.out.below' hB).cell 2 rfl
              have V1_6 := Lib.hid (V1_5.out.below' hB)
              have v6cc0 := (V2_5.out.below' hB).cell 0 rfl
              have v6cc1 := (V2_5.out.below' hB).cell 1 rfl
              have v6cc2 := (V2_5.out.below' hB).cell 2 rfl
              have V2_6 := Lib.hid (V2_5.out.below' hB)
              have B_6 := Lib.hid (B_5.out.trans (hB.mono B_5.out.size))
              have O1_6 := Lib.hid (O1_5.out.below hB)
              have O2_6 := Lib.hid (O2_5.out.below hB)
              clear hB
              clear hs1
              go_wp2_with fail
              refine (qsign_q w6 p P P2 cp cp2 xs ys (HX.out.below B_6.out) (HY.out.below B_6.out) hsx hsy).mono ?_
              rw [hs2]
              rintro e w7 ⟨rfl, hB⟩
              have v7ac0 := (V0_6.out.below' hB).cell 0 rfl
              have v7ac1 := (V0_6.out.below' hB).cell 1 rfl
              have v7ac2 := (V0_6.out.below' hB).cell 2 rfl
              have V0_7 := Lib.hid (V0_6.out.below' hB)
              have v7bc0 := (V1_6.out.below' hB).cell 0 rfl
              have v7bc1 := (V1_6.out.below' hB).cell 1 rfl
              have v7bc2 := (V1_6.out.below' hB).cell 2 rfl
              have V1_7 := Lib.hid (V1_6.out.below' hB)
              have v7cc0 := (V2_6.out.below' hB).cell 0 rfl
              have v7cc1 := (V2_6.out.below' hB).cell 1 rfl
              have v7cc2 := (V2_6.out.below' hB).cell 2 rfl
              have V2_7 := Lib.hid (V2_6.out.below' hB)
              have B_7 := Lib.hid (B_6.out.trans (hB.mono B_6.out.size))
              have O1_7 := Lib.hid (O1_6.out.below hB)
              have O2_7 := Lib.hid (O2_6.out.below hB)
              clear hB
              clear hs2
              go_wp2_with fail
              refine (qcmp_q w7 p b1 P P2 A1 B1 cp cp2 c1 d1 xs ys x y (HX.out.below B_7.out) (HY.out.below B_7.out) O1_7.out O2_7.out hsx hsy (by omega) (by omega)).mono ?_
              rw [HQV.out, hs3]
              rintro e w8 ⟨rfl, hB⟩
              have v8ac0 := (V0_7.out.below' hB).cell 0 rfl
              have v8ac1 := (V0_7.out.below' hB).cell 1 rfl
              have v8ac2 := (V0_7.out.below' hB).cell 2 rfl
              have V0_8 := Lib.hid (V0_7.out.below' hB)
              have v8bc0 := (V1_7.out.below' hB).cell 0 rfl
              have v8bc1 := (V1_7.out.below' hB).cell 1 rfl
              have v8bc2 := (V1_7.out.below' hB).cell 2 rfl
              have V1_8 := Lib.hid (V1_7.out.below' hB)
              have v8cc0 := (V2_7.out.below' hB).cell 0 rfl
              have v8cc1 := (V2_7.out.below' hB).cell 1 rfl
              have v8cc2 := (V2_7.out.below' hB).cell 2 rfl
              have V2_8 := Lib.hid (V2_7.out.below' hB)
              have B_8 := Lib.hid (B_7.out.trans (hB.mono B_7.out.size))
              have O1_8 := Lib.hid (O1_7.out.below hB)
              have O2_8 := Lib.hid (O2_7.out.below hB)
              clear hB
              go_wp2_with fail
              refine (awake_ok w8).mono ?_
              rintro e w9 ⟨rfl, hB9⟩
              have HB9 := Lib.hid (B_8.out.trans (hB9.mono B_8.out.size))
              clear hB9
              go_wp2_with fail
              go_ret
              exact ⟨rfl, HB9.out⟩
            · go_wp2_with fail
              refine (qcmp_q w5 p q P P2 Q Q2 cp cp2 cq cq2 xs ys us vs (HX.out.below B_5.out) (HY.out.below B_5.out) (HU.out.below B_5.out) (HW.out.below B_5.out) hsx hsy hsu hsw).mono ?_
              rw [hs1]
              rintro e w6 ⟨rfl, hB⟩
              have v6ac0 := (V0_5.out.below' hB).cell 0 rfl
              have v6ac1 := (V0_5.out.below' hB).cell 1 rfl
              have v6ac2 := (V0_5.out.below' hB).cell 2 rfl
              have V0_6 := Lib.hid (V0_5.out.below' hB)
              have v6bc0 := (V1_5.out.below' hB).cell 0 rfl
              have v6bc1 := (V1_5.out.below' hB).cell 1 rfl
              have v6bc2 := (V1_5.out.below' hB).cell 2 rfl
              have V1_6 := Lib.hid (V1_5.out.below' hB)
              have v6cc0 := (V2_5.out.below' hB).cell 0 rfl
              have v6cc1 := (V2_5.out.below' hB).cell 1 rfl
              have v6cc2 := (V2_5.out.below' hB).cell 2 rfl
              have V2_6 := Lib.hid (V2_5.out.below' hB)
              have B_6 := Lib.hid (B_5.out.trans (hB.mono B_5.out.size))
              have O1_6 := Lib.hid (O1_5.out.below hB)
              have O2_6 := Lib.hid (O2_5.out.below hB)
              clear hB
              clear hs1
              go_wp2_with fail
              refine (qsign_q w6 p P P2 cp cp2 xs ys (HX.out.below B_6.out) (HY.out.below B_6.out) hsx hsy).mono ?_
              rw [hs2]
              rintro e w7 ⟨rfl, hB⟩
              have v7ac0 := (V0_6.out.below' hB).cell 0 rfl
              have v7ac1 := (V0_6.out.below' hB).cell 1 rfl
              have v7ac2 := (V0_6.out.below' hB).cell 2 rfl
              have V0_7 := Lib.hid (V0_6.out.below' hB)
              have v7bc0 := (V1_6.out.below' hB).cell 0 rfl
              have v7bc1 := (V1_6.out.below' hB).cell 1 rfl
              have v7bc2 := (V1_6.out.below' hB).cell 2 rfl
              have V1_7 := Lib.hid (V1_6.out.below' hB)
              have v7cc0 := (V2_6.out.below' hB).cell 0 rfl
              have v7cc1 := (V2_6.out.below' hB).cell 1 rfl
              have v7cc2 := (V2_6.out.below' hB).cell 2 rfl
              have V2_7 := Lib.hid (V2_6.out.below' hB)
              have B_7 := Lib.hid (B_6.out.trans (hB.mono B_6.out.size))
              have O1_7 := Lib.hid (O1_6.out.below hB)
              have O2_7 := Lib.hid (O2_6.out.below hB)
              clear hB
              clear hs2
              go_wp2_with fail
              refine (qcmp_q w7 p b1 P P2 A1 B1 cp cp2 c1 d1 xs ys x y (HX.out.below B_7.out) (HY.out.below B_7.out) O1_7.out O2_7.out hsx hsy (by omega) (by omega)).mono ?_
              rw [HQV.out, hs3]
              rintro e w8 ⟨rfl, hB⟩
              have v8ac0 := (V0_7.out.below' hB).cell 0 rfl
              have v8ac1 := (V0_7.out.below' hB).cell 1 rfl
              have v8ac2 := (V0_7.out.below' hB).cell 2 rfl
              have V0_8 := Lib.hid (V0_7.out.below' hB)
              have v8bc0 := (V1_7.out.below' hB).cell 0 rfl
              have v8bc1 := (V1_7.out.below' hB).cell 1 rfl
              have v8bc2 := (V1_7.out.below' hB).cell 2 rfl
              have V1_8 := Lib.hid (V1_7.out.below' hB)
              have v8cc0 := (V2_7.out.below' hB).cell 0 rfl
              have v8cc1 := (V2_7.out.below' hB).cell 1 rfl
              have v8cc2 := (V2_7.out.below' hB).cell 2 rfl
              have V2_8 := Lib.hid (V2_7.out.below' hB)
              have B_8 := Lib.hid (B_7.out.trans (hB.mono B_7.out.size))
              have O1_8 := Lib.hid (O1_7.out.below hB)
              have O2_8 := Lib.hid (O2_7.out.below hB)
              clear hB
              go_wp2_with fail
              refine (awake_ok w8).mono ?_
              rintro e w9 ⟨rfl, hB9⟩
              have HB9 := Lib.hid (B_8.out.trans (hB9.mono B_8.out.size))
              clear hB9
              go_wp2_with fail
              go_ret
              exact ⟨rfl, HB9.out⟩
      · have e5 : decide (n ≤ m) = true := decide_eq_true hD1
        have e6 : decide (m ≤ 2147483648) = false := decide_eq_false (by omega)
        go_wp2_with fail
        refine (qof_ok W 1 1 (by omega) (by omega) (by omega) (by omega)).mono ?_
        rintro e w2 ⟨b1, A1, c1, x, B1, d1, y, rfl, HQ1, HQ2, HQ3, hr1, hr2, hB5⟩
        have hml := mk_len (n := 1) (m := 1) (by decide) (by decide) (by decide)
        have hqv : qv b1 x y = mkRat 1 1 := by rw [HQ1.out, HQ2.out, HQ3.out]; exact qv_norm _
        have hlx : x.length ≤ 2 := by rw [HQ2.out]; exact hml.1
        have hly : y.length ≤ 2 := by rw [HQ3.out]; exact hml.2
        have HQV := Lib.hid hqv
        have HB5 := Lib.hid (HBW.out.trans (hB5.mono HBW.out.size))
        have HV05 := Lib.hid (HVW0.out.below' hB5)
        have HV15 := Lib.hid (HVW1.out.below' hB5)
        have HR1 := Lib.hid hr1
        have HR2 := Lib.hid hr2
        clear hB5 hr1 hr2 hml hqv
        go_upto_region 12 with fail
        obtain ⟨T, hT⟩ : ∃ T, T = (w2.alloc (.cells #[.bool b1, .slice A1 x.length c1, .slice B1 y.length d1] 29)) := ⟨_, rfl⟩
        rw [← hT]
        have hBT : Below w2.heap.size w2 T := by rw [hT]; exact ((Below.refl _ _).alloc (Nat.le_refl _) _)
        have vT0 : Vr T (w2.heap.size) 29 #[.bool b1, .slice A1 x.length c1, .slice B1 y.length d1] := by rw [hT]; exact (Vr.new' _ _ _ (by simp only [size_alloc]))
        clear hT
        have HVT0 := Lib.hid vT0
        have HBT := Lib.hid hBT
        clear hBT vT0
        have B_3 := Lib.hid (HB5.out.trans (HBT.out.mono HB5.out.size))
        have V0_3 := Lib.hid (HV05.out.below' HBT.out)
        have V1_3 := Lib.hid (HV15.out.below' HBT.out)
        have V2_3 := HVT0
        have O1_3 := Lib.hid (HR1.out.below HBT.out)
        have O2_3 := Lib.hid (HR2.out.below HBT.out)
        clear HVW0 HVW1 HBW HV05 HV15 HB5 HR1 HR2
        obtain ⟨w3, rfl⟩ : ∃ w3, w3 = T := ⟨_, rfl⟩
        have v3ac0 := (V0_3.out).cell 0 rfl
        have v3ac1 := (V0_3.out).cell 1 rfl
        have v3ac2 := (V0_3.out).cell 2 rfl
        have v3bc0 := (V1_3.out).cell 0 rfl
        have v3bc1 := (V1_3.out).cell 1 rfl
        have v3bc2 := (V1_3.out).cell 2 rfl
        have v3cc0 := (V2_3.out).cell 0 rfl
        have v3cc1 := (V2_3.out).cell 1 rfl
        have v3cc2 := (V2_3.out).cell 2 rfl
        go_wp2_with fail
        refine (dchance_ok w3 d p P P2 cp cp2 xs ys (HX.out.below B_3.out) (HY.out.below B_3.out) hsx hsy).mono ?_
        rw [HCA.out]
        rintro e w4 ⟨rfl, hB⟩
        have v4ac0 := (V0_3.out.below' hB).cell 0 rfl
        have v4ac1 := (V0_3.out.below' hB).cell 1 rfl
        have v4ac2 := (V0_3.out.below' hB).cell 2 rfl
        have V0_4 := Lib.hid (V0_3.out.below' hB)
        have v4bc0 := (V1_3.out.below' hB).cell 0 rfl
        have v4bc1 := (V1_3.out.below' hB).cell 1 rfl
        have v4bc2 := (V1_3.out.below' hB).cell 2 rfl
        have V1_4 := Lib.hid (V1_3.out.below' hB)
        have v4cc0 := (V2_3.out.below' hB).cell 0 rfl
        have v4cc1 := (V2_3.out.below' hB).cell 1 rfl
        have v4cc2 := (V2_3.out.below' hB).cell 2 rfl
        have V2_4 := Lib.hid (V2_3.out.below' hB)
        have B_4 := Lib.hid (B_3.out.trans (hB.mono B_3.out.size))
        have O1_4 := Lib.hid (O1_3.out.below hB)
        have O2_4 := Lib.hid (O2_3.out.below hB)
        clear hB
        go_wp2_with fail
        refine (dchance_ok w4 d q Q Q2 cq cq2 us vs (HU.out.below B_4.out) (HW.out.below B_4.out) hsu hsw).mono ?_
        rw [HCB.out]
        rintro e w5 ⟨rfl, hB⟩
        have v5ac0 := (V0_4.out.below' hB).cell 0 rfl
        have v5ac1 := (V0_4.out.below' hB).cell 1 rfl
        have v5ac2 := (V0_4.out.below' hB).cell 2 rfl
        have V0_5 := Lib.hid (V0_4.out.below' hB)
        have v5bc0 := (V1_4.out.below' hB).cell 0 rfl
        have v5bc1 := (V1_4.out.below' hB).cell 1 rfl
        have v5bc2 := (V1_4.out.below' hB).cell 2 rfl
        have V1_5 := Lib.hid (V1_4.out.below' hB)
        have v5cc0 := (V2_4.out.below' hB).cell 0 rfl
        have v5cc1 := (V2_4.out.below' hB).cell 1 rfl
        have v5cc2 := (V2_4.out.below' hB).cell 2 rfl
        have V2_5 := Lib.hid (V2_4.out.below' hB)
        have B_5 := Lib.hid (B_4.out.trans (hB.mono B_4.out.size))
        have O1_5 := Lib.hid (O1_4.out.below hB)
        have O2_5 := Lib.hid (O2_4.out.below hB)
        clear hB
        cases a
        · -- the event is off
          have hs3 : cmpQ (qv p xs ys) (mkRat 1 1) = -1 := by
            have h : ¬ mkRat (hi d) 4294967296 < qv p xs ys := by
              have h := HCA.out
              unfold chance at h
              exact of_decide_eq_false h
            unfold cmpQ
            rw [if_pos (by have := (hi_rat d).2; have := Rat.not_lt.1 h; grind)]
          obtain ⟨s2, hs2⟩ : ∃ s2, cmpQ (qv p xs ys) 0 = s2 := ⟨_, rfl⟩
          rcases Bool.eq_false_or_eq_true (decide (s2 ≤ 0)) with k | k
          · go_wp2_with fail
            refine (qsign_q w5 p P P2 cp cp2 xs ys (HX.out.below B_5.out) (HY.out.below B_5.out) hsx hsy).mono ?_
            rw [hs2]
            rintro e w6 ⟨rfl, hB⟩
            have v6ac0 := (V0_5.out.below' hB).cell 0 rfl
            have v6ac1 := (V0_5.out.below' hB).cell 1 rfl
            have v6ac2 := (V0_5.out.below' hB).cell 2 rfl
            have V0_6 := Lib.hid (V0_5.out.below' hB)
            have v6bc0 := (V1_5.out.below' hB).cell 0 rfl
            have v6bc1 := (V1_5.out.below' hB).cell 1 rfl
            have v6bc2 := (V1_5.out.below' hB).cell 2 rfl
            have V1_6 := Lib.hid (V1_5.out.below' hB)
            have v6cc0 := (V2_5.out.below' hB).cell 0 rfl
            have v6cc1 := (V2_5.out.below' hB).cell 1 rfl
            have v6cc2 := (V2_5.out.below' hB).cell 2 rfl
            have V2_6 := Lib.hid (V2_5.out.below' hB)
            have B_6 := Lib.hid (B_5.out.trans (hB.mono B_5.out.size))
            have O1_6 := Lib.hid (O1_5.out.below hB)
            have O2_6 := Lib.hid (O2_5.out.below hB)
            clear hB
            clear hs2
            go_wp2_with fail
            refine (qcmp_q w6 p b1 P P2 A1 B1 cp cp2 c1 d1 xs ys x y (HX.out.below B_6.out) (HY.out.below B_6.out) O1_6.out O2_6.out hsx hsy (by omega) (by omega)).mono ?_
            rw [HQV.out, hs3]
            rintro e w7 ⟨rfl, hB⟩
            have v7ac0 := (V0_6.out.below' hB).cell 0 rfl
            have v7ac1 := (V0_6.out.below' hB).cell 1 rfl
            have v7ac2 := (V0_6.out.below' hB).cell 2 rfl
            have V0_7 := Lib.hid (V0_6.out.below' hB)
            have v7bc0 := (V1_6.out.below' hB).cell 0 rfl
            have v7bc1 := (V1_6.out.below' hB).cell 1 rfl
            have v7bc2 := (V1_6.out.below' hB).cell 2 rfl
            have V1_7 := Lib.hid (V1_6.out.below' hB)
            have v7cc0 := (V2_6.out.below' hB).cell 0 rfl
            have v7cc1 := (V2_6.out.below' hB).cell 1 rfl
            have v7cc2 := (V2_6.out.below' hB).cell 2 rfl
            have V2_7 := Lib.hid (V2_6.out.below' hB)
            have B_7 := Lib.hid (B_6.out.trans (hB.mono B_6.out.size))
            have O1_7 := Lib.hid (O1_6.out.below hB)
            have O2_7 := Lib.hid (O2_6.out.below hB)
            clear hB
            go_wp2_with fail
            refine (awake_ok w7).mono ?_
            rintro e w9 ⟨rfl, hB9⟩
            have HB9 := Lib.hid (B_7.out.trans (hB9.mono B_7.out.size))
            clear hB9
            go_wp2_with fail
            go_ret
            exact ⟨rfl, HB9.out⟩
          · go_wp2_with fail
            refine (qsign_q w5 p P P2 cp cp2 xs ys (HX.out.below B_5.out) (HY.out.below B_5.out) hsx hsy).mono ?_
            rw [hs2]
            rintro e w6 ⟨rfl, hB⟩
            have v6ac0 := (V0_5.out.below' hB).cell 0 rfl
            have v6ac1 := (V0_5.out.below' hB).cell 1 rfl
            have v6ac2 := (V0_5.out.below' hB).cell 2 rfl
            have V0_6 := Lib.hid (V0_5.out.below' hB)
            have v6bc0 := (V1_5.out.below' hB).cell 0 rfl
            have v6bc1 := (V1_5.out.below' hB).cell 1 rfl
            have v6bc2 := (V1_5.out.below' hB).cell 2 rfl
            have V1_6 := Lib.hid (V1_5.out.below' hB)
            have v6cc0 := (V2_5.out.below' hB).cell 0 rfl
            have v6cc1 := (V2_5.out.below' hB).cell 1 rfl
            have v6cc2 := (V2_5.out.below' hB).cell 2 rfl
            have V2_6 := Lib.hid (V2_5.out.below' hB)
            have B_6 := Lib.hid (B_5.out.trans (hB.mono B_5.out.size))
            have O1_6 := Lib.hid (O1_5.out.below hB)
            have O2_6 := Lib.hid (O2_5.out.below hB)
            clear hB
            clear hs2
            go_wp2_with fail
            refine (qcmp_q w6 p b1 P P2 A1 B1 cp cp2 c1 d1 xs ys x y (HX.out.below B_6.out) (HY.out.below B_6.out) O1_6.out O2_6.out hsx hsy (by omega) (by omega)).mono ?_
            rw [HQV.out, hs3]
            rintro e w7 ⟨rfl, hB⟩
            have v7ac0 := (V0_6.out.below' hB).cell 0 rfl
            have v7ac1 := (V0_6.out.below' hB).cell 1 rfl
            have v7ac2 := (V0_6.out.below' hB).cell 2 rfl
            have V0_7 := Lib.hid (V0_6.out.below' hB)
            have v7bc0 := (V1_6.out.below' hB).cell 0 rfl
            have v7bc1 := (V1_6.out.below' hB).cell 1 rfl
            have v7bc2 := (V1_6.out.below' hB).cell 2 rfl
            have V1_7 := Lib.hid (V1_6.out.below' hB)
            have v7cc0 := (V2_6.out.below' hB).cell 0 rfl
            have v7cc1 := (V2_6.out.below' hB).cell 1 rfl
            have v7cc2 := (V2_6.out.below' hB).cell 2 rfl
            have V2_7 := Lib.hid (V2_6.out.below' hB)
            have B_7 := Lib.hid (B_6.out.trans (hB.mono B_6.out.size))
            have O1_7 := Lib.hid (O1_6.out.below hB)
            have O2_7 := Lib.hid (O2_6.out.below hB)
            clear hB
            go_wp2_with fail
            refine (awake_ok w7).mono ?_
            rintro e w9 ⟨rfl, hB9⟩
            have HB9 := Lib.hid (B_7.out.trans (hB9.mono B_7.out.size))
            clear hB9
            go_wp2_with fail
            go_ret
            exact ⟨rfl, HB9.out⟩
        · have hp : mkRat (hi d) 4294967296 < qv p xs ys := by
            have h := HCA.out
            unfold chance at h
            exact of_decide_eq_true h
          have HP := Lib.hid hp
          clear hp
          obtain ⟨s1, hs1⟩ : ∃ s1, cmpQ (qv p xs ys) (qv q us vs) = s1 := ⟨_, rfl⟩
          obtain ⟨s2, hs2⟩ : ∃ s2, cmpQ (qv p xs ys) 0 = s2 := ⟨_, rfl⟩
          obtain ⟨s3, hs3⟩ : ∃ s3, cmpQ (qv p xs ys) (mkRat 1 1) = s3 := ⟨_, rfl⟩
          have k2 : decide (s2 ≤ 0) = false := decide_eq_false (by
            rw [← hs2, cmpQ_le]
            intro h
            have := (hi_rat d).1
            have := HP.out
            grind)
          rcases Bool.eq_false_or_eq_true (decide (s1 ≤ 0)) with k1 | k1
          · have hb : bq = true := by
              rw [← HCB.out]
              unfold chance
              have h1 := of_decide_eq_true k1
              rw [← hs1, cmpQ_le] at h1
              have := HP.out
              exact decide_eq_true (by grind)
            subst hb
            rcases Bool.eq_false_or_eq_true (decide (0 ≤ s3)) with k3 | k3
            · go_wp2_with fail
              refine (qcmp_q w5 p q P P2 Q Q2 cp cp2 cq cq2 xs ys us vs (HX.out.below B_5.out) (HY.out.below B_5.out) (HU.out.below B_5.out) (HW.out.below B_5.out) hsx hsy hsu hsw).mono ?_
              rw [hs1]
              rintro e w6 ⟨rfl, hB⟩
              have v6ac0 := (V0_5.out.below' hB).cell 0 rfl
              have v6ac1 := (V0_5.out.below' hB).cell 1 rfl
              have v6ac2 := (V0_5.out.below' hB).cell 2 rfl
              have V0_6 := Lib.hid (V0_5.out.below' hB)
              have v6bc0 := (V1_5.out.below' hB).cell 0 rfl
              have v6bc1 := (V1_5.out.below' hB).cell 1 rfl
              have v6bc2 := (V1_5.out.below' hB).cell 2 rfl
              have V1_6 := Lib.hid (V1_5.out.below' hB)
              have v6cc0 := (V2_5.out.below' hB).cell 0 rfl
              have v6cc1 := (V2_5.out.below' hB).cell 1 rfl
              have v6cc2 := (V2_5.out.below' hB).cell 2 rfl
              have V2_6 := Lib.hid (V2_5.out.below' hB)
              have B_6 := Lib.hid (B_5.out.trans (hB.mono B_5.out.size))
              have O1_6 := Lib.hid (O1_5.out.below hB)
              have O2_6 := Lib.hid (O2_5.out.below hB)
              clear hB
              clear hs1
              go_wp2_with fail
              refine (qsign_q w6 p P P2 cp cp2 xs ys (HX.out.below B_6.out) (HY.out.below B_6.out) hsx hsy).mono ?_
              rw [hs2]
              rintro e w7 ⟨rfl, hB⟩
              have v7ac0 := (V0_6.out.below' hB).cell 0 rfl
              have v7ac1 := (V0_6.out.below' hB).cell 1 rfl
              have v7ac2 := (V0_6.out.below' hB).cell 2 rfl
              have V0_7 := Lib.hid (V0_6.out.below' hB)
              have v7bc0 := (V1_6.out.below' hB).cell 0 rfl
              have v7bc1 := (V1_6.out.below' hB).cell 1 rfl
              have v7bc2 := (V1_6.out.below' hB).cell 2 rfl
              have V1_7 := Lib.hid (V1_6.out.below' hB)
              have v7cc0 := (V2_6.out.below' hB).cell 0 rfl
              have v7cc1 := (V2_6.out.below' hB).cell 1 rfl
              have v7cc2 := (V2_6.out.below' hB).cell 2 rfl
              have V2_7 := Lib.hid (V2_6.out.below' hB)
              have B_7 := Lib.hid (B_6.out.trans (hB.mono B_6.out.size))
              have O1_7 := Lib.hid (O1_6.out.below hB)
              have O2_7 := Lib.hid (O2_6.out.below hB)
              clear hB
              clear hs2
              go_wp2_with fail
              refine (qcmp_q w7 p b1 P P2 A1 B1 cp cp2 c1 d1 xs ys x y (HX.out.below B_7.out) (HY.out.below B_7.out) O1_7.out O2_7.out hsx hsy (by omega) (by omega)).mono ?_
              rw [HQV.out, hs3]
              rintro e w8 ⟨rfl, hB⟩
              have v8ac0 := (V0_7.out.below' hB).cell 0 rfl
              have v8ac1 := (V0_7.out.below' hB).cell 1 rfl
              have v8ac2 := (V0_7.out.below' hB).cell 2 rfl
              have V0_8 := Lib.hid (V0_7.out.below' hB)
              have v8bc0 := (V1_7.out.below' hB).cell 0 rfl
              have v8bc1 := (V1_7.out.below' hB).cell 1 rfl
              have v8bc2 := (V1_7.out.below' hB).cell 2 rfl
              have V1_8 := Lib.hid (V1_7.out.below' hB)
              have v8cc0 := (V2_7.out.below' hB).cell 0 rfl
              have v8cc1 := (V2_7.out.below' hB).cell 1 rfl
              have v8cc2 := (V2_7.out.below' hB).cell 2 rfl
              have V2_8 := Lib.hid (V2_7.out.below' hB)
              have B_8 := Lib.hid (B_7.out.trans (hB.mono B_7.out.size))
              have O1_8 := Lib.hid (O1_7.out.below hB)
              have O2_8 := Lib.hid (O2_7.out.below hB)
              clear hB
              go_wp2_with fail
              refine (awake_ok w8).mono ?_
              rintro e w9 ⟨rfl, hB9⟩
              have HB9 := Lib.hid (B_8.out.trans (hB9.mono B_8.out.size))
              clear hB9
              go_wp2_with fail
              go_ret
              exact ⟨rfl, HB9.out⟩
            · go_wp2_with fail
              refine (qcmp_q w5 p q P P2 Q Q2 cp cp2 cq cq2 xs ys us vs (HX.out.below B_5.out) (HY.out.below B_5.out) (HU.out.below B_5.out) (HW.out.below B_5.out) hsx hsy hsu hsw).mono ?_
              rw [hs1]
              rintro e w6 ⟨rfl, hB⟩
              have v6ac0 := (V0_5.out.below' hB).cell 0 rfl
              have v6ac1 := (V0_5.out.below' hB).cell 1 rfl
              have v6ac2 := (V0_5.out.below' hB).cell 2 rfl
              have V0_6 := Lib.hid (V0_5.out.below' hB)
              have v6bc0 := (V1_5.out.below' hB).cell 0 rfl
              have v6bc1 := (V1_5.out.below' hB).cell 1 rfl
              have v6bc2 := (V1_5.out.below' hB).cell 2 rfl
              have V1_6 := Lib.hid (V1_5.out.below' hB)
              have v6cc0 := (V2_5.out.below' hB).cell 0 rfl
              have v6cc1 := (V2_5.out.below' hB).cell 1 rfl
              have v6cc2 := (V2_5.out.below' hB).cell 2 rfl
              have V2_6 := Lib.hid (V2_5.out.below' hB)
              have B_6 := Lib.hid (B_5.out.trans (hB.mono B_5.out.size))
              have O1_6 := Lib.hid (O1_5.out.below hB)
              have O2_6 := Lib.hid (O2_5.out.below hB)
              clear hB
              clear hs1
              go_wp2_with fail
              refine (qsign_q w6 p P P2 cp cp2 xs ys (HX.out.below B_6.out) (HY.out.below B_6.out) hsx hsy).mono ?_
              rw [hs2]
              rintro e w7 ⟨rfl, hB⟩
              have v7ac0 := (V0_6.out.below' hB).cell 0 rfl
              have v7ac1 := (V0_6.out.below' hB).cell 1 rfl
              have v7ac2 := (V0_6.out.below' hB).cell 2 rfl
              have V0_7 := Lib.hid (V0_6.out.below' hB)
              have v7bc0 := (V1_6.out.below' hB).cell 0 rfl
              have v7bc1 := (V1_6.out.below' hB).cell 1 rfl
              have v7bc2 := (V1_6.out.below' hB).cell 2 rfl
              have V1_7 := Lib.hid (V1_6.out.below' hB)
              have v7cc0 := (V2_6.out.below' hB).cell 0 rfl
              have v7cc1 := (V2_6.out.below' hB).cell 1 rfl
              have v7cc2 := (V2_6.out.below' hB).cell 2 rfl
              have V2_7 := Lib.hid (V2_6.out.below' hB)
              have B_7 := Lib.hid (B_6.out.trans (hB.mono B_6.out.size))
              have O1_7 := Lib.hid (O1_6.out.below hB)
              have O2_7 := Lib.hid (O2_6.out.below hB)
              clear hB
              clear hs2
              go_wp2_with fail
              refine (qcmp_q w7 p b1 P P2 A1 B1 cp cp2 c1 d1 xs ys x y (HX.out.below B_7.out) (HY.out.below B_7.out) O1_7.out O2_7.out hsx hsy (by omega) (by omega)).mono ?_
              rw [HQV.out, hs3]
              rintro e w8 ⟨rfl, hB⟩
              have v8ac0 := (V0_7.out.below' hB).cell 0 rfl
              have v8ac1 := (V0_7.out.below' hB).cell 1 rfl
              have v8ac2 := (V0_7.out.below' hB).cell 2 rfl
              have V0_8 := Lib.hid (V0_7.out.below' hB)
              have v8bc0 := (V1_7.out.below' hB).cell 0 rfl
              have v8bc1 := (V1_7.out.below' hB).cell 1 rfl
              have v8bc2 := (V1_7.out.below' hB).cell 2 rfl
              have V1_8 := Lib.hid (V1_7.out.below' hB)
              have v8cc0 := (V2_7.out.below' hB).cell 0 rfl
              have v8cc1 := (V2_7.out.below' hB).cell 1 rfl
              have v8cc2 := (V2_7.out.below' hB).cell 2 rfl
              have V2_8 := Lib.hid (V2_7.out.below' hB)
              have B_8 := Lib.hid (B_7.out.trans (hB.mono B_7.out.size))
              have O1_8 := Lib.hid (O1_7.out.below hB)
              have O2_8 := Lib.hid (O2_7.out.below hB)
              clear hB
              go_wp2_with fail
              refine (awake_ok w8).mono ?_
              rintro e w9 ⟨rfl, hB9⟩
              have HB9 := Lib.hid (B_8.out.trans (hB9.mono B_8.out.size))
              clear hB9
              go_wp2_with fail
              go_ret
              exact ⟨rfl, HB9.out⟩
          · rcases Bool.eq_false_or_eq_true (decide (0 ≤ s3)) with k3 | k3
            · go_wp2_with fail
              refine (qcmp_q w5 p q P P2 Q Q2 cp cp2 cq cq2 xs ys us vs (HX.out.below B_5.out) (HY.out.below B_5.out) (HU.out.below B_5.out) (HW.out.below B_5.out) hsx hsy hsu hsw).mono ?_
              rw [hs1]
              rintro e w6 ⟨rfl, hB⟩
              have v6ac0 := (V0_5.out.below' hB).cell 0 rfl
              have v6ac1 := (V0_5.out.below' hB).cell 1 rfl
              have v6ac2 := (V0_5.out.below' hB).cell 2 rfl
              have V0_6 := Lib.hid (V0_5.out.below' hB)
              have v6bc0 := (V1_5.out.below' hB).cell 0 rfl
              have v6bc1 := (V1_5.out.below' hB).cell 1 rfl
              have v6bc2 := (V1_5.out.below' hB).cell 2 rfl
              have V1_6 := Lib.hid (V1_5.out.below' hB)
              have v6cc0 := (V2_5.out.below' hB).cell 0 rfl
              have v6cc1 := (V2_5.out.below' hB).cell 1 rfl
              have v6cc2 := (V2_5.out.below' hB).cell 2 rfl
              have V2_6 := Lib.hid (V2_5.out.below' hB)
              have B_6 := Lib.hid (B_5.out.trans (hB.mono B_5.out.size))
              have O1_6 := Lib.hid (O1_5.out.below hB)
              have O2_6 := Lib.hid (O2_5.out.below hB)
              clear hB
              clear hs1
              go_wp2_with fail
              refine (qsign_q w6 p P P2 cp cp2 xs ys (HX.out.below B_6.out) (HY.out.below B_6.out) hsx hsy).mono ?_
              rw [hs2]
              rintro e w7 ⟨rfl, hB⟩
              have v7ac0 := (V0_6.out.below' hB).cell 0 rfl
              have v7ac1 := (V0_6.out.below' hB).cell 1 rfl
              have v7ac2 := (V0_6.out.below' hB).cell 2 rfl
              have V0_7 := Lib.hid (V0_6.out.below' hB)
              have v7bc0 := (V1_6.out.below' hB).cell 0 rfl
              have v7bc1 := (V1_6.out.below' hB).cell 1 rfl
              have v7bc2 := (V1_6.out.below' hB).cell 2 rfl
              have V1_7 := Lib.hid (V1_6.out.below' hB)
              have v7cc0 := (V2_6.out.below' hB).cell 0 rfl
              have v7cc1 := (V2_6.out.below' hB).cell 1 rfl
              have v7cc2 := (V2_6.out.below' hB).cell 2 rfl
              have V2_7 := Lib.hid (V2_6.out.below' hB)
              have B_7 := Lib.hid (B_6.out.trans (hB.mono B_6.out.size))
              have O1_7 := Lib.hid (O1_6.out.below hB)
              have O2_7 := Lib.hid (O2_6.out.below hB)
              clear hB
              clear hs2
              go_wp2_with fail
              refine (qcmp_q w7 p b1 P P2 A1 B1 cp cp2 c1 d1 xs ys x y (HX.out.below B_7.out) (HY.out.below B_7.out) O1_7.out O2_7.out hsx hsy (by omega) (by omega)).mono ?_
              rw [HQV.out, hs3]
              rintro e w8 ⟨rfl, hB⟩
              have v8ac0 := (V0_7.out.below' hB).cell 0 rfl
              have v8ac1 := (V0_7.out.below' hB).cell 1 rfl
              have v8ac2 := (V0_7.out.below' hB).cell 2 rfl
              have V0_8 := Lib.hid (V0_7.out.below' hB)
              have v8bc0 := (V1_7.out.below' hB).cell 0 rfl
              have v8bc1 := (V1_7.out.below' hB).cell 1 rfl
              have v8bc2 := (V1_7.out.below' hB).cell 2 rfl
              have V1_8 := Lib.hid (V1_7.out.below' hB)
              have v8cc0 := (V2_7.out.below' hB).cell 0 rfl
              have v8cc1 := (V2_7.out.below' hB).cell 1 rfl
              have v8cc2 := (V2_7.out.below' hB).cell 2 rfl
              have V2_8 := Lib.hid (V2_7.out.below' hB)
              have B_8 := Lib.hid (B_7.out.trans (hB.mono B_7.out.size))
              have O1_8 := Lib.hid (O1_7.out.below hB)
              have O2_8 := Lib.hid (O2_7.out.below hB)
              clear hB
              go_wp2_with fail
              refine (awake_ok w8).mono ?_
              rintro e w9 ⟨rfl, hB9⟩
              have HB9 := Lib.hid (B_8.out.trans (hB9.mono B_8.out.size))
              clear hB9
              go_wp2_with fail
              go_ret
              exact ⟨rfl, HB9.out⟩
            · go_wp2_with fail
              refine (qcmp_q w5 p q P P2 Q Q2 cp cp2 cq cq2 xs ys us vs (HX.out.below B_5.out) (HY.out.below B_5.out) (HU.out.below B_5.out) (HW.out.below B_5.out) hsx hsy hsu hsw).mono ?_
              rw [hs1]
              rintro e w6 ⟨rfl, hB⟩
              have v6ac0 := (V0_5.out.below' hB).cell 0 rfl
              have v6ac1 := (V0_5.out.below' hB).cell 1 rfl
              have v6ac2 := (V0_5.out.below' hB).cell 2 rfl
              have V0_6 := Lib.hid (V0_5.out.below' hB)
              have v6bc0 := (V1_5.out.below' hB).cell 0 rfl
              have v6bc1 := (V1_5.out.below' hB).cell 1 rfl
              have v6bc2 := (V1_5.out.below' hB).cell 2 rfl
              have V1_6 := Lib.hid (V1_5.out.below' hB)
              have v6cc0 := (V2_5.out.below' hB).cell 0 rfl
              have v6cc1 := (V2_5.out.below' hB).cell 1 rfl
              have v6cc2 := (V2_5.out.below' hB).cell 2 rfl
              have V2_6 := Lib.hid (V2_5.out.below' hB)
              have B_6 := Lib.hid (B_5.out.trans (hB.mono B_5.out.size))
              have O1_6 := Lib.hid (O1_5.out.below hB)
              have O2_6 := Lib.hid (O2_5.out.below hB)
              clear hB
              clear hs1
              go_wp2_with fail
              refine (qsign_q w6 p P P2 cp cp2 xs ys (HX.out.below B_6.out) (HY.out.below B_6.out) hsx hsy).mono ?_
              rw [hs2]
              rintro e w7 ⟨rfl, hB⟩
              have v7ac0 := (V0_6.out.below' hB).cell 0 rfl
              have v7ac1 := (V0_6.out.below' hB).cell 1 rfl
              have v7ac2 := (V0_6.out.below' hB).cell 2 rfl
              have V0_7 := Lib.hid (V0_6.out.below' hB)
              have v7bc0 := (V1_6.out.below' hB).cell 0 rfl
              have v7bc1 := (V1_6.out.below' hB).cell 1 rfl
              have v7bc2 := (V1_6.out.below' hB).cell 2 rfl
              have V1_7 := Lib.hid (V1_6.out.below' hB)
              have v7cc0 := (V2_6.out.below' hB).cell 0 rfl
              have v7cc1 := (V2_6.out.below' hB).cell 1 rfl
              have v7cc2 := (V2_6.out.below' hB).cell 2 rfl
              have V2_7 := Lib.hid (V2_6.out.below' hB)
              have B_7 := Lib.hid (B_6.out.trans (hB.mono B_6.out.size))
              have O1_7 := Lib.hid (O1_6.out.below hB)
              have O2_7 := Lib.hid (O2_6.out.below hB)
              clear hB
              clear hs2
              go_wp2_with fail
              refine (qcmp_q w7 p b1 P P2 A1 B1 cp cp2 c1 d1 xs ys x y (HX.out.below B_7.out) (HY.out.below B_7.out) O1_7.out O2_7.out hsx hsy (by omega) (by omega)).mono ?_
              rw [HQV.out, hs3]
              rintro e w8 ⟨rfl, hB⟩
              have v8ac0 := (V0_7.out.below' hB).cell 0 rfl
              have v8ac1 := (V0_7.out.below' hB).cell 1 rfl
              have v8ac2 := (V0_7.out.below' hB).cell 2 rfl
              have V0_8 := Lib.hid (V0_7.out.below' hB)
              have v8bc0 := (V1_7.out.below' hB).cell 0 rfl
              have v8bc1 := (V1_7.out.below' hB).cell 1 rfl
              have v8bc2 := (V1_7.out.below' hB).cell 2 rfl
              have V1_8 := Lib.hid (V1_7.out.below' hB)
              have v8cc0 := (V2_7.out.below' hB).cell 0 rfl
              have v8cc1 := (V2_7.out.below' hB).cell 1 rfl
              have v8cc2 := (V2_7.out.below' hB).cell 2 rfl
              have V2_8 := Lib.hid (V2_7.out.below' hB)
              have B_8 := Lib.hid (B_7.out.trans (hB.mono B_7.out.size))
              have O1_8 := Lib.hid (O1_7.out.below hB)
              have O2_8 := Lib.hid (O2_7.out.below hB)
              clear hB
              go_wp2_with fail
              refine (awake_ok w8).mono ?_
              rintro e w9 ⟨rfl, hB9⟩
              have HB9 := Lib.hid (B_8.out.trans (hB9.mono B_8.out.size))
              clear hB9
              go_wp2_with fail
              go_ret
              exact ⟨rfl, HB9.out⟩
theorem ranges_row (w : World) (d : Int) (hd : 0 ≤ d ∧ d ≤ 18446744073709551615) (n : Int) (hn : -9223372036854775808 ≤ n ∧ n ≤ 9223372036854775807) (m : Int) (hm : -9223372036854775808 ≤ m ∧ m ≤ 9223372036854775807)
    (p : Bool) (P P2 : Option Addr) (cp cp2 : Nat) (xs ys : List Int) (hx : RN w P cp xs) (hy : RN w P2 cp2 ys) (hsx : xs.length * 4 ≤ 140737488351232) (hsy : ys.length * 4 ≤ 140737488351232)
    (q : Bool) (Q Q2 : Option Addr) (cq cq2 : Nat) (us vs : List Int) (hu : RN w Q cq us) (hv : RN w Q2 cq2 vs) (hsu : us.length * 4 ≤ 140737488351232) (hsv : vs.length * 4 ≤ 140737488351232) :
    Calls Try.prog 7 #[.int .u64 d, .int .i64 n, .int .i64 m, .agg #[.bool p, .slice P xs.length cp, .slice P2 ys.length cp2], .agg #[.bool q, .slice Q us.length cq, .slice Q2 vs.length cq2]] w (RetT w) :=
  ranges_ok w d n m hn hm p q P P2 Q Q2 cp cp2 cq cq2 xs ys us vs hx hy hu hv (by omega) (by omega) (by omega) (by omega)

end Go.Proofs.Ytcjpobnkapfccaa.M
