/- Rational numbers of the program: zero, whole, parts, lowest terms, making, comparison, sign. -/
import Derived.Test.YtgdlnmhpnlmofaaInt
import Derived.Test.YtgdlnmhpnlmofaaGcd
import Derived.Test.YtgdlnmhpnlmofaaRatP
namespace Go.Proofs.Ytgdlnmhpnlmofaa.M
set_option maxRecDepth 10000
open Go.RowKit
set_option linter.unusedVariables false
set_option linter.unusedSimpArgs false

set_option maxHeartbeats 800000 in
theorem whole_ok (w : World) (A : Option Addr) (c : Nat) (xs : List Int) (hx : RN w A c xs) (hs : xs.length ≤ 70368744177664) :
    Calls Try.prog 66 #[.slice A xs.length c] w (RetZI (V xs) w) := by
  have HX := Lib.hid hx
  clear hx
  go_enter Try.func66, Try.ntmps66
  go_wp2_with fail
  obtain ⟨W, hW⟩ : ∃ W, W = (w.alloc (.cells #[.bool false, .slice none 0 0] 31)) := ⟨_, rfl⟩
  rw [← hW]
  have hBW : Below w.heap.size w W := by rw [hW]; exact ((Below.refl _ _).alloc (Nat.le_refl _) _)
  have vW0 : Vr W (w.heap.size) 31 #[.bool false, .slice none 0 0] := by rw [hW]; exact (Vr.new' _ _ _ (by simp only [size_alloc]))
  clear hW
  have HVW0 := Lib.hid vW0
  have HBW := Lib.hid hBW
  clear hBW vW0
  refine (make_ok W false A c xs (HX.out.below HBW.out) hs).mono ?_
  rintro e w1 ⟨b1, A1, c1, z, rfl, HB1, HZ1, hz, hB1⟩
  have dc0 := (HVW0.out.below' hB1).cell 0 rfl
  have dc1 := (HVW0.out.below' hB1).cell 1 rfl
  have df0 := (HVW0.out.below' hB1).thaw 0
  have df1 := (HVW0.out.below' hB1).thaw 1
  have HV1 := Lib.hid (HVW0.out.below' hB1)
  have HBd := Lib.hid (HBW.out.trans (hB1.mono HBW.out.size))
  have HR := Lib.hid hz
  clear hB1 hz
  go_wp2_with fail
  have v3 : Vr ((w1.setCell ⟨w.heap.size, 0, none⟩ (.bool b1)).setCell ⟨w.heap.size, 1, none⟩ (.slice A1 z.length c1)) w.heap.size 31 #[.bool b1, .slice A1 z.length c1] := ((HV1.out.set 0 _).set 1 _)
  have r0 := (HR.out).apart (HV1.out) (nd_int _ _ _ _) 0 (.bool b1)
  have r1 := (r0).apart ((HV1.out).set 0 (.bool b1)) (nd_int _ _ _ _) 1 (.slice A1 z.length c1)
  refine bodyPost_ret (v := .agg #[.bool b1, .slice A1 z.length c1]) (by simp [results, Try.results66, go_sem, v3.cell 0 rfl, v3.cell 1 rfl]) rfl ?_
  exact ⟨b1, A1, c1, z, rfl, HB1, HZ1, r1, (below_set (below_set HBd.out (Nat.le_refl _) _) (Nat.le_refl _) _)⟩

set_option maxHeartbeats 800000 in
theorem zero_ok (w : World)  :
    Calls Try.prog 63 #[] w (RetQ 0 w) := by
  go_enter Try.func63, Try.ntmps63
  go_wp2_with fail
  obtain ⟨W, hW⟩ : ∃ W, W = (w.alloc (.cells #[.bool false, .slice none 0 0, .slice none 0 0] 33)) := ⟨_, rfl⟩
  rw [← hW]
  have hBW : Below w.heap.size w W := by rw [hW]; exact ((Below.refl _ _).alloc (Nat.le_refl _) _)
  have vW0 : Vr W (w.heap.size) 33 #[.bool false, .slice none 0 0, .slice none 0 0] := by rw [hW]; exact (Vr.new' _ _ _ (by simp only [size_alloc]))
  clear hW
  have HVW0 := Lib.hid vW0
  have HBW := Lib.hid hBW
  clear hBW vW0
  refine (of_ok W 1 (by omega) (by omega)).mono ?_
  rintro e w1 ⟨A1, c1, z, rfl, HZ1, hz, hB1⟩
  have dc0 := (HVW0.out.below' hB1).cell 0 rfl
  have dc1 := (HVW0.out.below' hB1).cell 1 rfl
  have dc2 := (HVW0.out.below' hB1).cell 2 rfl
  have df0 := (HVW0.out.below' hB1).thaw 0
  have df1 := (HVW0.out.below' hB1).thaw 1
  have df2 := (HVW0.out.below' hB1).thaw 2
  have HV1 := Lib.hid (HVW0.out.below' hB1)
  have HBd := Lib.hid (HBW.out.trans (hB1.mono HBW.out.size))
  have HR := Lib.hid hz
  clear hB1 hz
  go_wp2_with fail
  have v3 : Vr (((w1.setCell ⟨w.heap.size, 0, none⟩ (.bool false)).setCell ⟨w.heap.size, 1, none⟩ (.slice none 0 0)).setCell ⟨w.heap.size, 2, none⟩ (.slice A1 z.length c1)) w.heap.size 33 #[.bool false, .slice none 0 0, .slice A1 z.length c1] := (((HV1.out.set 0 _).set 1 _).set 2 _)
  have r0 := (HR.out).apart (HV1.out) (nd_rat _ _ _ _ _ _ _) 0 (.bool false)
  have r1 := (r0).apart ((HV1.out).set 0 (.bool false)) (nd_rat _ _ _ _ _ _ _) 1 (.slice none 0 0)
  have r2 := (r1).apart (((HV1.out).set 0 (.bool false)).set 1 (.slice none 0 0)) (nd_rat _ _ _ _ _ _ _) 2 (.slice A1 z.length c1)
  refine bodyPost_ret (v := .agg #[.bool false, .slice none 0 0, .slice A1 z.length c1]) (by simp [results, Try.results63, go_sem, v3.cell 0 rfl, v3.cell 1 rfl, v3.cell 2 rfl]) rfl ?_
  exact ⟨false, none, 0, [], A1, c1, z, rfl, rfl, rfl, HZ1, RN.nil _, r2, (below_set (below_set (below_set HBd.out (Nat.le_refl _) _) (Nat.le_refl _) _) (Nat.le_refl _) _)⟩

set_option maxHeartbeats 1600000 in
theorem lowest_ok (w : World) (b : Bool) (A B : Option Addr) (c d : Nat) (xs ys : List Int) (hx : RN w A c xs) (hy : RN w B d ys) (hsx : xs.length ≤ 35184372088800) (hsy : ys.length ≤ 35184372088800) :
    Calls Try.prog 64 #[.agg #[.bool b, .slice A xs.length c], .slice B ys.length d] w (RetQ (qv b xs ys) w) := by
  have HX := Lib.hid hx
  have HY := Lib.hid hy
  clear hx hy
  go_enter Try.func64, Try.ntmps64
  go_wp2_with fail
  obtain ⟨W, hW⟩ : ∃ W, W = ((w.alloc (.cells #[.bool b, .slice A xs.length c] 31)).alloc (.cells #[.bool false, .slice none 0 0, .slice none 0 0] 33)) := ⟨_, rfl⟩
  rw [← hW]
  have hBW : Below w.heap.size w W := by rw [hW]; exact (((Below.refl _ _).alloc (Nat.le_refl _) _).alloc (by simp only [size_alloc]; omega) _)
  have vW0 : Vr W (w.heap.size) 31 #[.bool b, .slice A xs.length c] := by rw [hW]; exact ((Vr.new' _ _ _ (by simp only [size_alloc])).alloc _)
  have vW1 : Vr W (w.heap.size + 1) 33 #[.bool false, .slice none 0 0, .slice none 0 0] := by rw [hW]; exact (Vr.new' _ _ _ (by simp only [size_alloc]))
  clear hW
  obtain ⟨gW1, hgW1⟩ : ∃ g, w.heap.size + 1 = g := ⟨_, rfl⟩
  rw [hgW1] at vW1 ⊢
  have hneW01 : w.heap.size ≠ gW1 := by omega
  have hgeW1 : w.heap.size ≤ gW1 := by omega
  have hneW10 : gW1 ≠ w.heap.size := by omega
  have HVW0 := Lib.hid vW0
  have HVW1 := Lib.hid vW1
  have HBW := Lib.hid hBW
  clear hBW vW0 vW1 hgW1
  refine (gcd_ok W A B c d xs ys (HX.out.below HBW.out) (HY.out.below HBW.out) hsx hsy).mono ?_
  rintro e w1 ⟨A1, c1, g, rfl, HG, hg, hB1⟩
  have dc0 := (HVW0.out.below' hB1).cell 0 rfl
  have dc1 := (HVW0.out.below' hB1).cell 1 rfl
  have ec0 := (HVW1.out.below' hB1).cell 0 rfl
  have ec1 := (HVW1.out.below' hB1).cell 1 rfl
  have ec2 := (HVW1.out.below' hB1).cell 2 rfl
  have ef0 := (HVW1.out.below' hB1).thaw 0
  have ef1 := (HVW1.out.below' hB1).thaw 1
  have ef2 := (HVW1.out.below' hB1).thaw 2
  have HV0 := Lib.hid (HVW0.out.below' hB1)
  have HV1 := Lib.hid (HVW1.out.below' hB1)
  have HBd := Lib.hid (HBW.out.trans (hB1.mono HBW.out.size))
  have RG := Lib.hid hg
  have RX := Lib.hid (HX.out.below HBd.out)
  have RY := Lib.hid (HY.out.below HBd.out)
  clear hB1 hg
  go_wp2_with fail
  refine (bits_ok w1 B d ys RY.out (by omega)).mono ?_
  rintro e w1' ⟨v, rfl, HV, hv0, rfl⟩
  by_cases hz : V ys = 0
  · have hv : v = 0 := HV.out.2 hz
    subst hv
    have HZ := Lib.hid hz
    clear hz
    go_wp2_with fail
    refine (zero_ok w1).mono ?_
    rintro e w2 ⟨b2, A2, c2, x2, B2, d2, y2, rfl, HQ1, HQ2, HQ3, hr1, hr2, hB2⟩
    have kc0 := (HV1.out.below' hB2).cell 0 rfl
    have kc1 := (HV1.out.below' hB2).cell 1 rfl
    have kc2 := (HV1.out.below' hB2).cell 2 rfl
    have kf0 := (HV1.out.below' hB2).thaw 0
    have kf1 := (HV1.out.below' hB2).thaw 1
    have kf2 := (HV1.out.below' hB2).thaw 2
    have HV2 := Lib.hid (HV1.out.below' hB2)
    have HB2 := Lib.hid (HBd.out.trans (hB2.mono HBd.out.size))
    have HR1 := Lib.hid hr1
    have HR2 := Lib.hid hr2
    clear hB2 hr1 hr2
    go_wp2_with fail
    have v3 : Vr (((w2.setCell ⟨gW1, 0, none⟩ (.bool b2)).setCell ⟨gW1, 1, none⟩ (.slice A2 x2.length c2)).setCell ⟨gW1, 2, none⟩ (.slice B2 y2.length d2)) gW1 33 #[.bool b2, .slice A2 x2.length c2, .slice B2 y2.length d2] := (((HV2.out.set 0 _).set 1 _).set 2 _)
    have r0 := (HR1.out).apart (HV2.out) (nd_rat _ _ _ _ _ _ _) 0 (.bool b2)
    have r1 := (r0).apart ((HV2.out).set 0 (.bool b2)) (nd_rat _ _ _ _ _ _ _) 1 (.slice A2 x2.length c2)
    have r2 := (r1).apart (((HV2.out).set 0 (.bool b2)).set 1 (.slice A2 x2.length c2)) (nd_rat _ _ _ _ _ _ _) 2 (.slice B2 y2.length d2)
    have s0 := (HR2.out).apart (HV2.out) (nd_rat _ _ _ _ _ _ _) 0 (.bool b2)
    have s1 := (s0).apart ((HV2.out).set 0 (.bool b2)) (nd_rat _ _ _ _ _ _ _) 1 (.slice A2 x2.length c2)
    have s2 := (s1).apart (((HV2.out).set 0 (.bool b2)).set 1 (.slice A2 x2.length c2)) (nd_rat _ _ _ _ _ _ _) 2 (.slice B2 y2.length d2)
    refine bodyPost_ret (v := .agg #[.bool b2, .slice A2 x2.length c2, .slice B2 y2.length d2]) (by simp [results, Try.results64, go_sem, v3.cell 0 rfl, v3.cell 1 rfl, v3.cell 2 rfl]) rfl ?_
    exact ⟨b2, A2, c2, x2, B2, d2, y2, rfl, by rw [qv_zero HZ.out]; exact HQ1, by rw [qv_zero HZ.out]; exact HQ2, by rw [qv_zero HZ.out]; exact HQ3, r2, s2, (below_set (below_set (below_set HB2.out hgeW1 _) hgeW1 _) hgeW1 _)⟩
  · have hv : (v == 0) = false := beq_eq_false_iff_ne.2 (fun h => hz (HV.out.1 h))
    have HNY := Lib.hid hz
    clear hz
    go_wp2_with fail
    refine (bits_ok w1 A c xs RX.out (by omega)).mono ?_
    rintro e w1' ⟨v2, rfl, HV2', hv02, rfl⟩
    by_cases hz2 : V xs = 0
    · have hv2 : v2 = 0 := HV2'.out.2 hz2
      subst hv2
      have HZ2 := Lib.hid hz2
      clear hz2
      go_wp2_with fail
      refine (zero_ok w1).mono ?_
      rintro e w2 ⟨b2, A2, c2, x2, B2, d2, y2, rfl, HQ1, HQ2, HQ3, hr1, hr2, hB2⟩
      have kc0 := (HV1.out.below' hB2).cell 0 rfl
      have kc1 := (HV1.out.below' hB2).cell 1 rfl
      have kc2 := (HV1.out.below' hB2).cell 2 rfl
      have kf0 := (HV1.out.below' hB2).thaw 0
      have kf1 := (HV1.out.below' hB2).thaw 1
      have kf2 := (HV1.out.below' hB2).thaw 2
      have HV2 := Lib.hid (HV1.out.below' hB2)
      have HB2 := Lib.hid (HBd.out.trans (hB2.mono HBd.out.size))
      have HR1 := Lib.hid hr1
      have HR2 := Lib.hid hr2
      clear hB2 hr1 hr2
      go_wp2_with fail
      have v3 : Vr (((w2.setCell ⟨gW1, 0, none⟩ (.bool b2)).setCell ⟨gW1, 1, none⟩ (.slice A2 x2.length c2)).setCell ⟨gW1, 2, none⟩ (.slice B2 y2.length d2)) gW1 33 #[.bool b2, .slice A2 x2.length c2, .slice B2 y2.length d2] := (((HV2.out.set 0 _).set 1 _).set 2 _)
      have r0 := (HR1.out).apart (HV2.out) (nd_rat _ _ _ _ _ _ _) 0 (.bool b2)
      have r1 := (r0).apart ((HV2.out).set 0 (.bool b2)) (nd_rat _ _ _ _ _ _ _) 1 (.slice A2 x2.length c2)
      have r2 := (r1).apart (((HV2.out).set 0 (.bool b2)).set 1 (.slice A2 x2.length c2)) (nd_rat _ _ _ _ _ _ _) 2 (.slice B2 y2.length d2)
      have s0 := (HR2.out).apart (HV2.out) (nd_rat _ _ _ _ _ _ _) 0 (.bool b2)
      have s1 := (s0).apart ((HV2.out).set 0 (.bool b2)) (nd_rat _ _ _ _ _ _ _) 1 (.slice A2 x2.length c2)
      have s2 := (s1).apart (((HV2.out).set 0 (.bool b2)).set 1 (.slice A2 x2.length c2)) (nd_rat _ _ _ _ _ _ _) 2 (.slice B2 y2.length d2)
      refine bodyPost_ret (v := .agg #[.bool b2, .slice A2 x2.length c2, .slice B2 y2.length d2]) (by simp [results, Try.results64, go_sem, v3.cell 0 rfl, v3.cell 1 rfl, v3.cell 2 rfl]) rfl ?_
      exact ⟨b2, A2, c2, x2, B2, d2, y2, rfl, by rw [qv_null HZ2.out]; exact HQ1, by rw [qv_null HZ2.out]; exact HQ2, by rw [qv_null HZ2.out]; exact HQ3, r2, s2, (below_set (below_set (below_set HB2.out hgeW1 _) hgeW1 _) hgeW1 _)⟩
    · have hv2 : (v2 == 0) = false := beq_eq_false_iff_ne.2 (fun h => hz2 (HV2'.out.1 h))
      have HNX := Lib.hid hz2
      clear hz2
      have HVg : Hid (V g = ((Nat.gcd (V xs).toNat (V ys).toNat : Nat) : Int)) := by show _ = _; rw [HG.out, V_limbs]
      have HG0 : Hid (0 < V g) := by
        show _ < _
        rw [HVg.out]
        have h1 := V_nonneg HX.out.2
        have h2 := HNX.out
        have h3 := Nat.gcd_pos_of_pos_left (m := (V xs).toNat) (V ys).toNat (by omega)
        omega
      go_wp2_with fail
      refine (divMod_ok w1 A A1 c c1 xs g RX.out RG.out HG0.out (by omega)).mono ?_
      rintro e w2 ⟨A2, c2, q2, R2, e2, r2, rfl, HQ2, _, hq2, _, hB2⟩
      have kc0 := (HV0.out.below' hB2).cell 0 rfl
      have kc1 := (HV0.out.below' hB2).cell 1 rfl
      have HV02 := Lib.hid (HV0.out.below' hB2)
      have HV12 := Lib.hid (HV1.out.below' hB2)
      have HBe := Lib.hid (HBd.out.trans (hB2.mono HBd.out.size))
      have RQ2 := Lib.hid hq2
      have RG2 := Lib.hid (RG.out.below hB2)
      have RY2 := Lib.hid (RY.out.below hB2)
      clear hB2 hq2
      go_wp2_with fail
      refine (divMod_ok w2 B A1 d c1 ys g RY2.out RG2.out HG0.out (by omega)).mono ?_
      rintro e w3 ⟨A3, c3, q3, R3, e3, r3, rfl, HQ3, _, hq3, _, hB3⟩
      have mc0 := (HV02.out.below' hB3).cell 0 rfl
      have mc1 := (HV02.out.below' hB3).cell 1 rfl
      have HV13 := Lib.hid (HV12.out.below' hB3)
      have HBf := Lib.hid (HBe.out.trans (hB3.mono HBe.out.size))
      have RQ23 := Lib.hid (RQ2.out.below hB3)
      have RQ3 := Lib.hid hq3
      clear hB3 hq3
      rw [HVg.out, Int.toNat_natCast] at HQ2 HQ3
      have hlq : q2.length ≤ 70368744177664 := by
        rw [HQ2.out]
        exact Nat.le_trans (limbs_div_len HX.out.2 _) (by omega)
      go_wp2_with fail
      refine (make_ok w3 b A2 c2 q2 RQ23.out hlq).mono ?_
      rintro e w4 ⟨b4, A4, c4, z4, rfl, HB4, HZ4, hz4, hB4⟩
      have nc0 := (HV13.out.below' hB4).cell 0 rfl
      have nc1 := (HV13.out.below' hB4).cell 1 rfl
      have nc2 := (HV13.out.below' hB4).cell 2 rfl
      have nf0 := (HV13.out.below' hB4).thaw 0
      have nf1 := (HV13.out.below' hB4).thaw 1
      have nf2 := (HV13.out.below' hB4).thaw 2
      have HV14 := Lib.hid (HV13.out.below' hB4)
      have HBg := Lib.hid (HBf.out.trans (hB4.mono HBf.out.size))
      have RZ4 := Lib.hid hz4
      have RQ4 := Lib.hid (RQ3.out.below hB4)
      clear hB4 hz4
      have HLP := Lib.hid (low_parts (b := b) HX.out.2 HY.out.2 HNY.out (q1 := q2) (by rw [HQ2.out, V_limbs]))
      go_wp2_with fail
      have v3 : Vr (((w4.setCell ⟨gW1, 0, none⟩ (.bool b4)).setCell ⟨gW1, 1, none⟩ (.slice A4 z4.length c4)).setCell ⟨gW1, 2, none⟩ (.slice A3 q3.length c3)) gW1 33 #[.bool b4, .slice A4 z4.length c4, .slice A3 q3.length c3] := (((HV14.out.set 0 _).set 1 _).set 2 _)
      have r0 := (RZ4.out).apart (HV14.out) (nd_rat _ _ _ _ _ _ _) 0 (.bool b4)
      have r1 := (r0).apart ((HV14.out).set 0 (.bool b4)) (nd_rat _ _ _ _ _ _ _) 1 (.slice A4 z4.length c4)
      have r2 := (r1).apart (((HV14.out).set 0 (.bool b4)).set 1 (.slice A4 z4.length c4)) (nd_rat _ _ _ _ _ _ _) 2 (.slice A3 q3.length c3)
      have s0 := (RQ4.out).apart (HV14.out) (nd_rat _ _ _ _ _ _ _) 0 (.bool b4)
      have s1 := (s0).apart ((HV14.out).set 0 (.bool b4)) (nd_rat _ _ _ _ _ _ _) 1 (.slice A4 z4.length c4)
      have s2 := (s1).apart (((HV14.out).set 0 (.bool b4)).set 1 (.slice A4 z4.length c4)) (nd_rat _ _ _ _ _ _ _) 2 (.slice A3 q3.length c3)
      refine bodyPost_ret (v := .agg #[.bool b4, .slice A4 z4.length c4, .slice A3 q3.length c3]) (by simp [results, Try.results64, go_sem, v3.cell 0 rfl, v3.cell 1 rfl, v3.cell 2 rfl]) rfl ?_
      exact ⟨b4, A4, c4, z4, A3, c3, q3, rfl, by rw [← HLP.out.1]; exact HB4, by rw [← HLP.out.1]; exact HZ4, by rw [← HLP.out.2]; exact HQ3, r2, s2, (below_set (below_set (below_set HBg.out hgeW1 _) hgeW1 _) hgeW1 _)⟩

end Go.Proofs.Ytgdlnmhpnlmofaa.M
