/- Rational numbers of the program: parts, making, of small numbers, comparison, sign. -/
import Derived.Test.YtgdlnmhpnlmofaaRat
namespace Go.Proofs.Ytgdlnmhpnlmofaa.M
set_option maxRecDepth 10000
open Go.RowKit
set_option linter.unusedVariables false
set_option linter.unusedSimpArgs false

set_option maxHeartbeats 1600000 in
theorem parts_ok (w : World) (b : Bool) (A B : Option Addr) (c d : Nat) (xs ys : List Int) (hx : RN w A c xs) (hy : RN w B d ys) (hsy : ys.length ≤ 35184372088800) :
    Calls Try.prog 39 #[.agg #[.bool b, .slice A xs.length c, .slice B ys.length d]] w (RetParts b xs ys w) := by
  have HX := Lib.hid hx
  have HY := Lib.hid hy
  clear hx hy
  go_enter Try.func39, Try.ntmps39
  go_wp2_with fail
  obtain ⟨W, hW⟩ : ∃ W, W = (((w.alloc (.cells #[.bool b, .slice A xs.length c, .slice B ys.length d] 33)).alloc (.cells #[.bool false, .slice none 0 0] 31)).alloc (.cells #[.bool false, .slice none 0 0] 31)) := ⟨_, rfl⟩
  rw [← hW]
  have hBW : Below w.heap.size w W := by rw [hW]; exact ((((Below.refl _ _).alloc (Nat.le_refl _) _).alloc (by simp only [size_alloc]; omega) _).alloc (by simp only [size_alloc]; omega) _)
  have vW0 : Vr W (w.heap.size) 33 #[.bool b, .slice A xs.length c, .slice B ys.length d] := by rw [hW]; exact (((Vr.new' _ _ _ (by simp only [size_alloc])).alloc _).alloc _)
  have vW1 : Vr W (w.heap.size + 1) 31 #[.bool false, .slice none 0 0] := by rw [hW]; exact ((Vr.new' _ _ _ (by simp only [size_alloc])).alloc _)
  have vW2 : Vr W (w.heap.size + 1 + 1) 31 #[.bool false, .slice none 0 0] := by rw [hW]; exact (Vr.new' _ _ _ (by simp only [size_alloc]))
  clear hW
  obtain ⟨gW2, hgW2⟩ : ∃ g, w.heap.size + 1 + 1 = g := ⟨_, rfl⟩
  rw [hgW2] at vW2 ⊢
  obtain ⟨gW1, hgW1⟩ : ∃ g, w.heap.size + 1 = g := ⟨_, rfl⟩
  rw [hgW1] at vW1 ⊢
  have hneW01 : w.heap.size ≠ gW1 := by omega
  have hneW02 : w.heap.size ≠ gW2 := by omega
  have hgeW1 : w.heap.size ≤ gW1 := by omega
  have hneW10 : gW1 ≠ w.heap.size := by omega
  have hneW12 : gW1 ≠ gW2 := by omega
  have hgeW2 : w.heap.size ≤ gW2 := by omega
  have hneW20 : gW2 ≠ w.heap.size := by omega
  have hneW21 : gW2 ≠ gW1 := by omega
  have HVW0 := Lib.hid vW0
  have HVW1 := Lib.hid vW1
  have HVW2 := Lib.hid vW2
  have HBW := Lib.hid hBW
  clear hBW vW0 vW1 vW2 hgW1 hgW2
  have oc0 := (HVW0.out).cell 0 rfl
  have oc1 := (HVW0.out).cell 1 rfl
  have oc2 := (HVW0.out).cell 2 rfl
  refine (bits_ok W B d ys (HY.out.below HBW.out) (by omega)).mono ?_
  rintro e w1' ⟨v, rfl, HV, hv0, rfl⟩
  by_cases hz : V ys = 0
  · have hv : v = 0 := HV.out.2 hz
    subst hv
    have HZ := Lib.hid hz
    clear hz
    go_wp2_with fail
    refine (of_ok W 1 (by omega) (by omega)).mono ?_
    rintro e w1 ⟨A1, c1, z, rfl, HZ1, hz, hB1⟩
    have HR := Lib.hid hz
    have HV11 := Lib.hid (HVW1.out.below' hB1)
    have HV21 := Lib.hid (HVW2.out.below' hB1)
    have HB1 := Lib.hid (HBW.out.trans (hB1.mono HBW.out.size))
    clear hB1 hz
    go_wp2_with fail
    refine (whole_ok w1 A1 c1 z HR.out (by rw [HZ1.out]; exact Nat.le_trans (limbs_len (m := 1) (by decide)) (by omega))).mono ?_
    rintro e w2 ⟨b2, A2, c2, z2, rfl, HB2, HZ2, hz2, hB2⟩
    have dc0 := (HV11.out.below' hB2).cell 0 rfl
    have dc1 := (HV11.out.below' hB2).cell 1 rfl
    have df0 := (HV11.out.below' hB2).thaw 0
    have df1 := (HV11.out.below' hB2).thaw 1
    have ec0 := (HV21.out.below' hB2).cell 0 rfl
    have ec1 := (HV21.out.below' hB2).cell 1 rfl
    have ef0 := (HV21.out.below' hB2).thaw 0
    have ef1 := (HV21.out.below' hB2).thaw 1
    have HV12 := Lib.hid (HV11.out.below' hB2)
    have HV22 := Lib.hid (HV21.out.below' hB2)
    have HBe := Lib.hid (HB1.out.trans (hB2.mono HB1.out.size))
    have RZ := Lib.hid hz2
    clear hB2 hz2
    go_wp2_with fail
    have p0 : Vr ((w2.setCell ⟨gW1, 0, none⟩ (.bool false)).setCell ⟨gW1, 1, none⟩ (.slice none 0 0)) gW1 31 #[.bool false, .slice none 0 0] := ((HV12.out.set 0 _).set 1 _)
    have rx0 := ((RN.nil w2)).apart (HV12.out) (nd_int _ _ _ _) 0 (.bool false)
    have rx1 := (rx0).apart ((HV12.out).set 0 (.bool false)) (nd_int _ _ _ _) 1 (.slice none 0 0)
    have ry0 := (RZ.out).apart (HV12.out) (nd_int _ _ _ _) 0 (.bool false)
    have ry1 := (ry0).apart ((HV12.out).set 0 (.bool false)) (nd_int _ _ _ _) 1 (.slice none 0 0)
    have q0 := (HV22.out.other hneW21 0 (.bool false)).other hneW21 1 (.slice none 0 0)
    have Q0 := Lib.hid q0
    have q1 : Vr ((((w2.setCell ⟨gW1, 0, none⟩ (.bool false)).setCell ⟨gW1, 1, none⟩ (.slice none 0 0)).setCell ⟨gW2, 0, none⟩ (.bool b2)).setCell ⟨gW2, 1, none⟩ (.slice A2 z2.length c2)) gW2 31 #[.bool b2, .slice A2 z2.length c2] := ((Q0.out.set 0 _).set 1 _)
    have sx0 := (rx1).apart (Q0.out) (nd_int _ _ _ _) 0 (.bool b2)
    have sx1 := (sx0).apart ((Q0.out).set 0 (.bool b2)) (nd_int _ _ _ _) 1 (.slice A2 z2.length c2)
    have sy0 := (ry1).apart (Q0.out) (nd_int _ _ _ _) 0 (.bool b2)
    have sy1 := (sy0).apart ((Q0.out).set 0 (.bool b2)) (nd_int _ _ _ _) 1 (.slice A2 z2.length c2)
    have p1 := (p0.other hneW12 0 (.bool b2)).other hneW12 1 (.slice A2 z2.length c2)
    refine bodyPost_ret (v := .tuple #[.agg #[.bool false, .slice none 0 0], .agg #[.bool b2, .slice A2 z2.length c2]]) (by simp [results, Try.results39, go_sem, p1.cell 0 rfl, p1.cell 1 rfl, q1.cell 0 rfl, q1.cell 1 rfl]) rfl ?_
    have ez : V z = 1 := by rw [HZ1.out, V_limbs]; rfl
    rw [ez] at HB2 HZ2
    refine ⟨false, none, 0, [], b2, A2, c2, z2, rfl, ?_, ?_, Nat.zero_le _, ?_, sx1, sy1, (below_set (below_set (below_set (below_set HBe.out hgeW1 _) hgeW1 _) hgeW2 _) hgeW2 _)⟩
    · show zv false [] = qn b xs ys
      unfold qn
      rw [if_pos HZ.out]
      rfl
    · show zv b2 z2 = qd ys
      unfold qd
      rw [if_pos HZ.out, HB2.out, HZ2.out]
      exact zv_norm 1
    · show z2.length ≤ _
      rw [HZ2.out]
      exact Nat.le_trans (limbs_len (m := 1) (by decide)) (by omega)
  · have hv : (v == 0) = false := beq_eq_false_iff_ne.2 (fun h => hz (HV.out.1 h))
    have HZ := Lib.hid hz
    clear hz
    go_wp2_with fail
    go_region_held3 (fun w' => w'.cell? ⟨w.heap.size, 0, none⟩ = some (.bool b) ∧ w'.cell? ⟨w.heap.size, 1, none⟩ = some (.slice A xs.length c) ∧ w'.cell? ⟨w.heap.size, 2, none⟩ = some (.slice B ys.length d)) (go_keep)
      (first
        | (go_at_call 66
           refine (whole_ok W.drew B d ys (HY.out.below HBW.out.drew) (by omega)).mono ?_
           rintro e w2 ⟨b2, A2, c2, z2, rfl, HB2, HZ2, hz2, hB2⟩
           have kc0 := (HVW0.out.drew.below' hB2).cell 0 rfl
           have kc1 := (HVW0.out.drew.below' hB2).cell 1 rfl
           have kc2 := (HVW0.out.drew.below' hB2).cell 2 rfl
           have dc0 := (HVW1.out.drew.below' hB2).cell 0 rfl
           have dc1 := (HVW1.out.drew.below' hB2).cell 1 rfl
           have df0 := (HVW1.out.drew.below' hB2).thaw 0
           have df1 := (HVW1.out.drew.below' hB2).thaw 1
           have ec0 := (HVW2.out.drew.below' hB2).cell 0 rfl
           have ec1 := (HVW2.out.drew.below' hB2).cell 1 rfl
           have ef0 := (HVW2.out.drew.below' hB2).thaw 0
           have ef1 := (HVW2.out.drew.below' hB2).thaw 1
           have HV12 := Lib.hid (HVW1.out.drew.below' hB2)
           have HV22 := Lib.hid (HVW2.out.drew.below' hB2)
           have HBe := Lib.hid (HBW.out.drew.trans (hB2.mono HBW.out.drew.size))
           have RZ := Lib.hid hz2
           clear hB2 hz2))
    have RX := Lib.hid (HX.out.below HBe.out)
    go_wp2_with fail
    have p0 : Vr ((w2.setCell ⟨gW1, 0, none⟩ (.bool b)).setCell ⟨gW1, 1, none⟩ (.slice A xs.length c)) gW1 31 #[.bool b, .slice A xs.length c] := ((HV12.out.set 0 _).set 1 _)
    have rx0 := (RX.out).apart (HV12.out) (nd_int _ _ _ _) 0 (.bool b)
    have rx1 := (rx0).apart ((HV12.out).set 0 (.bool b)) (nd_int _ _ _ _) 1 (.slice A xs.length c)
    have ry0 := (RZ.out).apart (HV12.out) (nd_int _ _ _ _) 0 (.bool b)
    have ry1 := (ry0).apart ((HV12.out).set 0 (.bool b)) (nd_int _ _ _ _) 1 (.slice A xs.length c)
    have q0 := (HV22.out.other hneW21 0 (.bool b)).other hneW21 1 (.slice A xs.length c)
    have Q0 := Lib.hid q0
    have q1 : Vr ((((w2.setCell ⟨gW1, 0, none⟩ (.bool b)).setCell ⟨gW1, 1, none⟩ (.slice A xs.length c)).setCell ⟨gW2, 0, none⟩ (.bool b2)).setCell ⟨gW2, 1, none⟩ (.slice A2 z2.length c2)) gW2 31 #[.bool b2, .slice A2 z2.length c2] := ((Q0.out.set 0 _).set 1 _)
    have sx0 := (rx1).apart (Q0.out) (nd_int _ _ _ _) 0 (.bool b2)
    have sx1 := (sx0).apart ((Q0.out).set 0 (.bool b2)) (nd_int _ _ _ _) 1 (.slice A2 z2.length c2)
    have sy0 := (ry1).apart (Q0.out) (nd_int _ _ _ _) 0 (.bool b2)
    have sy1 := (sy0).apart ((Q0.out).set 0 (.bool b2)) (nd_int _ _ _ _) 1 (.slice A2 z2.length c2)
    have p1 := (p0.other hneW12 0 (.bool b2)).other hneW12 1 (.slice A2 z2.length c2)
    refine bodyPost_ret (v := .tuple #[.agg #[.bool b, .slice A xs.length c], .agg #[.bool b2, .slice A2 z2.length c2]]) (by simp [results, Try.results39, go_sem, p1.cell 0 rfl, p1.cell 1 rfl, q1.cell 0 rfl, q1.cell 1 rfl]) rfl ?_
    refine ⟨b, A, c, xs, b2, A2, c2, z2, rfl, ?_, ?_, Nat.le_refl _, ?_, sx1, sy1, (below_set (below_set (below_set (below_set HBe.out hgeW1 _) hgeW1 _) hgeW2 _) hgeW2 _)⟩
    · show zv b xs = qn b xs ys
      unfold qn
      rw [if_neg HZ.out]
    · show zv b2 z2 = qd ys
      unfold qd
      rw [if_neg HZ.out, HB2.out, HZ2.out]
      exact zv_norm _
    · show z2.length ≤ _
      rw [HZ2.out]
      have h1 := limbs_div_len HY.out.2 1
      have h2 := V_nonneg HY.out.2
      rw [Nat.div_one] at h1
      rw [show (V ys).natAbs = (V ys).toNat by omega]
      omega

set_option maxHeartbeats 1600000 in
theorem qmake_ok (w : World) (b1 b2 : Bool) (A B : Option Addr) (c d : Nat) (xs ys : List Int) (hx : RN w A c xs) (hy : RN w B d ys) (hsx : xs.length ≤ 35184372088800) (hsy : ys.length ≤ 35184372088800) (ok : Bool) (hok : Hid (ok = decide (V ys ≠ 0))) :
    Calls Try.prog 37 #[.agg #[.bool b1, .slice A xs.length c], .agg #[.bool b2, .slice B ys.length d]] w (RetQB (qv (b1 != b2) xs ys) ok w) := by
  have HX := Lib.hid hx
  have HY := Lib.hid hy
  clear hx hy
  go_enter Try.func37, Try.ntmps37
  go_wp2_with fail
  obtain ⟨W, hW⟩ : ∃ W, W = (((w.alloc (.cells #[.bool b1, .slice A xs.length c] 31)).alloc (.cells #[.bool b2, .slice B ys.length d] 31)).alloc (.cells #[.bool false, .slice none 0 0, .slice none 0 0] 33)) := ⟨_, rfl⟩
  rw [← hW]
  have hBW : Below w.heap.size w W := by rw [hW]; exact ((((Below.refl _ _).alloc (Nat.le_refl _) _).alloc (by simp only [size_alloc]; omega) _).alloc (by simp only [size_alloc]; omega) _)
  have vW0 : Vr W (w.heap.size) 31 #[.bool b1, .slice A xs.length c] := by rw [hW]; exact (((Vr.new' _ _ _ (by simp only [size_alloc])).alloc _).alloc _)
  have vW1 : Vr W (w.heap.size + 1) 31 #[.bool b2, .slice B ys.length d] := by rw [hW]; exact ((Vr.new' _ _ _ (by simp only [size_alloc])).alloc _)
  have vW2 : Vr W (w.heap.size + 1 + 1) 33 #[.bool false, .slice none 0 0, .slice none 0 0] := by rw [hW]; exact (Vr.new' _ _ _ (by simp only [size_alloc]))
  clear hW
  obtain ⟨gW2, hgW2⟩ : ∃ g, w.heap.size + 1 + 1 = g := ⟨_, rfl⟩
  rw [hgW2] at vW2 ⊢
  obtain ⟨gW1, hgW1⟩ : ∃ g, w.heap.size + 1 = g := ⟨_, rfl⟩
  rw [hgW1] at vW1 ⊢
  have hneW01 : w.heap.size ≠ gW1 := by omega
  have hneW02 : w.heap.size ≠ gW2 := by omega
  have hgeW1 : w.heap.size ≤ gW1 := by omega
  have hneW10 : gW1 ≠ w.heap.size := by omega
  have hneW12 : gW1 ≠ gW2 := by omega
  have hgeW2 : w.heap.size ≤ gW2 := by omega
  have hneW20 : gW2 ≠ w.heap.size := by omega
  have hneW21 : gW2 ≠ gW1 := by omega
  have HVW0 := Lib.hid vW0
  have HVW1 := Lib.hid vW1
  have HVW2 := Lib.hid vW2
  have HBW := Lib.hid hBW
  clear hBW vW0 vW1 vW2 hgW1 hgW2
  have oc0 := (HVW0.out).cell 0 rfl
  have oc1 := (HVW0.out).cell 1 rfl
  have pc0 := (HVW1.out).cell 0 rfl
  have pc1 := (HVW1.out).cell 1 rfl
  refine (bits_ok W B d ys (HY.out.below HBW.out) (by omega)).mono ?_
  rintro e w1' ⟨v, rfl, HV, hv0, rfl⟩
  by_cases hz : V ys = 0
  · have hv : v = 0 := HV.out.2 hz
    subst hv
    have HZ := Lib.hid hz
    obtain rfl : ok = false := by rw [hok.out]; exact decide_eq_false (fun h => h hz)
    clear hz
    go_wp2_with fail
    refine (zero_ok W).mono ?_
    rintro e w2 ⟨b3, A2, c2, x2, B2, d2, y2, rfl, HQ1, HQ2, HQ3, hr1, hr2, hB2⟩
    have kc0 := (HVW2.out.below' hB2).cell 0 rfl
    have kc1 := (HVW2.out.below' hB2).cell 1 rfl
    have kc2 := (HVW2.out.below' hB2).cell 2 rfl
    have kf0 := (HVW2.out.below' hB2).thaw 0
    have kf1 := (HVW2.out.below' hB2).thaw 1
    have kf2 := (HVW2.out.below' hB2).thaw 2
    have HV2 := Lib.hid (HVW2.out.below' hB2)
    have HB2 := Lib.hid (HBW.out.trans (hB2.mono HBW.out.size))
    have HR1 := Lib.hid hr1
    have HR2 := Lib.hid hr2
    clear hB2 hr1 hr2
    go_wp2_with fail
    have v3 : Vr (((w2.setCell ⟨gW2, 0, none⟩ (.bool b3)).setCell ⟨gW2, 1, none⟩ (.slice A2 x2.length c2)).setCell ⟨gW2, 2, none⟩ (.slice B2 y2.length d2)) gW2 33 #[.bool b3, .slice A2 x2.length c2, .slice B2 y2.length d2] := (((HV2.out.set 0 _).set 1 _).set 2 _)
    have r0 := (HR1.out).apart (HV2.out) (nd_rat _ _ _ _ _ _ _) 0 (.bool b3)
    have r1 := (r0).apart ((HV2.out).set 0 (.bool b3)) (nd_rat _ _ _ _ _ _ _) 1 (.slice A2 x2.length c2)
    have r2 := (r1).apart (((HV2.out).set 0 (.bool b3)).set 1 (.slice A2 x2.length c2)) (nd_rat _ _ _ _ _ _ _) 2 (.slice B2 y2.length d2)
    have s0 := (HR2.out).apart (HV2.out) (nd_rat _ _ _ _ _ _ _) 0 (.bool b3)
    have s1 := (s0).apart ((HV2.out).set 0 (.bool b3)) (nd_rat _ _ _ _ _ _ _) 1 (.slice A2 x2.length c2)
    have s2 := (s1).apart (((HV2.out).set 0 (.bool b3)).set 1 (.slice A2 x2.length c2)) (nd_rat _ _ _ _ _ _ _) 2 (.slice B2 y2.length d2)
    refine bodyPost_ret (v := .tuple #[.agg #[.bool b3, .slice A2 x2.length c2, .slice B2 y2.length d2], .bool false]) (by simp [results, Try.results37, go_sem, v3.cell 0 rfl, v3.cell 1 rfl, v3.cell 2 rfl]) rfl ?_
    exact ⟨b3, A2, c2, x2, B2, d2, y2, rfl, by rw [qv_zero HZ.out]; exact HQ1, by rw [qv_zero HZ.out]; exact HQ2, by rw [qv_zero HZ.out]; exact HQ3, r2, s2, (below_set (below_set (below_set HB2.out hgeW2 _) hgeW2 _) hgeW2 _)⟩
  · have hv : (v == 0) = false := beq_eq_false_iff_ne.2 (fun h => hz (HV.out.1 h))
    obtain rfl : ok = true := by rw [hok.out]; exact decide_eq_true hz
    clear hz
    go_wp2_with fail
    refine (lowest_ok W (b1 != b2) A B c d xs ys (HX.out.below HBW.out) (HY.out.below HBW.out) hsx hsy).mono ?_
    rintro e w2 ⟨b3, A2, c2, x2, B2, d2, y2, rfl, HQ1, HQ2, HQ3, hr1, hr2, hB2⟩
    have kc0 := (HVW2.out.below' hB2).cell 0 rfl
    have kc1 := (HVW2.out.below' hB2).cell 1 rfl
    have kc2 := (HVW2.out.below' hB2).cell 2 rfl
    have kf0 := (HVW2.out.below' hB2).thaw 0
    have kf1 := (HVW2.out.below' hB2).thaw 1
    have kf2 := (HVW2.out.below' hB2).thaw 2
    have HV2 := Lib.hid (HVW2.out.below' hB2)
    have HB2 := Lib.hid (HBW.out.trans (hB2.mono HBW.out.size))
    have HR1 := Lib.hid hr1
    have HR2 := Lib.hid hr2
    clear hB2 hr1 hr2
    go_wp2_with fail
    have v3 : Vr (((w2.setCell ⟨gW2, 0, none⟩ (.bool b3)).setCell ⟨gW2, 1, none⟩ (.slice A2 x2.length c2)).setCell ⟨gW2, 2, none⟩ (.slice B2 y2.length d2)) gW2 33 #[.bool b3, .slice A2 x2.length c2, .slice B2 y2.length d2] := (((HV2.out.set 0 _).set 1 _).set 2 _)
    have r0 := (HR1.out).apart (HV2.out) (nd_rat _ _ _ _ _ _ _) 0 (.bool b3)
    have r1 := (r0).apart ((HV2.out).set 0 (.bool b3)) (nd_rat _ _ _ _ _ _ _) 1 (.slice A2 x2.length c2)
    have r2 := (r1).apart (((HV2.out).set 0 (.bool b3)).set 1 (.slice A2 x2.length c2)) (nd_rat _ _ _ _ _ _ _) 2 (.slice B2 y2.length d2)
    have s0 := (HR2.out).apart (HV2.out) (nd_rat _ _ _ _ _ _ _) 0 (.bool b3)
    have s1 := (s0).apart ((HV2.out).set 0 (.bool b3)) (nd_rat _ _ _ _ _ _ _) 1 (.slice A2 x2.length c2)
    have s2 := (s1).apart (((HV2.out).set 0 (.bool b3)).set 1 (.slice A2 x2.length c2)) (nd_rat _ _ _ _ _ _ _) 2 (.slice B2 y2.length d2)
    refine bodyPost_ret (v := .tuple #[.agg #[.bool b3, .slice A2 x2.length c2, .slice B2 y2.length d2], .bool true]) (by simp [results, Try.results37, go_sem, v3.cell 0 rfl, v3.cell 1 rfl, v3.cell 2 rfl]) rfl ?_
    exact ⟨b3, A2, c2, x2, B2, d2, y2, rfl, HQ1, HQ2, HQ3, r2, s2, (below_set (below_set (below_set HB2.out hgeW2 _) hgeW2 _) hgeW2 _)⟩

set_option maxHeartbeats 1600000 in
theorem qof_ok (w : World) (n m : Int) (hn0 : -9223372036854775808 ≤ n) (hn1 : n ≤ 9223372036854775807) (hm0 : 0 < m) (hm1 : m ≤ 9223372036854775807) :
    Calls Try.prog 20 #[.int .i64 n, .int .i64 m] w (RetQB (mkRat n m.toNat) true w) := by
  go_enter Try.func20, Try.ntmps20
  go_wp2_with fail
  obtain ⟨W, hW⟩ : ∃ W, W = (w.alloc (.cells #[.bool false, .slice none 0 0, .slice none 0 0] 33)) := ⟨_, rfl⟩
  rw [← hW]
  have hBW : Below w.heap.size w W := by rw [hW]; exact ((Below.refl _ _).alloc (Nat.le_refl _) _)
  have vW0 : Vr W (w.heap.size) 33 #[.bool false, .slice none 0 0, .slice none 0 0] := by rw [hW]; exact (Vr.new' _ _ _ (by simp only [size_alloc]))
  clear hW
  have HVW0 := Lib.hid vW0
  have HBW := Lib.hid hBW
  clear hBW vW0
  refine (iof_ok W n hn0 hn1).mono ?_
  rintro e w1 ⟨b1, A1, c1, x, rfl, HB1, HX1, hx1, hB1⟩
  have HV1 := Lib.hid (HVW0.out.below' hB1)
  have HBd := Lib.hid (HBW.out.trans (hB1.mono HBW.out.size))
  have RX := Lib.hid hx1
  clear hB1 hx1
  go_wp2_with fail
  refine (iof_ok w1 m (by omega) hm1).mono ?_
  rintro e w2 ⟨b2, A2, c2, y, rfl, HB2, HY2, hy2, hB2⟩
  have HV2 := Lib.hid (HV1.out.below' hB2)
  have HBe := Lib.hid (HBd.out.trans (hB2.mono HBd.out.size))
  have RX2 := Lib.hid (RX.out.below hB2)
  have RY2 := Lib.hid hy2
  clear hB2 hy2
  go_wp2_with fail
  have hok : Hid (true = decide (V y ≠ 0)) := by
    have e3 : V y = m := by rw [HY2.out, V_limbs]; omega
    exact (decide_eq_true (by omega)).symm
  refine (qmake_ok w2 b1 b2 A1 A2 c1 c2 x y RX2.out RY2.out (by rw [HX1.out]; exact Nat.le_trans (limbs_len (m := 2) (by rw [pw_succ, pw_succ, pw_zero]; omega)) (by omega)) (by rw [HY2.out]; exact Nat.le_trans (limbs_len (m := 2) (by rw [pw_succ, pw_succ, pw_zero]; omega)) (by omega)) true hok).mono ?_
  have hq : qv (b1 != b2) x y = mkRat n m.toNat := by
    have e2 : b2 = false := by rw [HB2.out]; exact decide_eq_false (by omega)
    have e3 : V y = m := by rw [HY2.out, V_limbs]; omega
    unfold qv
    rw [e2, e3, show (b1 != false) = b1 by cases b1 <;> rfl, HB1.out, HX1.out, zv_norm]
  rw [hq]
  clear hq
  rintro e w3 ⟨b3, A3, c3, x3, B3, d3, y3, rfl, HQ1, HQ2, HQ3, hr1, hr2, hB3⟩
  have kc0 := (HV2.out.below' hB3).cell 0 rfl
  have kc1 := (HV2.out.below' hB3).cell 1 rfl
  have kc2 := (HV2.out.below' hB3).cell 2 rfl
  have kf0 := (HV2.out.below' hB3).thaw 0
  have kf1 := (HV2.out.below' hB3).thaw 1
  have kf2 := (HV2.out.below' hB3).thaw 2
  have HV3 := Lib.hid (HV2.out.below' hB3)
  have HB3 := Lib.hid (HBe.out.trans (hB3.mono HBe.out.size))
  have HR1 := Lib.hid hr1
  have HR2 := Lib.hid hr2
  clear hB3 hr1 hr2
  go_wp2_with fail
  have v3 : Vr (((w3.setCell ⟨w.heap.size, 0, none⟩ (.bool b3)).setCell ⟨w.heap.size, 1, none⟩ (.slice A3 x3.length c3)).setCell ⟨w.heap.size, 2, none⟩ (.slice B3 y3.length d3)) w.heap.size 33 #[.bool b3, .slice A3 x3.length c3, .slice B3 y3.length d3] := (((HV3.out.set 0 _).set 1 _).set 2 _)
  have r0 := (HR1.out).apart (HV3.out) (nd_rat _ _ _ _ _ _ _) 0 (.bool b3)
  have r1 := (r0).apart ((HV3.out).set 0 (.bool b3)) (nd_rat _ _ _ _ _ _ _) 1 (.slice A3 x3.length c3)
  have r2 := (r1).apart (((HV3.out).set 0 (.bool b3)).set 1 (.slice A3 x3.length c3)) (nd_rat _ _ _ _ _ _ _) 2 (.slice B3 y3.length d3)
  have s0 := (HR2.out).apart (HV3.out) (nd_rat _ _ _ _ _ _ _) 0 (.bool b3)
  have s1 := (s0).apart ((HV3.out).set 0 (.bool b3)) (nd_rat _ _ _ _ _ _ _) 1 (.slice A3 x3.length c3)
  have s2 := (s1).apart (((HV3.out).set 0 (.bool b3)).set 1 (.slice A3 x3.length c3)) (nd_rat _ _ _ _ _ _ _) 2 (.slice B3 y3.length d3)
  refine bodyPost_ret (v := .tuple #[.agg #[.bool b3, .slice A3 x3.length c3, .slice B3 y3.length d3], .bool true]) (by simp [results, Try.results20, go_sem, v3.cell 0 rfl, v3.cell 1 rfl, v3.cell 2 rfl]) rfl ?_
  exact ⟨b3, A3, c3, x3, B3, d3, y3, rfl, HQ1, HQ2, HQ3, r2, s2, (below_set (below_set (below_set HB3.out (Nat.le_refl _) _) (Nat.le_refl _) _) (Nat.le_refl _) _)⟩

end Go.Proofs.Ytgdlnmhpnlmofaa.M
