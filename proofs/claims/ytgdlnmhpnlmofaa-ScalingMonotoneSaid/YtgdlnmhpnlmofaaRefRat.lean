/- Rational numbers of the reference: parts, lowest terms, making. -/
import Derived.Test.YtgdlnmhpnlmofaaRefInt
namespace Go.Proofs.Ytgdlnmhpnlmofaa.M
set_option maxRecDepth 10000
open Go.RowKit
set_option linter.unusedVariables false
set_option linter.unusedSimpArgs false
theorem BL_zero {N b : Nat} (h : BL N b) : b = 0 ↔ N = 0 := by
  rcases h with ⟨h1, h2⟩ | ⟨h1, h2, h3⟩
  · omega
  · have := Nat.two_pow_pos (b - 1)
    omega

set_option maxHeartbeats 1600000 in
theorem top_ok (w : World) (b : Bool) (A B : Option Addr) (c d : Nat) (xs ys : List Int) (hx : RN w A c xs) (hy : RN w B d ys) (hsx : xs.length ≤ 35184372088800) (hsy : ys.length ≤ 35184372088800) :
    Calls Try.prog 50 #[.agg #[.bool b, .slice A xs.length c, .slice B ys.length d]] w (RetZI (qn b xs ys) w) := by
  have HX := Lib.hid hx
  have HY := Lib.hid hy
  clear hx hy
  go_enter Try.func50, Try.ntmps50
  go_wp2_with fail
  obtain ⟨W, hW⟩ : ∃ W, W = ((w.alloc (.cells #[.bool b, .slice A xs.length c, .slice B ys.length d] 33)).alloc (.cells #[.bool false, .slice none 0 0] 31)) := ⟨_, rfl⟩
  rw [← hW]
  have hBW : Below w.heap.size w W := by rw [hW]; exact (((Below.refl _ _).alloc (Nat.le_refl _) _).alloc (by simp only [size_alloc]; omega) _)
  have vW0 : Vr W (w.heap.size) 33 #[.bool b, .slice A xs.length c, .slice B ys.length d] := by rw [hW]; exact ((Vr.new' _ _ _ (by simp only [size_alloc])).alloc _)
  have vW1 : Vr W (w.heap.size + 1) 31 #[.bool false, .slice none 0 0] := by rw [hW]; exact (Vr.new' _ _ _ (by simp only [size_alloc]))
  clear hW
  obtain ⟨gW1, hgW1⟩ : ∃ g, w.heap.size + 1 = g := ⟨_, rfl⟩
  rw [hgW1] at vW1 ⊢
  have hneW01 : w.heap.size ≠ gW1 := by omega
  have hgeW1 : w.heap.size ≤ gW1 := by omega
  have hneW10 : gW1 ≠ w.heap.size := by omega
  have HVW0 := Lib.hid vW0
  have HVW1 := Lib.hid vW1
  have HBW := Lib.hid hBW
  clear hBW vW0 vW1 hgW1
  have oc0 := (HVW0.out).cell 0 rfl
  have oc1 := (HVW0.out).cell 1 rfl
  have oc2 := (HVW0.out).cell 2 rfl
  have RX := Lib.hid (HX.out.below HBW.out)
  refine (rbits_ok W B d ys (HY.out.below HBW.out) (by omega)).mono ?_
  rintro e wa ⟨va, rfl, HBLa, _, hB⟩
  have HVW0ac0 := (HVW0.out.below' hB).cell 0 rfl
  have HVW0ac1 := (HVW0.out.below' hB).cell 1 rfl
  have HVW0ac2 := (HVW0.out.below' hB).cell 2 rfl
  have HVW0a := Lib.hid (HVW0.out.below' hB)
  have HVW1ac0 := (HVW1.out.below' hB).cell 0 rfl
  have HVW1ac1 := (HVW1.out.below' hB).cell 1 rfl
  have HVW1af0 := (HVW1.out.below' hB).thaw 0
  have HVW1af1 := (HVW1.out.below' hB).thaw 1
  have HVW1a := Lib.hid (HVW1.out.below' hB)
  have RXa := Lib.hid (RX.out.below hB)
  have Ba := Lib.hid (HBW.out.trans (hB.mono HBW.out.size))
  clear hB
  have h0 := V_nonneg HY.out.2
  by_cases hz : V ys = 0
  · obtain rfl : va = 0 := (BL_zero HBLa.out).2 (by omega)
    have HZ := Lib.hid hz
    clear hz h0
    go_wp2_with fail
    refine (riof_ok wa 0 (by omega) (by omega)).mono ?_
    rintro e w1 ⟨b1, A1, c1, z, rfl, HB1, HZ1, hz, hB1⟩
    have dc0 := (HVW1a.out.below' hB1).cell 0 rfl
    have dc1 := (HVW1a.out.below' hB1).cell 1 rfl
    have df0 := (HVW1a.out.below' hB1).thaw 0
    have df1 := (HVW1a.out.below' hB1).thaw 1
    have HV1 := Lib.hid (HVW1a.out.below' hB1)
    have HBd := Lib.hid (Ba.out.trans (hB1.mono Ba.out.size))
    have HR := Lib.hid hz
    have EQ : Hid (qn b xs ys = 0) := by show _ = _; unfold qn; rw [if_pos HZ.out]
    clear hB1 hz
    go_wp2_with fail
    have v3 : Vr ((w1.setCell ⟨gW1, 0, none⟩ (.bool b1)).setCell ⟨gW1, 1, none⟩ (.slice A1 z.length c1)) gW1 31 #[.bool b1, .slice A1 z.length c1] := ((HV1.out.set 0 _).set 1 _)
    have r0 := (HR.out).apart (HV1.out) (nd_int _ _ _ _) 0 (.bool b1)
    have r1 := (r0).apart ((HV1.out).set 0 (.bool b1)) (nd_int _ _ _ _) 1 (.slice A1 z.length c1)
    refine bodyPost_ret (v := .agg #[.bool b1, .slice A1 z.length c1]) (by simp [results, Try.results50, go_sem, v3.cell 0 rfl, v3.cell 1 rfl]) rfl ?_
    exact ⟨_, A1, c1, z, rfl, by rw [EQ.out]; exact HB1, by rw [EQ.out]; exact HZ1, r1, (below_set (below_set HBd.out hgeW1 _) hgeW1 _)⟩
  · have hv : ((va : Int) == 0) = false := beq_eq_false_iff_ne.2 (fun h => hz (by have := (BL_zero HBLa.out).1 (by omega); omega))
    have EQ : Hid (qn b xs ys = zv b xs) := by show _ = _; unfold qn; rw [if_neg hz]
    clear hz h0
    go_wp2_with fail
    refine (rinorm_ok wa b A c xs RXa.out (by omega)).mono ?_
    rintro e w1 ⟨b1, A1, c1, z, rfl, HB1, HZ1, hz, hB1⟩
    have dc0 := (HVW1a.out.below' hB1).cell 0 rfl
    have dc1 := (HVW1a.out.below' hB1).cell 1 rfl
    have df0 := (HVW1a.out.below' hB1).thaw 0
    have df1 := (HVW1a.out.below' hB1).thaw 1
    have HV1 := Lib.hid (HVW1a.out.below' hB1)
    have HBd := Lib.hid (Ba.out.trans (hB1.mono Ba.out.size))
    have HR := Lib.hid hz
    clear hB1 hz
    go_wp2_with fail
    have v3 : Vr ((w1.setCell ⟨gW1, 0, none⟩ (.bool b1)).setCell ⟨gW1, 1, none⟩ (.slice A1 z.length c1)) gW1 31 #[.bool b1, .slice A1 z.length c1] := ((HV1.out.set 0 _).set 1 _)
    have r0 := (HR.out).apart (HV1.out) (nd_int _ _ _ _) 0 (.bool b1)
    have r1 := (r0).apart ((HV1.out).set 0 (.bool b1)) (nd_int _ _ _ _) 1 (.slice A1 z.length c1)
    refine bodyPost_ret (v := .agg #[.bool b1, .slice A1 z.length c1]) (by simp [results, Try.results50, go_sem, v3.cell 0 rfl, v3.cell 1 rfl]) rfl ?_
    exact ⟨_, A1, c1, z, rfl, by rw [EQ.out]; exact HB1, by rw [EQ.out]; exact HZ1, r1, (below_set (below_set HBd.out hgeW1 _) hgeW1 _)⟩

set_option maxHeartbeats 1600000 in
theorem low_ok (w : World) (b : Bool) (A B : Option Addr) (c d : Nat) (xs ys : List Int) (hx : RN w A c xs) (hy : RN w B d ys) (hsx : xs.length ≤ 35184372088800) (hsy : ys.length ≤ 35184372088800) :
    Calls Try.prog 52 #[.agg #[.bool b, .slice A xs.length c, .slice B ys.length d]] w (RetN (qd ys).toNat w) := by
  have HX := Lib.hid hx
  have HY := Lib.hid hy
  clear hx hy
  go_enter Try.func52, Try.ntmps52
  go_wp2_with fail
  obtain ⟨W, hW⟩ : ∃ W, W = (w.alloc (.cells #[.bool b, .slice A xs.length c, .slice B ys.length d] 33)) := ⟨_, rfl⟩
  rw [← hW]
  have hBW : Below w.heap.size w W := by rw [hW]; exact ((Below.refl _ _).alloc (Nat.le_refl _) _)
  have vW0 : Vr W (w.heap.size) 33 #[.bool b, .slice A xs.length c, .slice B ys.length d] := by rw [hW]; exact (Vr.new' _ _ _ (by simp only [size_alloc]))
  clear hW
  have HVW0 := Lib.hid vW0
  have HBW := Lib.hid hBW
  clear hBW vW0
  have oc0 := (HVW0.out).cell 0 rfl
  have oc1 := (HVW0.out).cell 1 rfl
  have oc2 := (HVW0.out).cell 2 rfl
  have RY := Lib.hid (HY.out.below HBW.out)
  refine (rbits_ok W B d ys RY.out (by omega)).mono ?_
  rintro e wa ⟨va, rfl, HBLa, _, hB⟩
  have HVW0ac0 := (HVW0.out.below' hB).cell 0 rfl
  have HVW0ac1 := (HVW0.out.below' hB).cell 1 rfl
  have HVW0ac2 := (HVW0.out.below' hB).cell 2 rfl
  have HVW0a := Lib.hid (HVW0.out.below' hB)
  have RYa := Lib.hid (RY.out.below hB)
  have Ba := Lib.hid (HBW.out.trans (hB.mono HBW.out.size))
  clear hB
  have h0 := V_nonneg HY.out.2
  by_cases hz : V ys = 0
  · obtain rfl : va = 0 := (BL_zero HBLa.out).2 (by omega)
    have EQ : Hid (qd ys = 1) := by show _ = _; unfold qd; rw [if_pos hz]
    clear hz h0
    go_wp2_with fail
    refine (rof_ok wa 1 (by omega) (by omega)).mono ?_
    rintro e w1 ⟨A1, c1, z, rfl, HZ1, hz, hB1⟩
    have HBd := Lib.hid (Ba.out.trans (hB1.mono Ba.out.size))
    have HR := Lib.hid hz
    clear hB1 hz
    go_wp2_with fail
    go_ret
    exact ⟨A1, c1, z, rfl, by rw [EQ.out]; exact HZ1, HR.out, HBd.out⟩
  · have hv : ((va : Int) == 0) = false := beq_eq_false_iff_ne.2 (fun h => hz (by have := (BL_zero HBLa.out).1 (by omega); omega))
    have EQ : Hid (qd ys = V ys) := by show _ = _; unfold qd; rw [if_neg hz]
    clear hz h0
    go_wp2_with fail
    refine (rnorm_ok wa B d ys RYa.out (by omega)).mono ?_
    rintro e w1 ⟨A1, c1, z, rfl, HZ1, hz, hB1⟩
    have HBd := Lib.hid (Ba.out.trans (hB1.mono Ba.out.size))
    have HR := Lib.hid hz
    clear hB1 hz
    go_wp2_with fail
    go_ret
    exact ⟨A1, c1, z, rfl, by rw [EQ.out]; exact HZ1, HR.out, HBd.out⟩

set_option maxHeartbeats 800000 in
theorem rzero_ok (w : World)  :
    Calls Try.prog 83 #[] w (RetQ 0 w) := by
  go_enter Try.func83, Try.ntmps83
  go_wp2_with fail
  obtain ⟨W, hW⟩ : ∃ W, W = (w.alloc (.cells #[.bool false, .slice none 0 0, .slice none 0 0] 33)) := ⟨_, rfl⟩
  rw [← hW]
  have hBW : Below w.heap.size w W := by rw [hW]; exact ((Below.refl _ _).alloc (Nat.le_refl _) _)
  have vW0 : Vr W (w.heap.size) 33 #[.bool false, .slice none 0 0, .slice none 0 0] := by rw [hW]; exact (Vr.new' _ _ _ (by simp only [size_alloc]))
  clear hW
  have HVW0 := Lib.hid vW0
  have HBW := Lib.hid hBW
  clear hBW vW0
  refine (rof_ok W 1 (by omega) (by omega)).mono ?_
  rintro e w1 ⟨A1, c1, z, rfl, HZ1, hz, hB1⟩
  have dc0 := (HVW0.out.below' hB1).cell 0 rfl
  have dc1 := (HVW0.out.below' hB1).cell 1 rfl
  have dc2 := (HVW0.out.below' hB1).cell 2 rfl
  have df0 := (HVW0.out.below' hB1).thaw 0
  have df1 := (HVW0.out.below' hB1).thaw 1
  have df2 := (HVW0.out.below' hB1).thaw 2
  have HV1 := Lib.hid (HVW0.out.below' hB1)
  have HBd := Lib.hid (HBW.out.trans (hB1.mono HBW.out.size))
  have HR := Lib.hid hz
  clear hB1 hz
  go_wp2_with fail
  have v3 : Vr (((w1.setCell ⟨w.heap.size, 0, none⟩ (.bool false)).setCell ⟨w.heap.size, 1, none⟩ (.slice none 0 0)).setCell ⟨w.heap.size, 2, none⟩ (.slice A1 z.length c1)) w.heap.size 33 #[.bool false, .slice none 0 0, .slice A1 z.length c1] := (((HV1.out.set 0 _).set 1 _).set 2 _)
  have r0 := (HR.out).apart (HV1.out) (nd_rat _ _ _ _ _ _ _) 0 (.bool false)
  have r1 := (r0).apart ((HV1.out).set 0 (.bool false)) (nd_rat _ _ _ _ _ _ _) 1 (.slice none 0 0)
  have r2 := (r1).apart (((HV1.out).set 0 (.bool false)).set 1 (.slice none 0 0)) (nd_rat _ _ _ _ _ _ _) 2 (.slice A1 z.length c1)
  refine bodyPost_ret (v := .agg #[.bool false, .slice none 0 0, .slice A1 z.length c1]) (by simp [results, Try.results83, go_sem, v3.cell 0 rfl, v3.cell 1 rfl, v3.cell 2 rfl]) rfl ?_
  exact ⟨false, none, 0, [], A1, c1, z, rfl, rfl, rfl, HZ1, RN.nil _, r2, (below_set (below_set (below_set HBd.out (Nat.le_refl _) _) (Nat.le_refl _) _) (Nat.le_refl _) _)⟩

set_option maxHeartbeats 3200000 in
theorem reduce_ok (w : World) (b : Bool) (A B : Option Addr) (c d : Nat) (xs ys : List Int) (hx : RN w A c xs) (hy : RN w B d ys) (hsx : xs.length ≤ 35184372088800) (hsy : ys.length ≤ 35184372088800) (hny : V ys ≠ 0) :
    Calls Try.prog 53 #[.agg #[.bool b, .slice A xs.length c], .slice B ys.length d] w (RetQ (qv b xs ys) w) := by
  have HX := Lib.hid hx
  have HY := Lib.hid hy
  clear hx hy
  have HNY := Lib.hid hny
  clear hny
  go_enter Try.func53, Try.ntmps53
  go_wp2_with fail
  obtain ⟨W, hW⟩ : ∃ W, W = ((w.alloc (.cells #[.bool b, .slice A xs.length c] 31)).alloc (.cells #[.bool false, .slice none 0 0, .slice none 0 0] 33)) := ⟨_, rfl⟩
  rw [← hW]
  have hBW : Below w.heap.size w W := by rw [hW]; exact (((Below.refl _ _).alloc (Nat.le_refl _) _).alloc (by simp only [size_alloc]; omega) _)
  have vW0 : Vr W (w.heap.size) 31 #[.bool b, .slice A xs.length c] := by rw [hW]; exact ((Vr.new' _ _ _ (by simp only [size_alloc])).alloc _)
  have vW1 : Vr W (w.heap.size + 1) 33 #[.bool false, .slice none 0 0, .slice none 0 0] := by rw [hW]; exact (Vr.new' _ _ _ (by simp only [size_alloc]))
  clear hW
  obtain ⟨gW1, hgW1⟩ : ∃ g, w.heap.size + 1 = g := ⟨_, rfl⟩
  rw [hgW1] at vW1 ⊢
  have hneW01 : w.heap.size ≠ gW1 := by omega
  have hgeW1 : w.heap.size ≤ gW1 := by omega
  have hneW10 : gW1 ≠ w.heap.size := by omega
  have HVW0 := Lib.hid vW0
  have HVW1 := Lib.hid vW1
  have HBW := Lib.hid hBW
  clear hBW vW0 vW1 hgW1
  have oc0 := (HVW0.out).cell 0 rfl
  have oc1 := (HVW0.out).cell 1 rfl
  go_upto_region 1 with fail
  go_wp2_with fail
  refine (rinorm_ok W b A c xs (HX.out.below HBW.out) (by omega)).mono ?_
  rintro e w1 ⟨b1, A1, c1, x, rfl, HB1, HX1, hx1, hB1⟩
  have HV1 := Lib.hid (HVW1.out.below' hB1)
  have HBa := Lib.hid (HBW.out.trans (hB1.mono HBW.out.size))
  have RX1 := Lib.hid hx1
  clear hB1 hx1
  go_upto_region 2 with fail
  obtain ⟨T, hT⟩ : ∃ T, T = (w1.alloc (.cells #[.bool b1, .slice A1 x.length c1] 31)) := ⟨_, rfl⟩
  rw [← hT]
  have hBT : Below w1.heap.size w1 T := by rw [hT]; exact ((Below.refl _ _).alloc (Nat.le_refl _) _)
  have vT0 : Vr T (w1.heap.size) 31 #[.bool b1, .slice A1 x.length c1] := by rw [hT]; exact (Vr.new' _ _ _ (by simp only [size_alloc]))
  clear hT
  have HVT0 := Lib.hid vT0
  have HBT := Lib.hid hBT
  clear hBT vT0
  have HV2 := Lib.hid (HV1.out.below' HBT.out)
  have HBt := Lib.hid (HBa.out.trans (HBT.out.mono HBa.out.size))
  have RX2 := Lib.hid (RX1.out.below HBT.out)
  have RY2 := Lib.hid (HY.out.below HBt.out)
  have HVX : Hid (V x = (((zv b xs).natAbs : Nat) : Int)) := by show _ = _; rw [HX1.out, V_limbs]
  have hlx : x.length ≤ 35184372088800 := by
    rw [HX1.out, zv_abs b HX.out.2]
    have h := limbs_div_len HX.out.2 1
    rw [Nat.div_one] at h
    omega
  have HEB : Hid (zv b1 x = zv b xs) := by show _ = _; rw [HB1.out, HX1.out]; exact zv_norm _
  have tc0 := (HVT0.out).cell 0 rfl
  have tc1 := (HVT0.out).cell 1 rfl
  go_wp2_with fail
  refine (rbits_ok T A1 c1 x RX2.out (by omega)).mono ?_
  rintro e wa ⟨va, rfl, HBLa, _, hB⟩
  have HVT0ac0 := (HVT0.out.below' hB).cell 0 rfl
  have HVT0ac1 := (HVT0.out.below' hB).cell 1 rfl
  have HVT0a := Lib.hid (HVT0.out.below' hB)
  have HV2ac0 := (HV2.out.below' hB).cell 0 rfl
  have HV2ac1 := (HV2.out.below' hB).cell 1 rfl
  have HV2ac2 := (HV2.out.below' hB).cell 2 rfl
  have HV2af0 := (HV2.out.below' hB).thaw 0
  have HV2af1 := (HV2.out.below' hB).thaw 1
  have HV2af2 := (HV2.out.below' hB).thaw 2
  have HV2a := Lib.hid (HV2.out.below' hB)
  have RX2a := Lib.hid (RX2.out.below hB)
  have RY2a := Lib.hid (RY2.out.below hB)
  have Ba := Lib.hid (HBt.out.trans (hB.mono HBt.out.size))
  clear hB
  by_cases hz : V x = 0
  · obtain rfl : va = 0 := (BL_zero HBLa.out).2 (by omega)
    have HZ : Hid (qv b xs ys = 0) := by
      show _ = _
      have h1 : zv b xs = 0 := by have := HVX.out; omega
      unfold qv
      rw [h1]
      exact Rat.zero_mkRat _
    clear hz
    go_wp2_with fail
    refine (rzero_ok wa).mono ?_
    rintro e w2 ⟨b2, A2, c2, x2, B2, d2, y2, rfl, HQ1, HQ2, HQ3, hr1, hr2, hB2⟩
    have kc0 := (HV2a.out.below' hB2).cell 0 rfl
    have kc1 := (HV2a.out.below' hB2).cell 1 rfl
    have kc2 := (HV2a.out.below' hB2).cell 2 rfl
    have kf0 := (HV2a.out.below' hB2).thaw 0
    have kf1 := (HV2a.out.below' hB2).thaw 1
    have kf2 := (HV2a.out.below' hB2).thaw 2
    have HV3 := Lib.hid (HV2a.out.below' hB2)
    have HB2 := Lib.hid (Ba.out.trans (hB2.mono Ba.out.size))
    have HR1 := Lib.hid hr1
    have HR2 := Lib.hid hr2
    clear hB2 hr1 hr2
    go_wp2_with fail
    have v3 : Vr (((w2.setCell ⟨gW1, 0, none⟩ (.bool b2)).setCell ⟨gW1, 1, none⟩ (.slice A2 x2.length c2)).setCell ⟨gW1, 2, none⟩ (.slice B2 y2.length d2)) gW1 33 #[.bool b2, .slice A2 x2.length c2, .slice B2 y2.length d2] := (((HV3.out.set 0 _).set 1 _).set 2 _)
    have r0 := (HR1.out).apart (HV3.out) (nd_rat _ _ _ _ _ _ _) 0 (.bool b2)
    have r1 := (r0).apart ((HV3.out).set 0 (.bool b2)) (nd_rat _ _ _ _ _ _ _) 1 (.slice A2 x2.length c2)
    have r2 := (r1).apart (((HV3.out).set 0 (.bool b2)).set 1 (.slice A2 x2.length c2)) (nd_rat _ _ _ _ _ _ _) 2 (.slice B2 y2.length d2)
    have s0 := (HR2.out).apart (HV3.out) (nd_rat _ _ _ _ _ _ _) 0 (.bool b2)
    have s1 := (s0).apart ((HV3.out).set 0 (.bool b2)) (nd_rat _ _ _ _ _ _ _) 1 (.slice A2 x2.length c2)
    have s2 := (s1).apart (((HV3.out).set 0 (.bool b2)).set 1 (.slice A2 x2.length c2)) (nd_rat _ _ _ _ _ _ _) 2 (.slice B2 y2.length d2)
    refine bodyPost_ret (v := .agg #[.bool b2, .slice A2 x2.length c2, .slice B2 y2.length d2]) (by simp [results, Try.results53, go_sem, v3.cell 0 rfl, v3.cell 1 rfl, v3.cell 2 rfl]) rfl ?_
    exact ⟨b2, A2, c2, x2, B2, d2, y2, rfl, by rw [HZ.out]; exact HQ1, by rw [HZ.out]; exact HQ2, by rw [HZ.out]; exact HQ3, r2, s2, (below_set (below_set (below_set HB2.out hgeW1 _) hgeW1 _) hgeW1 _)⟩
  · have hv : ((va : Int) == 0) = false := beq_eq_false_iff_ne.2 (fun h => hz (by have := (BL_zero HBLa.out).1 (by omega); have := V_nonneg RX2.out.2; omega))
    have HNX := Lib.hid hz
    clear hz
    go_wp2_with fail
    refine (rgcd_ok wa A1 B c1 d x ys RX2a.out RY2a.out hlx hsy).mono ?_
    rintro e w2 ⟨A2, c2, g, rfl, HG, hg, hB2⟩
    have HVT0abc0 := (HVT0a.out.below' hB2).cell 0 rfl
    have HVT0abc1 := (HVT0a.out.below' hB2).cell 1 rfl
    have HVT0ab := Lib.hid (HVT0a.out.below' hB2)
    have HV2b := Lib.hid (HV2a.out.below' hB2)
    have RX2b := Lib.hid (RX2a.out.below hB2)
    have RY2b := Lib.hid (RY2a.out.below hB2)
    have RG := Lib.hid hg
    have Bb := Lib.hid (Ba.out.trans (hB2.mono Ba.out.size))
    clear hB2 hg
    have HVg : Hid (V g = ((Nat.gcd (V x).toNat (V ys).toNat : Nat) : Int)) := by show _ = _; rw [HG.out, V_limbs]
    have HG0 : Hid (0 < V g) := by
      show _ < _
      rw [HVg.out]
      have h1 := V_nonneg RX2.out.2
      have h2 := HNX.out
      have h3 := Nat.gcd_pos_of_pos_left (m := (V x).toNat) (V ys).toNat (by omega)
      omega
    have hlg : g.length ≤ 35184372088800 := by
      rw [HG.out]
      refine Nat.le_trans (limbs_len (m := x.length) ?_) hlx
      have h1 := V_lt RX2.out.2
      have h2 := V_nonneg RX2.out.2
      have h4 := HNX.out
      have h3 := Nat.gcd_le_left (V ys).toNat (show 0 < (V x).toNat by omega)
      omega
    go_wp2_with fail
    refine (rdivMod_ok w2 A1 A2 c1 c2 x g RX2b.out RG.out HG0.out (by omega)).mono ?_
    rintro e w3 ⟨A3, c3, q2, R3, e3, r3, rfl, HQ2, _, hq2, _, hB3⟩
    have HVT0abcc0 := (HVT0ab.out.below' hB3).cell 0 rfl
    have HVT0abcc1 := (HVT0ab.out.below' hB3).cell 1 rfl
    have HVT0abc := Lib.hid (HVT0ab.out.below' hB3)
    have HV2c := Lib.hid (HV2b.out.below' hB3)
    have RY2c := Lib.hid (RY2b.out.below hB3)
    have RGc := Lib.hid (RG.out.below hB3)
    have RQ2 := Lib.hid hq2
    have Bc := Lib.hid (Bb.out.trans (hB3.mono Bb.out.size))
    clear hB3 hq2
    go_wp2_with fail
    refine (rdivMod_ok w3 B A2 d c2 ys g RY2c.out RGc.out HG0.out (by omega)).mono ?_
    rintro e w4 ⟨A4, c4, q3, R4, e4, r4, rfl, HQ3, _, hq3, _, hB4⟩
    have HVT0abcdc0 := (HVT0abc.out.below' hB4).cell 0 rfl
    have HVT0abcdc1 := (HVT0abc.out.below' hB4).cell 1 rfl
    have HVT0abcd := Lib.hid (HVT0abc.out.below' hB4)
    have HV2d := Lib.hid (HV2c.out.below' hB4)
    have RQ2d := Lib.hid (RQ2.out.below hB4)
    have RQ3 := Lib.hid hq3
    have Bd := Lib.hid (Bc.out.trans (hB4.mono Bc.out.size))
    clear hB4 hq3
    rw [HVg.out, Int.toNat_natCast] at HQ2 HQ3
    have hlq : q2.length ≤ 70368744177664 := by
      rw [HQ2.out]
      exact Nat.le_trans (limbs_div_len RX2.out.2 _) (by omega)
    go_wp2_with fail
    refine (rimake_ok w4 b1 A3 c3 q2 RQ2d.out hlq).mono ?_
    rintro e w5 ⟨b5, A5, c5, z5, rfl, HB5, HZ5, hz5, hB5⟩
    have nc0 := (HV2d.out.below' hB5).cell 0 rfl
    have nc1 := (HV2d.out.below' hB5).cell 1 rfl
    have nc2 := (HV2d.out.below' hB5).cell 2 rfl
    have nf0 := (HV2d.out.below' hB5).thaw 0
    have nf1 := (HV2d.out.below' hB5).thaw 1
    have nf2 := (HV2d.out.below' hB5).thaw 2
    have HV2e := Lib.hid (HV2d.out.below' hB5)
    have RZ5 := Lib.hid hz5
    have RQ5 := Lib.hid (RQ3.out.below hB5)
    have Be := Lib.hid (Bd.out.trans (hB5.mono Bd.out.size))
    clear hB5 hz5
    have hlp := low_parts (b := b1) RX2.out.2 HY.out.2 HNY.out (q1 := q2) (by rw [HQ2.out, V_limbs])
    have hqq : qv b1 x ys = qv b xs ys := by unfold qv; rw [HEB.out]
    rw [hqq] at hlp
    have HLP := Lib.hid hlp
    clear hlp hqq
    go_wp2_with fail
    have v3 : Vr (((w5.setCell ⟨gW1, 0, none⟩ (.bool b5)).setCell ⟨gW1, 1, none⟩ (.slice A5 z5.length c5)).setCell ⟨gW1, 2, none⟩ (.slice A4 q3.length c4)) gW1 33 #[.bool b5, .slice A5 z5.length c5, .slice A4 q3.length c4] := (((HV2e.out.set 0 _).set 1 _).set 2 _)
    have r0 := (RZ5.out).apart (HV2e.out) (nd_rat _ _ _ _ _ _ _) 0 (.bool b5)
    have r1 := (r0).apart ((HV2e.out).set 0 (.bool b5)) (nd_rat _ _ _ _ _ _ _) 1 (.slice A5 z5.length c5)
    have r2 := (r1).apart (((HV2e.out).set 0 (.bool b5)).set 1 (.slice A5 z5.length c5)) (nd_rat _ _ _ _ _ _ _) 2 (.slice A4 q3.length c4)
    have s0 := (RQ5.out).apart (HV2e.out) (nd_rat _ _ _ _ _ _ _) 0 (.bool b5)
    have s1 := (s0).apart ((HV2e.out).set 0 (.bool b5)) (nd_rat _ _ _ _ _ _ _) 1 (.slice A5 z5.length c5)
    have s2 := (s1).apart (((HV2e.out).set 0 (.bool b5)).set 1 (.slice A5 z5.length c5)) (nd_rat _ _ _ _ _ _ _) 2 (.slice A4 q3.length c4)
    refine bodyPost_ret (v := .agg #[.bool b5, .slice A5 z5.length c5, .slice A4 q3.length c4]) (by simp [results, Try.results53, go_sem, v3.cell 0 rfl, v3.cell 1 rfl, v3.cell 2 rfl]) rfl ?_
    exact ⟨b5, A5, c5, z5, A4, c4, q3, rfl, by rw [← HLP.out.1]; exact HB5, by rw [← HLP.out.1]; exact HZ5, by rw [← HLP.out.2]; exact HQ3, r2, s2, (below_set (below_set (below_set Be.out hgeW1 _) hgeW1 _) hgeW1 _)⟩

end Go.Proofs.Ytgdlnmhpnlmofaa.M
