/- Rational numbers of the program: difference, quotient, integer part. -/
import Derived.Test.YtocpncjmcaecoaaGreatMo
namespace Go.Proofs.YtocpncjmcaecoaaGreat.M
set_option maxRecDepth 10000
open Go.RowKit
set_option linter.unusedVariables false
set_option linter.unusedSimpArgs false
theorem zv_not' (b : Bool) (xs : List Int) : zv (!b) xs = -zv b xs := by
  cases b
  · rfl
  · show V xs = - -V xs
    omega
set_option maxHeartbeats 800000 in
theorem ineg_ok (w : World) (b : Bool) (A : Option Addr) (c : Nat) (xs : List Int) (hx : RN w A c xs) (hs : xs.length ≤ 70368744177664) :
    Calls Tryz.prog 91 #[.agg #[.bool b, .slice A xs.length c]] w (RetZI (-zv b xs) w) := by
  have HX := Lib.hid hx
  clear hx
  go_enter Tryz.func91, Tryz.ntmps91
  go_wp2_with fail
  obtain ⟨W, hW⟩ : ∃ W, W = ((w.alloc (.cells #[.bool b, .slice A xs.length c] 26)).alloc (.cells #[.bool false, .slice none 0 0] 26)) := ⟨_, rfl⟩
  rw [← hW]
  have hBW : Below w.heap.size w W := by rw [hW]; exact (((Below.refl _ _).alloc (Nat.le_refl _) _).alloc (by simp only [size_alloc]; omega) _)
  have vW0 : Vr W (w.heap.size) 26 #[.bool b, .slice A xs.length c] := by rw [hW]; exact ((Vr.new' _ _ _ (by simp only [size_alloc])).alloc _)
  have vW1 : Vr W (w.heap.size + 1) 26 #[.bool false, .slice none 0 0] := by rw [hW]; exact (Vr.new' _ _ _ (by simp only [size_alloc]))
  clear hW
  obtain ⟨gW1, hgW1⟩ : ∃ g, w.heap.size + 1 = g := ⟨_, rfl⟩
  rw [hgW1] at vW1 ⊢
  have hneW01 : w.heap.size ≠ gW1 := by omega
  have hgeW1 : w.heap.size ≤ gW1 := by omega
  have hneW10 : gW1 ≠ w.heap.size := by omega
  have HVW0 := Lib.hid vW0
  have HVW1 := Lib.hid vW1
  have HBW := Lib.hid hBW
  clear hBW vW0 vW1 hgW1
  refine (make_ok W (!b) A c xs (HX.out.below HBW.out) hs).mono ?_
  rintro e w1 ⟨b1, A1, c1, z, rfl, HB1, HZ1, hz, hB1⟩
  have dc0 := (HVW1.out.below' hB1).cell 0 rfl
  have dc1 := (HVW1.out.below' hB1).cell 1 rfl
  have df0 := (HVW1.out.below' hB1).thaw 0
  have df1 := (HVW1.out.below' hB1).thaw 1
  have HV1 := Lib.hid (HVW1.out.below' hB1)
  have HBd := Lib.hid (HBW.out.trans (hB1.mono HBW.out.size))
  have HR := Lib.hid hz
  clear hB1 hz
  go_wp2_with fail
  have v3 : Vr ((w1.setCell ⟨gW1, 0, none⟩ (.bool b1)).setCell ⟨gW1, 1, none⟩ (.slice A1 z.length c1)) gW1 26 #[.bool b1, .slice A1 z.length c1] := ((HV1.out.set 0 _).set 1 _)
  have r0 := (HR.out).apart (HV1.out) (nd_int _ _ _ _) 0 (.bool b1)
  have r1 := (r0).apart ((HV1.out).set 0 (.bool b1)) (nd_int _ _ _ _) 1 (.slice A1 z.length c1)
  refine bodyPost_ret (v := .agg #[.bool b1, .slice A1 z.length c1]) (by simp [results, Tryz.results91, go_sem, v3.cell 0 rfl, v3.cell 1 rfl]) rfl ?_
  exact ⟨_, A1, c1, z, rfl, by rw [zv_not'] at HB1; exact HB1, by rw [zv_not'] at HZ1; exact HZ1, r1, (below_set (below_set HBd.out hgeW1 _) hgeW1 _)⟩
set_option maxHeartbeats 1600000 in
theorem isub_ok (w : World) (b1 b2 : Bool) (A B : Option Addr) (c d : Nat) (xs ys : List Int) (hx : RN w A c xs) (hy : RN w B d ys) (hsx : xs.length ≤ 35184372088830) (hsy : ys.length ≤ 35184372088830) :
    Calls Tryz.prog 60 #[.agg #[.bool b1, .slice A xs.length c], .agg #[.bool b2, .slice B ys.length d]] w (RetZI (zv b1 xs - zv b2 ys) w) := by
  have HX := Lib.hid hx
  have HY := Lib.hid hy
  clear hx hy
  go_enter Tryz.func60, Tryz.ntmps60
  go_upto_region 1 with fail
  obtain ⟨W, hW⟩ : ∃ W, W = (((w.alloc (.cells #[.bool b1, .slice A xs.length c] 26)).alloc (.cells #[.bool b2, .slice B ys.length d] 26)).alloc (.cells #[.bool false, .slice none 0 0] 26)) := ⟨_, rfl⟩
  rw [← hW]
  have H_W : Mo w W [(w.heap.size, 26, #[.bool b1, .slice A xs.length c]), (w.heap.size + 1, 26, #[.bool b2, .slice B ys.length d]), (w.heap.size + 1 + 1, 26, #[.bool false, .slice none 0 0])] [] := by
    rw [hW]
    have h := ((((Mo.start w).alloc (t := 26) (cs := #[.bool b1, .slice A xs.length c]) (nd_int _ _ _ _)).alloc (t := 26) (cs := #[.bool b2, .slice B ys.length d]) (nd_int _ _ _ _)).alloc (t := 26) (cs := #[.bool false, .slice none 0 0]) (nd_int _ _ _ _))
    simp only [size_alloc, List.nil_append, List.cons_append] at h
    exact h
  clear hW
  obtain ⟨gW2, hgW2⟩ : ∃ g, w.heap.size + 1 + 1 = g := ⟨_, rfl⟩
  rw [hgW2] at H_W ⊢
  clear hgW2
  obtain ⟨gW1, hgW1⟩ : ∃ g, w.heap.size + 1 = g := ⟨_, rfl⟩
  rw [hgW1] at H_W ⊢
  clear hgW1
  have neW01 : w.heap.size ≠ gW1 := H_W.apart 0 1 _ _ _ _ _ _ rfl rfl (by decide)
  have neW02 : w.heap.size ≠ gW2 := H_W.apart 0 2 _ _ _ _ _ _ rfl rfl (by decide)
  have neW10 : gW1 ≠ w.heap.size := H_W.apart 1 0 _ _ _ _ _ _ rfl rfl (by decide)
  have neW12 : gW1 ≠ gW2 := H_W.apart 1 2 _ _ _ _ _ _ rfl rfl (by decide)
  have neW20 : gW2 ≠ w.heap.size := H_W.apart 2 0 _ _ _ _ _ _ rfl rfl (by decide)
  have neW21 : gW2 ≠ gW1 := H_W.apart 2 1 _ _ _ _ _ _ rfl rfl (by decide)
  have H_W := Lib.hid H_W
  have k0Wc0 := ((H_W.out.var 0 rfl)).cell 0 rfl
  have k0Wc1 := ((H_W.out.var 0 rfl)).cell 1 rfl
  have k1Wc0 := ((H_W.out.var 1 rfl)).cell 0 rfl
  have k1Wc1 := ((H_W.out.var 1 rfl)).cell 1 rfl
  have H_Wd := Lib.hid H_W.out.drew
  first
  | go_region_held3 (fun w' => w'.cell? ⟨w.heap.size, 0, none⟩ = some (.bool b1) ∧ w'.cell? ⟨w.heap.size, 1, none⟩ = some (.slice A xs.length c) ∧ w'.cell? ⟨gW1, 0, none⟩ = some (.bool b2) ∧ w'.cell? ⟨gW1, 1, none⟩ = some (.slice B ys.length d)) (go_keep)
     (first
      | (go_at_call 91
         refine (ineg_ok W.drew b2 B d ys (HY.out.below H_Wd.out.below) (by omega)).mono ?_
         rintro e_ w1 ⟨b3, A3, c3, z3, rfl, HB3, HZ3, hz3, hB⟩
         have H_w1 := Lib.hid (Mo.num (Mo.call H_Wd.out hB) hz3)
         have k0w1c0 := ((H_w1.out.var 0 rfl)).cell 0 rfl
         have k0w1c1 := ((H_w1.out.var 0 rfl)).cell 1 rfl
         have k1w1c0 := ((H_w1.out.var 1 rfl)).cell 0 rfl
         have k1w1c1 := ((H_w1.out.var 1 rfl)).cell 1 rfl
         have HL3 : Hid (z3.length ≤ ys.length) := by show _ ≤ _; rw [HZ3.out, Int.natAbs_neg, zv_abs b2 HY.out.2]; exact limbs_le_len HY.out.2 (Nat.le_refl _)
         clear hB hz3)
      | (go_at_call 52
         refine (iadd_ok w1 b1 b3 A A3 c c3 xs z3 (HX.out.below H_w1.out.below) (H_w1.out.rn 0 rfl) hsx (by have := HL3.out; omega)).mono ?_
         rw [HB3.out, HZ3.out, zv_norm]
         rintro e_ w2 ⟨b4, A4, c4, z4, rfl, HB4, HZ4, hz4, hB⟩
         have H_w2 := Lib.hid (Mo.num (Mo.call H_w1.out hB) hz4)
         have k0w2c0 := ((H_w2.out.var 0 rfl)).cell 0 rfl
         have k0w2c1 := ((H_w2.out.var 0 rfl)).cell 1 rfl
         have k1w2c0 := ((H_w2.out.var 1 rfl)).cell 0 rfl
         have k1w2c1 := ((H_w2.out.var 1 rfl)).cell 1 rfl
         have k2w2c0 := ((H_w2.out.var 2 rfl)).cell 0 rfl
         have k2w2c1 := ((H_w2.out.var 2 rfl)).cell 1 rfl
         have k2w2f0 := ((H_w2.out.var 2 rfl)).thaw 0
         have k2w2f1 := ((H_w2.out.var 2 rfl)).thaw 1
         clear hB hz4))
  | fail
  go_wp2_with fail
  have hz1 := H_w2.out.set 2 (j := 0) (v := .bool b4) (cs' := #[.bool b4, .slice none 0 0]) rfl rfl (nd_int _ _ _ _)
  have hz2 := hz1.set 2 (j := 1) (v := .slice A4 z4.length c4) (cs' := #[.bool b4, .slice A4 z4.length c4]) rfl rfl (nd_int _ _ _ _)
  have v3 : Vr ((w2.setCell ⟨gW2, 0, none⟩ (.bool b4)).setCell ⟨gW2, 1, none⟩ (.slice A4 z4.length c4)) gW2 26 #[.bool b4, .slice A4 z4.length c4] := hz2.var 2 rfl
  refine bodyPost_ret (v := .agg #[.bool b4, .slice A4 z4.length c4]) (by simp [results, Tryz.results60, go_sem, v3.cell 0 rfl, v3.cell 1 rfl]) rfl ?_
  exact ⟨b4, A4, c4, z4, rfl, by rw [Int.sub_eq_add_neg]; exact HB4, by rw [Int.sub_eq_add_neg]; exact HZ4, hz2.rn 1 rfl, hz2.below⟩
set_option maxHeartbeats 3200000 in
theorem qsubF_ok (w : World) (p q : Bool) (P P2 Q Q2 : Option Addr) (cp cp2 cq cq2 : Nat) (xs ys us vs : List Int) (hx : RN w P cp xs) (hy : RN w P2 cp2 ys) (hu : RN w Q cq us) (hw : RN w Q2 cq2 vs) (hb1 : xs.length + vs.length + 4 ≤ 35184372088800) (hb2 : us.length + ys.length + 4 ≤ 35184372088800) (hb3 : ys.length + vs.length + 2 ≤ 35184372088800) :
    Calls Tryz.prog 31 #[.agg #[.bool p, .slice P xs.length cp, .slice P2 ys.length cp2], .agg #[.bool q, .slice Q us.length cq, .slice Q2 vs.length cq2]] w (RetQ (qv p xs ys - qv q us vs) w) := by
  have HX := Lib.hid hx
  have HY := Lib.hid hy
  have HU := Lib.hid hu
  have HW := Lib.hid hw
  clear hx hy hu hw
  go_enter Tryz.func31, Tryz.ntmps31
  go_upto_region 1 with fail
  obtain ⟨W, hW⟩ : ∃ W, W = (((w.alloc (.cells #[.bool p, .slice P xs.length cp, .slice P2 ys.length cp2] 28)).alloc (.cells #[.bool q, .slice Q us.length cq, .slice Q2 vs.length cq2] 28)).alloc (.cells #[.bool false, .slice none 0 0, .slice none 0 0] 28)) := ⟨_, rfl⟩
  rw [← hW]
  have hBW : Below w.heap.size w W := by rw [hW]; exact ((((Below.refl _ _).alloc (Nat.le_refl _) _).alloc (by simp only [size_alloc]; omega) _).alloc (by simp only [size_alloc]; omega) _)
  have vW0 : Vr W (w.heap.size) 28 #[.bool p, .slice P xs.length cp, .slice P2 ys.length cp2] := by rw [hW]; exact (((Vr.new' _ _ _ (by simp only [size_alloc])).alloc _).alloc _)
  have vW1 : Vr W (w.heap.size + 1) 28 #[.bool q, .slice Q us.length cq, .slice Q2 vs.length cq2] := by rw [hW]; exact ((Vr.new' _ _ _ (by simp only [size_alloc])).alloc _)
  have vW2 : Vr W (w.heap.size + 1 + 1) 28 #[.bool false, .slice none 0 0, .slice none 0 0] := by rw [hW]; exact (Vr.new' _ _ _ (by simp only [size_alloc]))
  clear hW
  obtain ⟨gW2, hgW2⟩ : ∃ g, w.heap.size + 1 + 1 = g := ⟨_, rfl⟩
  rw [hgW2] at vW2 ⊢
  obtain ⟨gW1, hgW1⟩ : ∃ g, w.heap.size + 1 = g := ⟨_, rfl⟩
  rw [hgW1] at vW1 ⊢
  have hneW01 : w.heap.size ≠ gW1 := by omega
  have hneW02 : w.heap.size ≠ gW2 := by omega
  have hgeW1 : w.heap.size ≤ gW1 := by omega
  have hneW10 : gW1 ≠ w.heap.size := by omega
  have hneW12 : gW1 ≠ gW2 := by omega
  have hgeW2 : w.heap.size ≤ gW2 := by omega
  have hneW20 : gW2 ≠ w.heap.size := by omega
  have hneW21 : gW2 ≠ gW1 := by omega
  have HVW0 := Lib.hid vW0
  have HVW1 := Lib.hid vW1
  have HVW2 := Lib.hid vW2
  have HBW := Lib.hid hBW
  clear hBW vW0 vW1 vW2 hgW1 hgW2
  have oc0 := (HVW0.out).cell 0 rfl
  have oc1 := (HVW0.out).cell 1 rfl
  have oc2 := (HVW0.out).cell 2 rfl
  have V1_W := HVW1
  have VR_W := HVW2
  have B_W := HBW
  go_wp2_with fail
  refine (parts_ok W p P P2 cp cp2 xs ys (HX.out.below B_W.out) (HY.out.below B_W.out) (by omega)).mono ?_
  rintro e_ w1 ⟨b1, A1, c1, x, b2, A2, c2, y, rfl, HQ1, HQ2, HL1, HL2, hx1, hy1, hB⟩
  have V1_w1 := Lib.hid (Vr.below' V1_W.out hB)
  have VR_w1 := Lib.hid (Vr.below' VR_W.out hB)
  have B_w1 := Lib.hid (below_on B_W.out hB)
  have X_w1 := Lib.hid hx1
  have Y_w1 := Lib.hid hy1
  clear hB hx1 hy1
  go_upto_region 2 with fail
  obtain ⟨T, hT⟩ : ∃ T, T = ((w1.alloc (.cells #[.bool b1, .slice A1 x.length c1] 26)).alloc (.cells #[.bool b2, .slice A2 y.length c2] 26)) := ⟨_, rfl⟩
  rw [← hT]
  have hBT : Below w1.heap.size w1 T := by rw [hT]; exact (((Below.refl _ _).alloc (Nat.le_refl _) _).alloc (by simp only [size_alloc]; omega) _)
  have vT0 : Vr T (w1.heap.size) 26 #[.bool b1, .slice A1 x.length c1] := by rw [hT]; exact ((Vr.new' _ _ _ (by simp only [size_alloc])).alloc _)
  have vT1 : Vr T (w1.heap.size + 1) 26 #[.bool b2, .slice A2 y.length c2] := by rw [hT]; exact (Vr.new' _ _ _ (by simp only [size_alloc]))
  clear hT
  obtain ⟨gT1, hgT1⟩ : ∃ g, w1.heap.size + 1 = g := ⟨_, rfl⟩
  rw [hgT1] at vT1 ⊢
  have hneT01 : w1.heap.size ≠ gT1 := by omega
  have hgeT1 : w1.heap.size ≤ gT1 := by omega
  have hneT10 : gT1 ≠ w1.heap.size := by omega
  have HVT0 := Lib.hid vT0
  have HVT1 := Lib.hid vT1
  have HBT := Lib.hid hBT
  clear hBT vT0 vT1 hgT1
  have hB := HBT.out
  have V1_T := Lib.hid (Vr.below' V1_w1.out hB)
  have V1_Tc0 := (V1_T.out).cell 0 rfl
  have V1_Tc1 := (V1_T.out).cell 1 rfl
  have V1_Tc2 := (V1_T.out).cell 2 rfl
  have VR_T := Lib.hid (Vr.below' VR_w1.out hB)
  have X_T := Lib.hid (RN.below X_w1.out hB)
  have Y_T := Lib.hid (RN.below Y_w1.out hB)
  have B_T := Lib.hid (below_on B_w1.out hB)
  have VA_T := HVT0
  have VB_T := HVT1
  clear hB
  go_wp2_with fail
  refine (parts_ok T q Q Q2 cq cq2 us vs (HU.out.below B_T.out) (HW.out.below B_T.out) (by omega)).mono ?_
  rintro e_ w2 ⟨b3, A3, c3, u, b4, A4, c4, v, rfl, HQ3, HQ4, HL3, HL4, hx1, hy1, hB⟩
  have VA_w2 := Lib.hid (Vr.below' VA_T.out hB)
  have VB_w2 := Lib.hid (Vr.below' VB_T.out hB)
  have VR_w2 := Lib.hid (Vr.below' VR_T.out hB)
  have X_w2 := Lib.hid (RN.below X_T.out hB)
  have Y_w2 := Lib.hid (RN.below Y_T.out hB)
  have B_w2 := Lib.hid (below_on B_T.out hB)
  have U_w2 := Lib.hid hx1
  have K_w2 := Lib.hid hy1
  clear hB hx1 hy1
  go_upto_region 3 with fail
  obtain ⟨Z, hZ⟩ : ∃ Z, Z = ((w2.alloc (.cells #[.bool b3, .slice A3 u.length c3] 26)).alloc (.cells #[.bool b4, .slice A4 v.length c4] 26)) := ⟨_, rfl⟩
  rw [← hZ]
  have hBZ : Below w2.heap.size w2 Z := by rw [hZ]; exact (((Below.refl _ _).alloc (Nat.le_refl _) _).alloc (by simp only [size_alloc]; omega) _)
  have vZ0 : Vr Z (w2.heap.size) 26 #[.bool b3, .slice A3 u.length c3] := by rw [hZ]; exact ((Vr.new' _ _ _ (by simp only [size_alloc])).alloc _)
  have vZ1 : Vr Z (w2.heap.size + 1) 26 #[.bool b4, .slice A4 v.length c4] := by rw [hZ]; exact (Vr.new' _ _ _ (by simp only [size_alloc]))
  clear hZ
  obtain ⟨gZ1, hgZ1⟩ : ∃ g, w2.heap.size + 1 = g := ⟨_, rfl⟩
  rw [hgZ1] at vZ1 ⊢
  have hneZ01 : w2.heap.size ≠ gZ1 := by omega
  have hgeZ1 : w2.heap.size ≤ gZ1 := by omega
  have hneZ10 : gZ1 ≠ w2.heap.size := by omega
  have HVZ0 := Lib.hid vZ0
  have HVZ1 := Lib.hid vZ1
  have HBZ := Lib.hid hBZ
  clear hBZ vZ0 vZ1 hgZ1
  have hB := HBZ.out
  have VA_Z := Lib.hid (Vr.below' VA_w2.out hB)
  have VB_Z := Lib.hid (Vr.below' VB_w2.out hB)
  have VR_Z := Lib.hid (Vr.below' VR_w2.out hB)
  have X_Z := Lib.hid (RN.below X_w2.out hB)
  have Y_Z := Lib.hid (RN.below Y_w2.out hB)
  have U_Z := Lib.hid (RN.below U_w2.out hB)
  have K_Z := Lib.hid (RN.below K_w2.out hB)
  have B_Z := Lib.hid (below_on B_w2.out hB)
  have VC_Z := HVZ0
  have VD_Z := HVZ1
  clear hB
  have HDY := Lib.hid (den_pos HY.out.2 HQ2.out Y_Z.out.2)
  have HDV := Lib.hid (den_pos HW.out.2 HQ4.out K_Z.out.2)
  have nb1 : gW2 ≠ w1.heap.size := Nat.ne_of_lt VR_w1.out.lt
  have nb2 : gW2 ≠ gT1 := by have := VR_w1.out.lt; omega
  have nb3 : gW2 ≠ w2.heap.size := Nat.ne_of_lt VR_w2.out.lt
  have nb4 : gW2 ≠ gZ1 := by have := VR_w2.out.lt; omega
  have VA_Zc0 := (VA_Z.out).cell 0 rfl
  have VA_Zc1 := (VA_Z.out).cell 1 rfl
  have VB_Zc0 := (VB_Z.out).cell 0 rfl
  have VB_Zc1 := (VB_Z.out).cell 1 rfl
  have VC_Zc0 := (VC_Z.out).cell 0 rfl
  have VC_Zc1 := (VC_Z.out).cell 1 rfl
  have VD_Zc0 := (VD_Z.out).cell 0 rfl
  have VD_Zc1 := (VD_Z.out).cell 1 rfl
  have VA_Zd := Lib.hid VA_Z.out.drew
  have VB_Zd := Lib.hid VB_Z.out.drew
  have VC_Zd := Lib.hid VC_Z.out.drew
  have VD_Zd := Lib.hid VD_Z.out.drew
  have VR_Zd := Lib.hid VR_Z.out.drew
  have X_Zd := Lib.hid (X_Z.out.below (Below.refl _ _).drew)
  have Y_Zd := Lib.hid (Y_Z.out.below (Below.refl _ _).drew)
  have U_Zd := Lib.hid (U_Z.out.below (Below.refl _ _).drew)
  have K_Zd := Lib.hid (K_Z.out.below (Below.refl _ _).drew)
  have B_Zd := Lib.hid B_Z.out.drew
  first
  | go_region_held3 (fun w' => w'.cell? ⟨w1.heap.size, 0, none⟩ = some (.bool b1) ∧ w'.cell? ⟨w1.heap.size, 1, none⟩ = some (.slice A1 x.length c1) ∧ w'.cell? ⟨gT1, 0, none⟩ = some (.bool b2) ∧ w'.cell? ⟨gT1, 1, none⟩ = some (.slice A2 y.length c2) ∧ w'.cell? ⟨w2.heap.size, 0, none⟩ = some (.bool b3) ∧ w'.cell? ⟨w2.heap.size, 1, none⟩ = some (.slice A3 u.length c3) ∧ w'.cell? ⟨gZ1, 0, none⟩ = some (.bool b4) ∧ w'.cell? ⟨gZ1, 1, none⟩ = some (.slice A4 v.length c4)) (go_keep)
     (first
      | (go_at_call_of 53 A1
         refine (imul_ok Z.drew b1 b4 A1 A4 c1 c4 x v X_Zd.out K_Zd.out (by have := HL1.out; have := HL2.out; have := HL3.out; have := HL4.out; omega)).mono ?_
         rintro e_ a5 ⟨b5, A5, c5, z5, rfl, HB5, HZ5, hz5, hB⟩
         have VA_a5 := Lib.hid (Vr.below' VA_Zd.out hB)
         have VA_a5c0 := (VA_a5.out).cell 0 rfl
         have VA_a5c1 := (VA_a5.out).cell 1 rfl
         have VB_a5 := Lib.hid (Vr.below' VB_Zd.out hB)
         have VB_a5c0 := (VB_a5.out).cell 0 rfl
         have VB_a5c1 := (VB_a5.out).cell 1 rfl
         have VC_a5 := Lib.hid (Vr.below' VC_Zd.out hB)
         have VC_a5c0 := (VC_a5.out).cell 0 rfl
         have VC_a5c1 := (VC_a5.out).cell 1 rfl
         have VD_a5 := Lib.hid (Vr.below' VD_Zd.out hB)
         have VD_a5c0 := (VD_a5.out).cell 0 rfl
         have VD_a5c1 := (VD_a5.out).cell 1 rfl
         have VR_a5 := Lib.hid (Vr.below' VR_Zd.out hB)
         have VR_a5c0 := (VR_a5.out).cell 0 rfl
         have VR_a5c1 := (VR_a5.out).cell 1 rfl
         have VR_a5c2 := (VR_a5.out).cell 2 rfl
         have VR_a5f0 := (VR_a5.out).thaw 0
         have VR_a5f1 := (VR_a5.out).thaw 1
         have VR_a5f2 := (VR_a5.out).thaw 2
         have X_a5 := Lib.hid (RN.below X_Zd.out hB)
         have Y_a5 := Lib.hid (RN.below Y_Zd.out hB)
         have U_a5 := Lib.hid (RN.below U_Zd.out hB)
         have K_a5 := Lib.hid (RN.below K_Zd.out hB)
         have B_a5 := Lib.hid (below_on B_Zd.out hB)
         have N_a5 := Lib.hid hz5
         have HLZ : Hid (z5.length ≤ xs.length + vs.length + 1) := by show _ ≤ _; rw [HZ5.out]; exact Nat.le_trans (zmul_len X_Zd.out.2 K_Zd.out.2) (by have := HL1.out; have := HL2.out; have := HL3.out; have := HL4.out; omega)
         clear hB hz5)
      | (go_at_call_of 53 A3
         refine (imul_ok a5 b3 b2 A3 A2 c3 c2 u y U_a5.out Y_a5.out (by have := HL1.out; have := HL2.out; have := HL3.out; have := HL4.out; omega)).mono ?_
         rintro e_ a8 ⟨b8, A8, c8, z8, rfl, HB8, HZ8, hz8, hB⟩
         have VA_a8 := Lib.hid (Vr.below' VA_a5.out hB)
         have VA_a8c0 := (VA_a8.out).cell 0 rfl
         have VA_a8c1 := (VA_a8.out).cell 1 rfl
         have VB_a8 := Lib.hid (Vr.below' VB_a5.out hB)
         have VB_a8c0 := (VB_a8.out).cell 0 rfl
         have VB_a8c1 := (VB_a8.out).cell 1 rfl
         have VC_a8 := Lib.hid (Vr.below' VC_a5.out hB)
         have VC_a8c0 := (VC_a8.out).cell 0 rfl
         have VC_a8c1 := (VC_a8.out).cell 1 rfl
         have VD_a8 := Lib.hid (Vr.below' VD_a5.out hB)
         have VD_a8c0 := (VD_a8.out).cell 0 rfl
         have VD_a8c1 := (VD_a8.out).cell 1 rfl
         have VR_a8 := Lib.hid (Vr.below' VR_a5.out hB)
         have VR_a8c0 := (VR_a8.out).cell 0 rfl
         have VR_a8c1 := (VR_a8.out).cell 1 rfl
         have VR_a8c2 := (VR_a8.out).cell 2 rfl
         have VR_a8f0 := (VR_a8.out).thaw 0
         have VR_a8f1 := (VR_a8.out).thaw 1
         have VR_a8f2 := (VR_a8.out).thaw 2
         have X_a8 := Lib.hid (RN.below X_a5.out hB)
         have Y_a8 := Lib.hid (RN.below Y_a5.out hB)
         have U_a8 := Lib.hid (RN.below U_a5.out hB)
         have K_a8 := Lib.hid (RN.below K_a5.out hB)
         have N_a8 := Lib.hid (RN.below N_a5.out hB)
         have B_a8 := Lib.hid (below_on B_a5.out hB)
         have O_a8 := Lib.hid hz8
         have HLW : Hid (z8.length ≤ us.length + ys.length + 1) := by show _ ≤ _; rw [HZ8.out]; exact Nat.le_trans (zmul_len U_a5.out.2 Y_a5.out.2) (by have := HL1.out; have := HL2.out; have := HL3.out; have := HL4.out; omega)
         clear hB hz8)
      | (go_at_call 60
         refine (isub_ok a8 b5 b8 A5 A8 c5 c8 z5 z8 N_a8.out O_a8.out (by have := HLZ.out; omega) (by have := HLW.out; omega)).mono ?_
         rintro e_ a9 ⟨b9, A9, c9, z9, rfl, HB9, HZ9, hz9, hB⟩
         have VA_a9 := Lib.hid (Vr.below' VA_a8.out hB)
         have VA_a9c0 := (VA_a9.out).cell 0 rfl
         have VA_a9c1 := (VA_a9.out).cell 1 rfl
         have VB_a9 := Lib.hid (Vr.below' VB_a8.out hB)
         have VB_a9c0 := (VB_a9.out).cell 0 rfl
         have VB_a9c1 := (VB_a9.out).cell 1 rfl
         have VC_a9 := Lib.hid (Vr.below' VC_a8.out hB)
         have VC_a9c0 := (VC_a9.out).cell 0 rfl
         have VC_a9c1 := (VC_a9.out).cell 1 rfl
         have VD_a9 := Lib.hid (Vr.below' VD_a8.out hB)
         have VD_a9c0 := (VD_a9.out).cell 0 rfl
         have VD_a9c1 := (VD_a9.out).cell 1 rfl
         have VR_a9 := Lib.hid (Vr.below' VR_a8.out hB)
         have VR_a9c0 := (VR_a9.out).cell 0 rfl
         have VR_a9c1 := (VR_a9.out).cell 1 rfl
         have VR_a9c2 := (VR_a9.out).cell 2 rfl
         have VR_a9f0 := (VR_a9.out).thaw 0
         have VR_a9f1 := (VR_a9.out).thaw 1
         have VR_a9f2 := (VR_a9.out).thaw 2
         have X_a9 := Lib.hid (RN.below X_a8.out hB)
         have Y_a9 := Lib.hid (RN.below Y_a8.out hB)
         have U_a9 := Lib.hid (RN.below U_a8.out hB)
         have K_a9 := Lib.hid (RN.below K_a8.out hB)
         have N_a9 := Lib.hid (RN.below N_a8.out hB)
         have O_a9 := Lib.hid (RN.below O_a8.out hB)
         have B_a9 := Lib.hid (below_on B_a8.out hB)
         have G_a9 := Lib.hid hz9
         have HLS : Hid (z9.length ≤ 35184372088799) := by show _ ≤ _; rw [HZ9.out, Int.sub_eq_add_neg, ← zv_not']; exact Nat.le_trans (zadd_max N_a8.out.2 O_a8.out.2) (by have := HLZ.out; have := HLW.out; omega)
         clear hB hz9)
      | (go_at_call 54
         refine (mul_ok a9 A2 A4 c2 c4 y v Y_a9.out K_a9.out (by have := HL1.out; have := HL2.out; have := HL3.out; have := HL4.out; omega)).mono ?_
         rintro e_ a6 ⟨A6, c6, m6, rfl, HM6, hm6, hB⟩
         have VA_a6 := Lib.hid (Vr.below' VA_a9.out hB)
         have VA_a6c0 := (VA_a6.out).cell 0 rfl
         have VA_a6c1 := (VA_a6.out).cell 1 rfl
         have VB_a6 := Lib.hid (Vr.below' VB_a9.out hB)
         have VB_a6c0 := (VB_a6.out).cell 0 rfl
         have VB_a6c1 := (VB_a6.out).cell 1 rfl
         have VC_a6 := Lib.hid (Vr.below' VC_a9.out hB)
         have VC_a6c0 := (VC_a6.out).cell 0 rfl
         have VC_a6c1 := (VC_a6.out).cell 1 rfl
         have VD_a6 := Lib.hid (Vr.below' VD_a9.out hB)
         have VD_a6c0 := (VD_a6.out).cell 0 rfl
         have VD_a6c1 := (VD_a6.out).cell 1 rfl
         have VR_a6 := Lib.hid (Vr.below' VR_a9.out hB)
         have VR_a6c0 := (VR_a6.out).cell 0 rfl
         have VR_a6c1 := (VR_a6.out).cell 1 rfl
         have VR_a6c2 := (VR_a6.out).cell 2 rfl
         have VR_a6f0 := (VR_a6.out).thaw 0
         have VR_a6f1 := (VR_a6.out).thaw 1
         have VR_a6f2 := (VR_a6.out).thaw 2
         have X_a6 := Lib.hid (RN.below X_a9.out hB)
         have Y_a6 := Lib.hid (RN.below Y_a9.out hB)
         have U_a6 := Lib.hid (RN.below U_a9.out hB)
         have K_a6 := Lib.hid (RN.below K_a9.out hB)
         have N_a6 := Lib.hid (RN.below N_a9.out hB)
         have O_a6 := Lib.hid (RN.below O_a9.out hB)
         have G_a6 := Lib.hid (RN.below G_a9.out hB)
         have B_a6 := Lib.hid (below_on B_a9.out hB)
         have M_a6 := Lib.hid hm6
         have HVM : Hid (V m6 = qd ys * qd vs) := by show _ = _; have h1 := qd_pos HY.out.2; have h2 := qd_pos HW.out.2; rw [HM6.out, V_limbs, HDY.out, HDV.out, Int.natCast_mul, Int.toNat_of_nonneg (by omega), Int.toNat_of_nonneg (by omega)]
         have HLM : Hid (m6.length ≤ ys.length + vs.length + 2) := by show _ ≤ _; rw [HM6.out]; exact Nat.le_trans (mul_len Y_a9.out.2 K_a9.out.2) (by have := HL1.out; have := HL2.out; have := HL3.out; have := HL4.out; omega)
         clear hB hm6)
      | (go_at_call 51
         refine (lowest_ok a6 b9 A9 A6 c9 c6 z9 m6 G_a6.out M_a6.out (by have := HLS.out; omega) (by have := HLM.out; omega)).mono ?_
         rintro e_ a7 ⟨b7, A7, c7, x7, B7, d7, y7, rfl, HR1, HR2, HR3, hr1, hr2, hB⟩
         have VA_a7 := Lib.hid (Vr.below' VA_a6.out hB)
         have VA_a7c0 := (VA_a7.out).cell 0 rfl
         have VA_a7c1 := (VA_a7.out).cell 1 rfl
         have VB_a7 := Lib.hid (Vr.below' VB_a6.out hB)
         have VB_a7c0 := (VB_a7.out).cell 0 rfl
         have VB_a7c1 := (VB_a7.out).cell 1 rfl
         have VC_a7 := Lib.hid (Vr.below' VC_a6.out hB)
         have VC_a7c0 := (VC_a7.out).cell 0 rfl
         have VC_a7c1 := (VC_a7.out).cell 1 rfl
         have VD_a7 := Lib.hid (Vr.below' VD_a6.out hB)
         have VD_a7c0 := (VD_a7.out).cell 0 rfl
         have VD_a7c1 := (VD_a7.out).cell 1 rfl
         have VR_a7 := Lib.hid (Vr.below' VR_a6.out hB)
         have VR_a7c0 := (VR_a7.out).cell 0 rfl
         have VR_a7c1 := (VR_a7.out).cell 1 rfl
         have VR_a7c2 := (VR_a7.out).cell 2 rfl
         have VR_a7f0 := (VR_a7.out).thaw 0
         have VR_a7f1 := (VR_a7.out).thaw 1
         have VR_a7f2 := (VR_a7.out).thaw 2
         have B_a7 := Lib.hid (below_on B_a6.out hB)
         have S_a7 := Lib.hid hr1
         have R_a7 := Lib.hid hr2
         clear hB hr1 hr2))
  | fail
  have hqm : qv b9 z9 m6 = qv p xs ys - qv q us vs := by
    have h1 := qd_pos HY.out.2
    have h2 := qd_pos HW.out.2
    have e1 : zv b9 z9 = qn p xs ys * qd vs + (-qn q us vs) * qd ys := by
      rw [HB9.out, HZ9.out, zv_norm, HB5.out, HZ5.out, zv_norm, HB8.out, HZ8.out, zv_norm, HQ1.out, HQ2.out, HQ3.out, HQ4.out, Int.neg_mul, Int.sub_eq_add_neg]
    rw [Rat.sub_eq_add_neg, qv_parts HY.out.2, qv_parts HW.out.2, Rat.neg_mkRat, Rat.mkRat_add_mkRat _ _ (by omega) (by omega)]
    unfold qv
    rw [e1, HVM.out, Int.toNat_of_nonneg (by omega), Int.toNat_of_nonneg (by omega)]
    congr 1
    have h3 := Int.mul_nonneg (Int.le_of_lt h1) (Int.le_of_lt h2)
    have h4 : (((qd ys).toNat * (qd vs).toNat : Nat) : Int) = qd ys * qd vs := by rw [Int.natCast_mul, Int.toNat_of_nonneg (by omega), Int.toNat_of_nonneg (by omega)]
    omega
  have HQM := Lib.hid hqm
  clear hqm
  go_wp2_with fail
  have S_y1 := (S_a7.out).apart (VR_a7.out) (nd_rat _ _ _ _ _ _ _) 0 (.bool b7)
  have R_y1 := (R_a7.out).apart (VR_a7.out) (nd_rat _ _ _ _ _ _ _) 0 (.bool b7)
  have VR_y1 := (VR_a7.out).set 0 (.bool b7)
  have S_y2 := (S_y1).apart (VR_y1) (nd_rat _ _ _ _ _ _ _) 1 (.slice A7 x7.length c7)
  have R_y2 := (R_y1).apart (VR_y1) (nd_rat _ _ _ _ _ _ _) 1 (.slice A7 x7.length c7)
  have VR_y2 := (VR_y1).set 1 (.slice A7 x7.length c7)
  have S_y3 := (S_y2).apart (VR_y2) (nd_rat _ _ _ _ _ _ _) 2 (.slice B7 y7.length d7)
  have R_y3 := (R_y2).apart (VR_y2) (nd_rat _ _ _ _ _ _ _) 2 (.slice B7 y7.length d7)
  have VR_y3 := (VR_y2).set 2 (.slice B7 y7.length d7)
  have VR_yy : Vr (((a7.setCell ⟨gW2, 0, none⟩ (.bool b7)).setCell ⟨gW2, 1, none⟩ (.slice A7 x7.length c7)).setCell ⟨gW2, 2, none⟩ (.slice B7 y7.length d7)) gW2 28 #[.bool b7, .slice A7 x7.length c7, .slice B7 y7.length d7] := VR_y3
  refine bodyPost_ret (v := .agg #[.bool b7, .slice A7 x7.length c7, .slice B7 y7.length d7]) (by simp [results, Tryz.results31, go_sem, VR_yy.cell 0 rfl, VR_yy.cell 1 rfl, VR_yy.cell 2 rfl]) rfl ?_
  exact ⟨b7, A7, c7, x7, B7, d7, y7, rfl, by rw [← HQM.out]; exact HR1, by rw [← HQM.out]; exact HR2, by rw [← HQM.out]; exact HR3, S_y3, R_y3, (below_set (below_set (below_set B_a7.out hgeW2 _) hgeW2 _) hgeW2 _)⟩
theorem qdiv_eq {a b c d : Int} (hb : 0 < b) (hc : 0 < c) (hd : 0 < d) : mkRat (a * d) (b * c).toNat = mkRat a b.toNat / mkRat c d.toNat := by
  have hb' : b.toNat ≠ 0 := by omega
  have hc' : c.toNat ≠ 0 := by omega
  have hd' : d.toNat ≠ 0 := by omega
  have e0 : (b * c).toNat = b.toNat * c.toNat := by
    have h1 : (b.toNat : Int) = b := Int.toNat_of_nonneg (by omega)
    have h2 : (c.toNat : Int) = c := Int.toNat_of_nonneg (by omega)
    have h3 : ((b.toNat * c.toNat : Nat) : Int) = b * c := by rw [Int.natCast_mul, h1, h2]
    omega
  have hne : mkRat c d.toNat ≠ 0 := fun h => by
    have := (Rat.mkRat_eq_zero hd').1 h
    omega
  have e1 : mkRat (a * d) (b * c).toNat * mkRat c d.toNat = mkRat a b.toNat := by
    have h1 : (b.toNat : Int) = b := Int.toNat_of_nonneg (by omega)
    have h2 : (c.toNat : Int) = c := Int.toNat_of_nonneg (by omega)
    have h3 : (d.toNat : Int) = d := Int.toNat_of_nonneg (by omega)
    rw [e0, Rat.mkRat_mul_mkRat, Rat.mkRat_eq_iff (Nat.mul_ne_zero (Nat.mul_ne_zero hb' hc') hd') hb', Int.natCast_mul, Int.natCast_mul, h1, h2, h3]
    rw [Int.mul_assoc a d c, Int.mul_assoc a, Int.mul_assoc b c d, Int.mul_comm d c, Int.mul_comm (c * d) b]
  rw [← e1, Rat.div_def, Rat.mul_assoc, Rat.mul_inv_cancel _ hne, Rat.mul_one]
set_option maxHeartbeats 3200000 in
theorem qdivF_ok (w : World) (p q : Bool) (P P2 Q Q2 : Option Addr) (cp cp2 cq cq2 : Nat) (xs ys us vs : List Int) (hx : RN w P cp xs) (hy : RN w P2 cp2 ys) (hu : RN w Q cq us) (hw : RN w Q2 cq2 vs) (hb1 : xs.length + vs.length + 4 ≤ 35184372088800) (hb2 : us.length + ys.length + 4 ≤ 35184372088800) (hp : 0 < qn q us vs) :
    Calls Tryz.prog 32 #[.agg #[.bool p, .slice P xs.length cp, .slice P2 ys.length cp2], .agg #[.bool q, .slice Q us.length cq, .slice Q2 vs.length cq2]] w (RetQB (qv p xs ys / qv q us vs) true w) := by
  have HX := Lib.hid hx
  have HY := Lib.hid hy
  have HU := Lib.hid hu
  have HW := Lib.hid hw
  clear hx hy hu hw
  have HP := Lib.hid hp
  clear hp
  go_enter Tryz.func32, Tryz.ntmps32
  go_upto_region 1 with fail
  obtain ⟨W, hW⟩ : ∃ W, W = (((w.alloc (.cells #[.bool p, .slice P xs.length cp, .slice P2 ys.length cp2] 28)).alloc (.cells #[.bool q, .slice Q us.length cq, .slice Q2 vs.length cq2] 28)).alloc (.cells #[.bool false, .slice none 0 0, .slice none 0 0] 28)) := ⟨_, rfl⟩
  rw [← hW]
  have hBW : Below w.heap.size w W := by rw [hW]; exact ((((Below.refl _ _).alloc (Nat.le_refl _) _).alloc (by simp only [size_alloc]; omega) _).alloc (by simp only [size_alloc]; omega) _)
  have vW0 : Vr W (w.heap.size) 28 #[.bool p, .slice P xs.length cp, .slice P2 ys.length cp2] := by rw [hW]; exact (((Vr.new' _ _ _ (by simp only [size_alloc])).alloc _).alloc _)
  have vW1 : Vr W (w.heap.size + 1) 28 #[.bool q, .slice Q us.length cq, .slice Q2 vs.length cq2] := by rw [hW]; exact ((Vr.new' _ _ _ (by simp only [size_alloc])).alloc _)
  have vW2 : Vr W (w.heap.size + 1 + 1) 28 #[.bool false, .slice none 0 0, .slice none 0 0] := by rw [hW]; exact (Vr.new' _ _ _ (by simp only [size_alloc]))
  clear hW
  obtain ⟨gW2, hgW2⟩ : ∃ g, w.heap.size + 1 + 1 = g := ⟨_, rfl⟩
  rw [hgW2] at vW2 ⊢
  obtain ⟨gW1, hgW1⟩ : ∃ g, w.heap.size + 1 = g := ⟨_, rfl⟩
  rw [hgW1] at vW1 ⊢
  have hneW01 : w.heap.size ≠ gW1 := by omega
  have hneW02 : w.heap.size ≠ gW2 := by omega
  have hgeW1 : w.heap.size ≤ gW1 := by omega
  have hneW10 : gW1 ≠ w.heap.size := by omega
  have hneW12 : gW1 ≠ gW2 := by omega
  have hgeW2 : w.heap.size ≤ gW2 := by omega
  have hneW20 : gW2 ≠ w.heap.size := by omega
  have hneW21 : gW2 ≠ gW1 := by omega
  have HVW0 := Lib.hid vW0
  have HVW1 := Lib.hid vW1
  have HVW2 := Lib.hid vW2
  have HBW := Lib.hid hBW
  clear hBW vW0 vW1 vW2 hgW1 hgW2
  have oc0 := (HVW0.out).cell 0 rfl
  have oc1 := (HVW0.out).cell 1 rfl
  have oc2 := (HVW0.out).cell 2 rfl
  have V1_W := HVW1
  have VR_W := HVW2
  have B_W := HBW
  go_wp2_with fail
  refine (parts_ok W p P P2 cp cp2 xs ys (HX.out.below B_W.out) (HY.out.below B_W.out) (by omega)).mono ?_
  rintro e_ w1 ⟨b1, A1, c1, x, b2, A2, c2, y, rfl, HQ1, HQ2, HL1, HL2, hx1, hy1, hB⟩
  have V1_w1 := Lib.hid (Vr.below' V1_W.out hB)
  have VR_w1 := Lib.hid (Vr.below' VR_W.out hB)
  have B_w1 := Lib.hid (below_on B_W.out hB)
  have X_w1 := Lib.hid hx1
  have Y_w1 := Lib.hid hy1
  clear hB hx1 hy1
  go_upto_region 2 with fail
  obtain ⟨T, hT⟩ : ∃ T, T = ((w1.alloc (.cells #[.bool b1, .slice A1 x.length c1] 26)).alloc (.cells #[.bool b2, .slice A2 y.length c2] 26)) := ⟨_, rfl⟩
  rw [← hT]
  have hBT : Below w1.heap.size w1 T := by rw [hT]; exact (((Below.refl _ _).alloc (Nat.le_refl _) _).alloc (by simp only [size_alloc]; omega) _)
  have vT0 : Vr T (w1.heap.size) 26 #[.bool b1, .slice A1 x.length c1] := by rw [hT]; exact ((Vr.new' _ _ _ (by simp only [size_alloc])).alloc _)
  have vT1 : Vr T (w1.heap.size + 1) 26 #[.bool b2, .slice A2 y.length c2] := by rw [hT]; exact (Vr.new' _ _ _ (by simp only [size_alloc]))
  clear hT
  obtain ⟨gT1, hgT1⟩ : ∃ g, w1.heap.size + 1 = g := ⟨_, rfl⟩
  rw [hgT1] at vT1 ⊢
  have hneT01 : w1.heap.size ≠ gT1 := by omega
  have hgeT1 : w1.heap.size ≤ gT1 := by omega
  have hneT10 : gT1 ≠ w1.heap.size := by omega
  have HVT0 := Lib.hid vT0
  have HVT1 := Lib.hid vT1
  have HBT := Lib.hid hBT
  clear hBT vT0 vT1 hgT1
  have hB := HBT.out
  have V1_T := Lib.hid (Vr.below' V1_w1.out hB)
  have V1_Tc0 := (V1_T.out).cell 0 rfl
  have V1_Tc1 := (V1_T.out).cell 1 rfl
  have V1_Tc2 := (V1_T.out).cell 2 rfl
  have VR_T := Lib.hid (Vr.below' VR_w1.out hB)
  have X_T := Lib.hid (RN.below X_w1.out hB)
  have Y_T := Lib.hid (RN.below Y_w1.out hB)
  have B_T := Lib.hid (below_on B_w1.out hB)
  have VA_T := HVT0
  have VB_T := HVT1
  clear hB
  go_wp2_with fail
  refine (parts_ok T q Q Q2 cq cq2 us vs (HU.out.below B_T.out) (HW.out.below B_T.out) (by omega)).mono ?_
  rintro e_ w2 ⟨b3, A3, c3, u, b4, A4, c4, v, rfl, HQ3, HQ4, HL3, HL4, hx1, hy1, hB⟩
  have VA_w2 := Lib.hid (Vr.below' VA_T.out hB)
  have VB_w2 := Lib.hid (Vr.below' VB_T.out hB)
  have VR_w2 := Lib.hid (Vr.below' VR_T.out hB)
  have X_w2 := Lib.hid (RN.below X_T.out hB)
  have Y_w2 := Lib.hid (RN.below Y_T.out hB)
  have B_w2 := Lib.hid (below_on B_T.out hB)
  have U_w2 := Lib.hid hx1
  have K_w2 := Lib.hid hy1
  clear hB hx1 hy1
  go_upto_region 3 with fail
  obtain ⟨Z, hZ⟩ : ∃ Z, Z = ((w2.alloc (.cells #[.bool b3, .slice A3 u.length c3] 26)).alloc (.cells #[.bool b4, .slice A4 v.length c4] 26)) := ⟨_, rfl⟩
  rw [← hZ]
  have hBZ : Below w2.heap.size w2 Z := by rw [hZ]; exact (((Below.refl _ _).alloc (Nat.le_refl _) _).alloc (by simp only [size_alloc]; omega) _)
  have vZ0 : Vr Z (w2.heap.size) 26 #[.bool b3, .slice A3 u.length c3] := by rw [hZ]; exact ((Vr.new' _ _ _ (by simp only [size_alloc])).alloc _)
  have vZ1 : Vr Z (w2.heap.size + 1) 26 #[.bool b4, .slice A4 v.length c4] := by rw [hZ]; exact (Vr.new' _ _ _ (by simp only [size_alloc]))
  clear hZ
  obtain ⟨gZ1, hgZ1⟩ : ∃ g, w2.heap.size + 1 = g := ⟨_, rfl⟩
  rw [hgZ1] at vZ1 ⊢
  have hneZ01 : w2.heap.size ≠ gZ1 := by omega
  have hgeZ1 : w2.heap.size ≤ gZ1 := by omega
  have hneZ10 : gZ1 ≠ w2.heap.size := by omega
  have HVZ0 := Lib.hid vZ0
  have HVZ1 := Lib.hid vZ1
  have HBZ := Lib.hid hBZ
  clear hBZ vZ0 vZ1 hgZ1
  have hB := HBZ.out
  have VA_Z := Lib.hid (Vr.below' VA_w2.out hB)
  have VB_Z := Lib.hid (Vr.below' VB_w2.out hB)
  have VR_Z := Lib.hid (Vr.below' VR_w2.out hB)
  have X_Z := Lib.hid (RN.below X_w2.out hB)
  have Y_Z := Lib.hid (RN.below Y_w2.out hB)
  have U_Z := Lib.hid (RN.below U_w2.out hB)
  have K_Z := Lib.hid (RN.below K_w2.out hB)
  have B_Z := Lib.hid (below_on B_w2.out hB)
  have VC_Z := HVZ0
  have VD_Z := HVZ1
  clear hB
  have HDY := Lib.hid (den_pos HY.out.2 HQ2.out Y_Z.out.2)
  have HDV := Lib.hid (den_pos HW.out.2 HQ4.out K_Z.out.2)
  have nb1 : gW2 ≠ w1.heap.size := Nat.ne_of_lt VR_w1.out.lt
  have nb2 : gW2 ≠ gT1 := by have := VR_w1.out.lt; omega
  have nb3 : gW2 ≠ w2.heap.size := Nat.ne_of_lt VR_w2.out.lt
  have nb4 : gW2 ≠ gZ1 := by have := VR_w2.out.lt; omega
  have VA_Zc0 := (VA_Z.out).cell 0 rfl
  have VA_Zc1 := (VA_Z.out).cell 1 rfl
  have VB_Zc0 := (VB_Z.out).cell 0 rfl
  have VB_Zc1 := (VB_Z.out).cell 1 rfl
  have VC_Zc0 := (VC_Z.out).cell 0 rfl
  have VC_Zc1 := (VC_Z.out).cell 1 rfl
  have VD_Zc0 := (VD_Z.out).cell 0 rfl
  have VD_Zc1 := (VD_Z.out).cell 1 rfl
  have VA_Zd := Lib.hid VA_Z.out.drew
  have VB_Zd := Lib.hid VB_Z.out.drew
  have VC_Zd := Lib.hid VC_Z.out.drew
  have VD_Zd := Lib.hid VD_Z.out.drew
  have VR_Zd := Lib.hid VR_Z.out.drew
  have X_Zd := Lib.hid (X_Z.out.below (Below.refl _ _).drew)
  have Y_Zd := Lib.hid (Y_Z.out.below (Below.refl _ _).drew)
  have U_Zd := Lib.hid (U_Z.out.below (Below.refl _ _).drew)
  have K_Zd := Lib.hid (K_Z.out.below (Below.refl _ _).drew)
  have B_Zd := Lib.hid B_Z.out.drew
  first
  | go_region_held3 (fun w' => w'.cell? ⟨w1.heap.size, 0, none⟩ = some (.bool b1) ∧ w'.cell? ⟨w1.heap.size, 1, none⟩ = some (.slice A1 x.length c1) ∧ w'.cell? ⟨gT1, 0, none⟩ = some (.bool b2) ∧ w'.cell? ⟨gT1, 1, none⟩ = some (.slice A2 y.length c2) ∧ w'.cell? ⟨w2.heap.size, 0, none⟩ = some (.bool b3) ∧ w'.cell? ⟨w2.heap.size, 1, none⟩ = some (.slice A3 u.length c3) ∧ w'.cell? ⟨gZ1, 0, none⟩ = some (.bool b4) ∧ w'.cell? ⟨gZ1, 1, none⟩ = some (.slice A4 v.length c4)) (go_keep)
     (first
      | (go_at_call_of 53 A1
         refine (imul_ok Z.drew b1 b4 A1 A4 c1 c4 x v X_Zd.out K_Zd.out (by have := HL1.out; have := HL2.out; have := HL3.out; have := HL4.out; omega)).mono ?_
         rintro e_ a5 ⟨b5, A5, c5, z5, rfl, HB5, HZ5, hz5, hB⟩
         have VA_a5 := Lib.hid (Vr.below' VA_Zd.out hB)
         have VA_a5c0 := (VA_a5.out).cell 0 rfl
         have VA_a5c1 := (VA_a5.out).cell 1 rfl
         have VB_a5 := Lib.hid (Vr.below' VB_Zd.out hB)
         have VB_a5c0 := (VB_a5.out).cell 0 rfl
         have VB_a5c1 := (VB_a5.out).cell 1 rfl
         have VC_a5 := Lib.hid (Vr.below' VC_Zd.out hB)
         have VC_a5c0 := (VC_a5.out).cell 0 rfl
         have VC_a5c1 := (VC_a5.out).cell 1 rfl
         have VD_a5 := Lib.hid (Vr.below' VD_Zd.out hB)
         have VD_a5c0 := (VD_a5.out).cell 0 rfl
         have VD_a5c1 := (VD_a5.out).cell 1 rfl
         have VR_a5 := Lib.hid (Vr.below' VR_Zd.out hB)
         have VR_a5c0 := (VR_a5.out).cell 0 rfl
         have VR_a5c1 := (VR_a5.out).cell 1 rfl
         have VR_a5c2 := (VR_a5.out).cell 2 rfl
         have VR_a5f0 := (VR_a5.out).thaw 0
         have VR_a5f1 := (VR_a5.out).thaw 1
         have VR_a5f2 := (VR_a5.out).thaw 2
         have X_a5 := Lib.hid (RN.below X_Zd.out hB)
         have Y_a5 := Lib.hid (RN.below Y_Zd.out hB)
         have U_a5 := Lib.hid (RN.below U_Zd.out hB)
         have K_a5 := Lib.hid (RN.below K_Zd.out hB)
         have B_a5 := Lib.hid (below_on B_Zd.out hB)
         have N_a5 := Lib.hid hz5
         have HLZ : Hid (z5.length ≤ xs.length + vs.length + 1) := by show _ ≤ _; rw [HZ5.out]; exact Nat.le_trans (zmul_len X_Zd.out.2 K_Zd.out.2) (by have := HL1.out; have := HL2.out; have := HL3.out; have := HL4.out; omega)
         clear hB hz5)
      | (go_at_call_of 53 A2
         refine (imul_ok a5 b2 b3 A2 A3 c2 c3 y u Y_a5.out U_a5.out (by have := HL1.out; have := HL2.out; have := HL3.out; have := HL4.out; omega)).mono ?_
         rintro e_ a8 ⟨b8, A8, c8, z8, rfl, HB8, HZ8, hz8, hB⟩
         have VA_a8 := Lib.hid (Vr.below' VA_a5.out hB)
         have VA_a8c0 := (VA_a8.out).cell 0 rfl
         have VA_a8c1 := (VA_a8.out).cell 1 rfl
         have VB_a8 := Lib.hid (Vr.below' VB_a5.out hB)
         have VB_a8c0 := (VB_a8.out).cell 0 rfl
         have VB_a8c1 := (VB_a8.out).cell 1 rfl
         have VC_a8 := Lib.hid (Vr.below' VC_a5.out hB)
         have VC_a8c0 := (VC_a8.out).cell 0 rfl
         have VC_a8c1 := (VC_a8.out).cell 1 rfl
         have VD_a8 := Lib.hid (Vr.below' VD_a5.out hB)
         have VD_a8c0 := (VD_a8.out).cell 0 rfl
         have VD_a8c1 := (VD_a8.out).cell 1 rfl
         have VR_a8 := Lib.hid (Vr.below' VR_a5.out hB)
         have VR_a8c0 := (VR_a8.out).cell 0 rfl
         have VR_a8c1 := (VR_a8.out).cell 1 rfl
         have VR_a8c2 := (VR_a8.out).cell 2 rfl
         have VR_a8f0 := (VR_a8.out).thaw 0
         have VR_a8f1 := (VR_a8.out).thaw 1
         have VR_a8f2 := (VR_a8.out).thaw 2
         have X_a8 := Lib.hid (RN.below X_a5.out hB)
         have Y_a8 := Lib.hid (RN.below Y_a5.out hB)
         have U_a8 := Lib.hid (RN.below U_a5.out hB)
         have K_a8 := Lib.hid (RN.below K_a5.out hB)
         have N_a8 := Lib.hid (RN.below N_a5.out hB)
         have B_a8 := Lib.hid (below_on B_a5.out hB)
         have O_a8 := Lib.hid hz8
         have HLW : Hid (z8.length ≤ us.length + ys.length + 1) := by show _ ≤ _; rw [HZ8.out]; exact Nat.le_trans (zmul_len Y_a5.out.2 U_a5.out.2) (by have := HL1.out; have := HL2.out; have := HL3.out; have := HL4.out; omega)
         have hze8 : zv b2 y * zv b3 u = qd ys * qn q us vs := by rw [HQ2.out, HQ3.out]
         have hpos8 := Int.mul_pos (qd_pos HY.out.2) HP.out
         obtain rfl : b8 = false := by rw [HB8.out, hze8]; exact decide_eq_false (by omega)
         have HV8 : Hid (V z8 = qd ys * qn q us vs) := by show _ = _; rw [HZ8.out, hze8, V_limbs]; omega
         have HOK : Hid (true = decide (V z8 ≠ 0)) := by show _ = _; rw [HV8.out]; exact (decide_eq_true (by omega)).symm
         have HFB : Hid ((b5 != false) = b5) := by show _ = _; cases b5 <;> rfl
         clear hze8 hpos8
         clear hB hz8)
      | (go_at_call 61
         refine (qmake_ok a8 b5 false A5 A8 c5 c8 z5 z8 N_a8.out O_a8.out (by have := HLZ.out; omega) (by have := HLW.out; omega) true HOK).mono ?_
         rintro e_ a7 ⟨b7, A7, c7, x7, B7, d7, y7, rfl, HR1, HR2, HR3, hr1, hr2, hB⟩
         have VA_a7 := Lib.hid (Vr.below' VA_a8.out hB)
         have VA_a7c0 := (VA_a7.out).cell 0 rfl
         have VA_a7c1 := (VA_a7.out).cell 1 rfl
         have VB_a7 := Lib.hid (Vr.below' VB_a8.out hB)
         have VB_a7c0 := (VB_a7.out).cell 0 rfl
         have VB_a7c1 := (VB_a7.out).cell 1 rfl
         have VC_a7 := Lib.hid (Vr.below' VC_a8.out hB)
         have VC_a7c0 := (VC_a7.out).cell 0 rfl
         have VC_a7c1 := (VC_a7.out).cell 1 rfl
         have VD_a7 := Lib.hid (Vr.below' VD_a8.out hB)
         have VD_a7c0 := (VD_a7.out).cell 0 rfl
         have VD_a7c1 := (VD_a7.out).cell 1 rfl
         have VR_a7 := Lib.hid (Vr.below' VR_a8.out hB)
         have VR_a7c0 := (VR_a7.out).cell 0 rfl
         have VR_a7c1 := (VR_a7.out).cell 1 rfl
         have VR_a7c2 := (VR_a7.out).cell 2 rfl
         have VR_a7f0 := (VR_a7.out).thaw 0
         have VR_a7f1 := (VR_a7.out).thaw 1
         have VR_a7f2 := (VR_a7.out).thaw 2
         have B_a7 := Lib.hid (below_on B_a8.out hB)
         have S_a7 := Lib.hid hr1
         have R_a7 := Lib.hid hr2
         clear hB hr1 hr2))
  | fail
  have hqm : qv b5 z5 z8 = qv p xs ys / qv q us vs := by
    have h1 := qd_pos HY.out.2
    have h2 := qd_pos HW.out.2
    have e1 : zv b5 z5 = qn p xs ys * qd vs := by rw [HB5.out, HZ5.out, zv_norm, HQ1.out, HQ4.out]
    rw [qv_parts HY.out.2, qv_parts HW.out.2]
    unfold qv
    rw [e1, HV8.out]
    exact qdiv_eq h1 HP.out h2
  have HQM : Hid (qv (b5 != false) z5 z8 = qv p xs ys / qv q us vs) := by show _ = _; rw [HFB.out]; exact hqm
  clear hqm
  go_wp2_with fail
  have S_y1 := (S_a7.out).apart (VR_a7.out) (nd_rat _ _ _ _ _ _ _) 0 (.bool b7)
  have R_y1 := (R_a7.out).apart (VR_a7.out) (nd_rat _ _ _ _ _ _ _) 0 (.bool b7)
  have VR_y1 := (VR_a7.out).set 0 (.bool b7)
  have S_y2 := (S_y1).apart (VR_y1) (nd_rat _ _ _ _ _ _ _) 1 (.slice A7 x7.length c7)
  have R_y2 := (R_y1).apart (VR_y1) (nd_rat _ _ _ _ _ _ _) 1 (.slice A7 x7.length c7)
  have VR_y2 := (VR_y1).set 1 (.slice A7 x7.length c7)
  have S_y3 := (S_y2).apart (VR_y2) (nd_rat _ _ _ _ _ _ _) 2 (.slice B7 y7.length d7)
  have R_y3 := (R_y2).apart (VR_y2) (nd_rat _ _ _ _ _ _ _) 2 (.slice B7 y7.length d7)
  have VR_y3 := (VR_y2).set 2 (.slice B7 y7.length d7)
  have VR_yy : Vr (((a7.setCell ⟨gW2, 0, none⟩ (.bool b7)).setCell ⟨gW2, 1, none⟩ (.slice A7 x7.length c7)).setCell ⟨gW2, 2, none⟩ (.slice B7 y7.length d7)) gW2 28 #[.bool b7, .slice A7 x7.length c7, .slice B7 y7.length d7] := VR_y3
  refine bodyPost_ret (v := .tuple #[.agg #[.bool b7, .slice A7 x7.length c7, .slice B7 y7.length d7], .bool true]) (by simp [results, Tryz.results32, go_sem, VR_yy.cell 0 rfl, VR_yy.cell 1 rfl, VR_yy.cell 2 rfl]) rfl ?_
  exact ⟨b7, A7, c7, x7, B7, d7, y7, rfl, by rw [← HQM.out]; exact HR1, by rw [← HQM.out]; exact HR2, by rw [← HQM.out]; exact HR3, S_y3, R_y3, (below_set (below_set (below_set B_a7.out hgeW2 _) hgeW2 _) hgeW2 _)⟩
theorem qv_fl {b : Bool} {xs ys : List Int} (hy : Lim ys) : qn b xs ys / qd ys = (qv b xs ys).num / ((qv b xs ys).den : Int) := by
  have h0 := qd_pos hy
  obtain ⟨m, h1, h2, h3⟩ := mk_parts (n := qn b xs ys) (d := (qd ys).toNat) (by omega)
  rw [← qv_parts hy] at h2 h3
  have h4 : qd ys = ((qv b xs ys).den : Int) * (m : Int) := by
    have : (((qd ys).toNat : Nat) : Int) = (((qv b xs ys).den * m : Nat) : Int) := by rw [← h3]
    rw [Int.natCast_mul] at this
    omega
  rw [h2, h4]
  exact Int.mul_ediv_mul_of_pos_left _ _ (by omega)
set_option maxHeartbeats 3200000 in
theorem qfloorF_ok (w : World) (b : Bool) (A B : Option Addr) (c d : Nat) (xs ys : List Int) (hx : RN w A c xs) (hy : RN w B d ys) (hsx : xs.length ≤ 35184372088790) (hsy : ys.length ≤ 35184372088790) :
    Calls Tryz.prog 29 #[.agg #[.bool b, .slice A xs.length c, .slice B ys.length d]] w (RetZI ((qv b xs ys).num / ((qv b xs ys).den : Int)) w) := by
  have HX := Lib.hid hx
  have HY := Lib.hid hy
  clear hx hy
  go_enter Tryz.func29, Tryz.ntmps29
  obtain ⟨fl, hfl⟩ : ∃ fl, (qv b xs ys).num / ((qv b xs ys).den : Int) = fl := ⟨_, rfl⟩
  rw [hfl]
  have hqf := qv_fl (b := b) (xs := xs) HY.out.2
  rw [hfl] at hqf
  have HFL := Lib.hid hqf
  clear hfl hqf
  go_upto_region 1 with fail
  obtain ⟨W, hW⟩ : ∃ W, W = ((w.alloc (.cells #[.bool b, .slice A xs.length c, .slice B ys.length d] 28)).alloc (.cells #[.bool false, .slice none 0 0] 26)) := ⟨_, rfl⟩
  rw [← hW]
  have H_W : Mo w W [(w.heap.size, 28, #[.bool b, .slice A xs.length c, .slice B ys.length d]), (w.heap.size + 1, 26, #[.bool false, .slice none 0 0])] [] := by
    rw [hW]
    have h := (((Mo.start w).alloc (t := 28) (cs := #[.bool b, .slice A xs.length c, .slice B ys.length d]) (nd_rat _ _ _ _ _ _ _)).alloc (t := 26) (cs := #[.bool false, .slice none 0 0]) (nd_int _ _ _ _))
    simp only [size_alloc, List.nil_append, List.cons_append] at h
    exact h
  clear hW
  obtain ⟨gW1, hgW1⟩ : ∃ g, w.heap.size + 1 = g := ⟨_, rfl⟩
  rw [hgW1] at H_W ⊢
  clear hgW1
  have neW01 : w.heap.size ≠ gW1 := H_W.apart 0 1 _ _ _ _ _ _ rfl rfl (by decide)
  have neW10 : gW1 ≠ w.heap.size := H_W.apart 1 0 _ _ _ _ _ _ rfl rfl (by decide)
  have H_W := Lib.hid H_W
  have k0Wc0 := ((H_W.out.var 0 rfl)).cell 0 rfl
  have k0Wc1 := ((H_W.out.var 0 rfl)).cell 1 rfl
  have k0Wc2 := ((H_W.out.var 0 rfl)).cell 2 rfl
  go_wp2_with fail
  refine (parts_ok W b A B c d xs ys (HX.out.below H_W.out.below) (HY.out.below H_W.out.below) (by omega)).mono ?_
  rintro e_ w1 ⟨b1, A1, c1, x, b2, A2, c2, y, rfl, HQ1, HQ2, HL1, HL2, hx1, hy1, hB⟩
  have H_w1 := Lib.hid (Mo.num (Mo.num (Mo.call H_W.out hB) hx1) hy1)
  have hly := hy1.2
  clear hB hx1 hy1
  have HDY : Hid (V y = qd ys) := den_pos HY.out.2 HQ2.out hly
  obtain rfl : b2 = false := by
    have h1 := qd_pos HY.out.2
    have h2 := HQ2.out
    cases b2
    · rfl
    · rw [zv_t] at h2
      have := V_nonneg hly
      omega
  clear hly
  go_upto_region 2 with fail
  obtain ⟨T, hT⟩ : ∃ T, T = (w1.alloc (.cells #[.bool b1, .slice A1 x.length c1] 26)).alloc (.cells #[.bool false, .slice A2 y.length c2] 26) := ⟨_, rfl⟩
  rw [← hT]
  have H_T : Hid (Mo w T _ _) := Lib.hid (by rw [hT]; exact (H_w1.out.alloc' (t := 26) (cs := #[.bool b1, .slice A1 x.length c1]) (w1.heap.size) rfl (nd_int _ _ _ _)).alloc' (t := 26) (cs := #[.bool false, .slice A2 y.length c2]) (w1.heap.size + 1) (by rw [size_alloc]) (nd_int _ _ _ _))
  clear hT
  have k2Tc0 := ((H_T.out.var 2 rfl)).cell 0 rfl
  have k2Tc1 := ((H_T.out.var 2 rfl)).cell 1 rfl
  have k3Tc0 := ((H_T.out.var 3 rfl)).cell 0 rfl
  have k3Tc1 := ((H_T.out.var 3 rfl)).cell 1 rfl
  go_wp2_with fail
  refine (idivMod_ok T b1 A1 A2 c1 c2 x y (H_T.out.rn 0 rfl) (H_T.out.rn 1 rfl) (by have := HL1.out; omega) (by have := HL2.out; omega) (by rw [HDY.out]; exact qd_pos HY.out.2)).mono ?_
  rw [HQ1.out, HDY.out, HFL.out]
  rintro e_ w2 ⟨b3, A3, c3, z3, b4, A4, c4, z4, rfl, HB3, HZ3, HB4, HZ4, hz3, hz4, hB⟩
  have H_w2 := Lib.hid (Mo.num (Mo.num (Mo.call H_T.out hB) hz3) hz4)
  clear hB hz3 hz4
  go_upto_region 3 with fail
  obtain ⟨Y, hY⟩ : ∃ Y, Y = (w2.alloc (.cells #[.bool b3, .slice A3 z3.length c3] 26)).alloc (.cells #[.bool b4, .slice A4 z4.length c4] 26) := ⟨_, rfl⟩
  rw [← hY]
  have H_Y : Hid (Mo w Y _ _) := Lib.hid (by rw [hY]; exact (H_w2.out.alloc' (t := 26) (cs := #[.bool b3, .slice A3 z3.length c3]) (w2.heap.size) rfl (nd_int _ _ _ _)).alloc' (t := 26) (cs := #[.bool b4, .slice A4 z4.length c4]) (w2.heap.size + 1) (by rw [size_alloc]) (nd_int _ _ _ _))
  clear hY
  have k4Yc0 := ((H_Y.out.var 4 rfl)).cell 0 rfl
  have k4Yc1 := ((H_Y.out.var 4 rfl)).cell 1 rfl
  have k1Yc0 := ((H_Y.out.var 1 rfl)).cell 0 rfl
  have k1Yc1 := ((H_Y.out.var 1 rfl)).cell 1 rfl
  have k1Yf0 := ((H_Y.out.var 1 rfl)).thaw 0
  have k1Yf1 := ((H_Y.out.var 1 rfl)).thaw 1
  go_wp2_with fail
  have hz1 := H_Y.out.set 1 (j := 0) (v := .bool b3) (cs' := #[.bool b3, .slice none 0 0]) rfl rfl (nd_int _ _ _ _)
  have hz2 := hz1.set 1 (j := 1) (v := .slice A3 z3.length c3) (cs' := #[.bool b3, .slice A3 z3.length c3]) rfl rfl (nd_int _ _ _ _)
  have v3 : Vr ((Y.setCell ⟨gW1, 0, none⟩ (.bool b3)).setCell ⟨gW1, 1, none⟩ (.slice A3 z3.length c3)) gW1 26 #[.bool b3, .slice A3 z3.length c3] := hz2.var 1 rfl
  refine bodyPost_ret (v := .agg #[.bool b3, .slice A3 z3.length c3]) (by simp [results, Tryz.results29, go_sem, v3.cell 0 rfl, v3.cell 1 rfl]) rfl ?_
  exact ⟨b3, A3, c3, z3, rfl, HB3, HZ3, hz2.rn 2 rfl, hz2.below⟩

end Go.Proofs.YtocpncjmcaecoaaGreat.M
