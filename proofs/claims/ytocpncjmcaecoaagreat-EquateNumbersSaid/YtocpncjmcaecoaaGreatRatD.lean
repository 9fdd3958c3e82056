/- Rational numbers of the program: normal form, product, sum. -/
import Derived.Test.YtocpncjmcaecoaaGreatIntD
import Derived.Test.YtocpncjmcaecoaaGreatRefRatC
namespace Go.Proofs.YtocpncjmcaecoaaGreat.M
set_option maxRecDepth 10000
open Go.RowKit
set_option linter.unusedVariables false
set_option linter.unusedSimpArgs false
theorem den_pos {b : Bool} {y ys : List Int} (hy : Lim ys) (h : zv b y = qd ys) (hl : Lim y) : V y = qd ys := by
  have h1 := qd_pos hy
  have h2 := V_nonneg hl
  cases b
  · exact h
  · rw [zv_t] at h; omega
set_option maxHeartbeats 1600000 in
theorem qnorm_ok (w : World) (b : Bool) (A B : Option Addr) (c d : Nat) (xs ys : List Int) (hx : RN w A c xs) (hy : RN w B d ys) (hsx : xs.length ≤ 35184372088800) (hsy : ys.length ≤ 35184372088800) :
    Calls Tryz.prog 101 #[.agg #[.bool b, .slice A xs.length c, .slice B ys.length d]] w (RetQ (qv b xs ys) w) := by
  have HX := Lib.hid hx
  have HY := Lib.hid hy
  clear hx hy
  go_enter Tryz.func101, Tryz.ntmps101
  go_wp2_with fail
  obtain ⟨W, hW⟩ : ∃ W, W = ((w.alloc (.cells #[.bool b, .slice A xs.length c, .slice B ys.length d] 28)).alloc (.cells #[.bool false, .slice none 0 0, .slice none 0 0] 28)) := ⟨_, rfl⟩
  rw [← hW]
  have hBW : Below w.heap.size w W := by rw [hW]; exact (((Below.refl _ _).alloc (Nat.le_refl _) _).alloc (by simp only [size_alloc]; omega) _)
  have vW0 : Vr W (w.heap.size) 28 #[.bool b, .slice A xs.length c, .slice B ys.length d] := by rw [hW]; exact ((Vr.new' _ _ _ (by simp only [size_alloc])).alloc _)
  have vW1 : Vr W (w.heap.size + 1) 28 #[.bool false, .slice none 0 0, .slice none 0 0] := by rw [hW]; exact (Vr.new' _ _ _ (by simp only [size_alloc]))
  clear hW
  obtain ⟨gW1, hgW1⟩ : ∃ g, w.heap.size + 1 = g := ⟨_, rfl⟩
  rw [hgW1] at vW1 ⊢
  have hneW01 : w.heap.size ≠ gW1 := by omega
  have hgeW1 : w.heap.size ≤ gW1 := by omega
  have hneW10 : gW1 ≠ w.heap.size := by omega
  have HVW0 := Lib.hid vW0
  have HVW1 := Lib.hid vW1
  have HBW := Lib.hid hBW
  clear hBW vW0 vW1 hgW1
  have V1_W := HVW1
  have B_W := HBW
  refine (lowest_ok W b A B c d xs ys (HX.out.below B_W.out) (HY.out.below B_W.out) hsx hsy).mono ?_
  rintro e_ w1 ⟨b2, A2, c2, x2, B2, d2, y2, rfl, HQ1, HQ2, HQ3, hr1, hr2, hB⟩
  have V1_w1 := Lib.hid (Vr.below' V1_W.out hB)
  have V1_w1c0 := (V1_w1.out).cell 0 rfl
  have V1_w1c1 := (V1_w1.out).cell 1 rfl
  have V1_w1c2 := (V1_w1.out).cell 2 rfl
  have V1_w1f0 := (V1_w1.out).thaw 0
  have V1_w1f1 := (V1_w1.out).thaw 1
  have V1_w1f2 := (V1_w1.out).thaw 2
  have B_w1 := Lib.hid (below_on B_W.out hB)
  have X_w1 := Lib.hid hr1
  have Y_w1 := Lib.hid hr2
  clear hB hr1 hr2
  go_wp2_with fail
  have X_y1 := (X_w1.out).apart (V1_w1.out) (nd_rat _ _ _ _ _ _ _) 0 (.bool b2)
  have Y_y1 := (Y_w1.out).apart (V1_w1.out) (nd_rat _ _ _ _ _ _ _) 0 (.bool b2)
  have V1_y1 := (V1_w1.out).set 0 (.bool b2)
  have X_y2 := (X_y1).apart (V1_y1) (nd_rat _ _ _ _ _ _ _) 1 (.slice A2 x2.length c2)
  have Y_y2 := (Y_y1).apart (V1_y1) (nd_rat _ _ _ _ _ _ _) 1 (.slice A2 x2.length c2)
  have V1_y2 := (V1_y1).set 1 (.slice A2 x2.length c2)
  have X_y3 := (X_y2).apart (V1_y2) (nd_rat _ _ _ _ _ _ _) 2 (.slice B2 y2.length d2)
  have Y_y3 := (Y_y2).apart (V1_y2) (nd_rat _ _ _ _ _ _ _) 2 (.slice B2 y2.length d2)
  have V1_y3 := (V1_y2).set 2 (.slice B2 y2.length d2)
  have V1_yy : Vr (((w1.setCell ⟨gW1, 0, none⟩ (.bool b2)).setCell ⟨gW1, 1, none⟩ (.slice A2 x2.length c2)).setCell ⟨gW1, 2, none⟩ (.slice B2 y2.length d2)) gW1 28 #[.bool b2, .slice A2 x2.length c2, .slice B2 y2.length d2] := V1_y3
  refine bodyPost_ret (v := .agg #[.bool b2, .slice A2 x2.length c2, .slice B2 y2.length d2]) (by simp [results, Tryz.results101, go_sem, V1_yy.cell 0 rfl, V1_yy.cell 1 rfl, V1_yy.cell 2 rfl]) rfl ?_
  exact ⟨b2, A2, c2, x2, B2, d2, y2, rfl, HQ1, HQ2, HQ3, X_y3, Y_y3, (below_set (below_set (below_set B_w1.out hgeW1 _) hgeW1 _) hgeW1 _)⟩
set_option maxHeartbeats 3200000 in
theorem qmulF_ok (w : World) (p q : Bool) (P P2 Q Q2 : Option Addr) (cp cp2 cq cq2 : Nat) (xs ys us vs : List Int) (hx : RN w P cp xs) (hy : RN w P2 cp2 ys) (hu : RN w Q cq us) (hw : RN w Q2 cq2 vs) (hb1 : xs.length + us.length ≤ 35184372088800) (hb2 : ys.length + vs.length + 2 ≤ 35184372088800) :
    Calls Tryz.prog 30 #[.agg #[.bool p, .slice P xs.length cp, .slice P2 ys.length cp2], .agg #[.bool q, .slice Q us.length cq, .slice Q2 vs.length cq2]] w (RetQ (qv p xs ys * qv q us vs) w) := by
  have HX := Lib.hid hx
  have HY := Lib.hid hy
  have HU := Lib.hid hu
  have HW := Lib.hid hw
  clear hx hy hu hw
  go_enter Tryz.func30, Tryz.ntmps30
  go_upto_region 1 with fail
  obtain ⟨W, hW⟩ : ∃ W, W = (((w.alloc (.cells #[.bool p, .slice P xs.length cp, .slice P2 ys.length cp2] 28)).alloc (.cells #[.bool q, .slice Q us.length cq, .slice Q2 vs.length cq2] 28)).alloc (.cells #[.bool false, .slice none 0 0, .slice none 0 0] 28)) := ⟨_, rfl⟩
  rw [← hW]
  have hBW : Below w.heap.size w W := by rw [hW]; exact ((((Below.refl _ _).alloc (Nat.le_refl _) _).alloc (by simp only [size_alloc]; omega) _).alloc (by simp only [size_alloc]; omega) _)
  have vW0 : Vr W (w.heap.size) 28 #[.bool p, .slice P xs.length cp, .slice P2 ys.length cp2] := by rw [hW]; exact (((Vr.new' _ _ _ (by simp only [size_alloc])).alloc _).alloc _)
  have vW1 : Vr W (w.heap.size + 1) 28 #[.bool q, .slice Q us.length cq, .slice Q2 vs.length cq2] := by rw [hW]; exact ((Vr.new' _ _ _ (by simp only [size_alloc])).alloc _)
  have vW2 : Vr W (w.heap.size + 1 + 1) 28 #[.bool false, .slice none 0 0, .slice none 0 0] := by rw [hW]; exact (Vr.new' _ _ _ (by simp only [size_alloc]))
  clear hW
  obtain ⟨gW2, hgW2⟩ : ∃ g, w.heap.size + 1 + 1 = g := ⟨_, rfl⟩
  rw [hgW2] at vW2 ⊢
  obtain ⟨gW1, hgW1⟩ : ∃ g, w.heap.size + 1 = g := ⟨_, rfl⟩
  rw [hgW1] at vW1 ⊢
  have hneW01 : w.heap.size ≠ gW1 := by omega
  have hneW02 : w.heap.size ≠ gW2 := by omega
  have hgeW1 : w.heap.size ≤ gW1 := by omega
  have hneW10 : gW1 ≠ w.heap.size := by omega
  have hneW12 : gW1 ≠ gW2 := by omega
  have hgeW2 : w.heap.size ≤ gW2 := by omega
  have hneW20 : gW2 ≠ w.heap.size := by omega
  have hneW21 : gW2 ≠ gW1 := by omega
  have HVW0 := Lib.hid vW0
  have HVW1 := Lib.hid vW1
  have HVW2 := Lib.hid vW2
  have HBW := Lib.hid hBW
  clear hBW vW0 vW1 vW2 hgW1 hgW2
  have oc0 := (HVW0.out).cell 0 rfl
  have oc1 := (HVW0.out).cell 1 rfl
  have oc2 := (HVW0.out).cell 2 rfl
  have V1_W := HVW1
  have VR_W := HVW2
  have B_W := HBW
  go_wp2_with fail
  refine (parts_ok W p P P2 cp cp2 xs ys (HX.out.below B_W.out) (HY.out.below B_W.out) (by omega)).mono ?_
  rintro e_ w1 ⟨b1, A1, c1, x, b2, A2, c2, y, rfl, HQ1, HQ2, HL1, HL2, hx1, hy1, hB⟩
  have V1_w1 := Lib.hid (Vr.below' V1_W.out hB)
  have VR_w1 := Lib.hid (Vr.below' VR_W.out hB)
  have B_w1 := Lib.hid (below_on B_W.out hB)
  have X_w1 := Lib.hid hx1
  have Y_w1 := Lib.hid hy1
  clear hB hx1 hy1
  go_upto_region 2 with fail
  obtain ⟨T, hT⟩ : ∃ T, T = ((w1.alloc (.cells #[.bool b1, .slice A1 x.length c1] 26)).alloc (.cells #[.bool b2, .slice A2 y.length c2] 26)) := ⟨_, rfl⟩
  rw [← hT]
  have hBT : Below w1.heap.size w1 T := by rw [hT]; exact (((Below.refl _ _).alloc (Nat.le_refl _) _).alloc (by simp only [size_alloc]; omega) _)
  have vT0 : Vr T (w1.heap.size) 26 #[.bool b1, .slice A1 x.length c1] := by rw [hT]; exact ((Vr.new' _ _ _ (by simp only [size_alloc])).alloc _)
  have vT1 : Vr T (w1.heap.size + 1) 26 #[.bool b2, .slice A2 y.length c2] := by rw [hT]; exact (Vr.new' _ _ _ (by simp only [size_alloc]))
  clear hT
  obtain ⟨gT1, hgT1⟩ : ∃ g, w1.heap.size + 1 = g := ⟨_, rfl⟩
  rw [hgT1] at vT1 ⊢
  have hneT01 : w1.heap.size ≠ gT1 := by omega
  have hgeT1 : w1.heap.size ≤ gT1 := by omega
  have hneT10 : gT1 ≠ w1.heap.size := by omega
  have HVT0 := Lib.hid vT0
  have HVT1 := Lib.hid vT1
  have HBT := Lib.hid hBT
  clear hBT vT0 vT1 hgT1
  have hB := HBT.out
  have V1_T := Lib.hid (Vr.below' V1_w1.out hB)
  have V1_Tc0 := (V1_T.out).cell 0 rfl
  have V1_Tc1 := (V1_T.out).cell 1 rfl
  have V1_Tc2 := (V1_T.out).cell 2 rfl
  have VR_T := Lib.hid (Vr.below' VR_w1.out hB)
  have X_T := Lib.hid (RN.below X_w1.out hB)
  have Y_T := Lib.hid (RN.below Y_w1.out hB)
  have B_T := Lib.hid (below_on B_w1.out hB)
  have VA_T := HVT0
  have VB_T := HVT1
  clear hB
  go_wp2_with fail
  refine (parts_ok T q Q Q2 cq cq2 us vs (HU.out.below B_T.out) (HW.out.below B_T.out) (by omega)).mono ?_
  rintro e_ w2 ⟨b3, A3, c3, u, b4, A4, c4, v, rfl, HQ3, HQ4, HL3, HL4, hx1, hy1, hB⟩
  have VA_w2 := Lib.hid (Vr.below' VA_T.out hB)
  have VB_w2 := Lib.hid (Vr.below' VB_T.out hB)
  have VR_w2 := Lib.hid (Vr.below' VR_T.out hB)
  have X_w2 := Lib.hid (RN.below X_T.out hB)
  have Y_w2 := Lib.hid (RN.below Y_T.out hB)
  have B_w2 := Lib.hid (below_on B_T.out hB)
  have U_w2 := Lib.hid hx1
  have K_w2 := Lib.hid hy1
  clear hB hx1 hy1
  go_upto_region 3 with fail
  obtain ⟨Z, hZ⟩ : ∃ Z, Z = ((w2.alloc (.cells #[.bool b3, .slice A3 u.length c3] 26)).alloc (.cells #[.bool b4, .slice A4 v.length c4] 26)) := ⟨_, rfl⟩
  rw [← hZ]
  have hBZ : Below w2.heap.size w2 Z := by rw [hZ]; exact (((Below.refl _ _).alloc (Nat.le_refl _) _).alloc (by simp only [size_alloc]; omega) _)
  have vZ0 : Vr Z (w2.heap.size) 26 #[.bool b3, .slice A3 u.length c3] := by rw [hZ]; exact ((Vr.new' _ _ _ (by simp only [size_alloc])).alloc _)
  have vZ1 : Vr Z (w2.heap.size + 1) 26 #[.bool b4, .slice A4 v.length c4] := by rw [hZ]; exact (Vr.new' _ _ _ (by simp only [size_alloc]))
  clear hZ
  obtain ⟨gZ1, hgZ1⟩ : ∃ g, w2.heap.size + 1 = g := ⟨_, rfl⟩
  rw [hgZ1] at vZ1 ⊢
  have hneZ01 : w2.heap.size ≠ gZ1 := by omega
  have hgeZ1 : w2.heap.size ≤ gZ1 := by omega
  have hneZ10 : gZ1 ≠ w2.heap.size := by omega
  have HVZ0 := Lib.hid vZ0
  have HVZ1 := Lib.hid vZ1
  have HBZ := Lib.hid hBZ
  clear hBZ vZ0 vZ1 hgZ1
  have hB := HBZ.out
  have VA_Z := Lib.hid (Vr.below' VA_w2.out hB)
  have VB_Z := Lib.hid (Vr.below' VB_w2.out hB)
  have VR_Z := Lib.hid (Vr.below' VR_w2.out hB)
  have X_Z := Lib.hid (RN.below X_w2.out hB)
  have Y_Z := Lib.hid (RN.below Y_w2.out hB)
  have U_Z := Lib.hid (RN.below U_w2.out hB)
  have K_Z := Lib.hid (RN.below K_w2.out hB)
  have B_Z := Lib.hid (below_on B_w2.out hB)
  have VC_Z := HVZ0
  have VD_Z := HVZ1
  clear hB
  have HDY := Lib.hid (den_pos HY.out.2 HQ2.out Y_Z.out.2)
  have HDV := Lib.hid (den_pos HW.out.2 HQ4.out K_Z.out.2)
  have nb1 : gW2 ≠ w1.heap.size := Nat.ne_of_lt VR_w1.out.lt
  have nb2 : gW2 ≠ gT1 := by have := VR_w1.out.lt; omega
  have nb3 : gW2 ≠ w2.heap.size := Nat.ne_of_lt VR_w2.out.lt
  have nb4 : gW2 ≠ gZ1 := by have := VR_w2.out.lt; omega
  have VA_Zc0 := (VA_Z.out).cell 0 rfl
  have VA_Zc1 := (VA_Z.out).cell 1 rfl
  have VB_Zc0 := (VB_Z.out).cell 0 rfl
  have VB_Zc1 := (VB_Z.out).cell 1 rfl
  have VC_Zc0 := (VC_Z.out).cell 0 rfl
  have VC_Zc1 := (VC_Z.out).cell 1 rfl
  have VD_Zc0 := (VD_Z.out).cell 0 rfl
  have VD_Zc1 := (VD_Z.out).cell 1 rfl
  have VA_Zd := Lib.hid VA_Z.out.drew
  have VB_Zd := Lib.hid VB_Z.out.drew
  have VC_Zd := Lib.hid VC_Z.out.drew
  have VD_Zd := Lib.hid VD_Z.out.drew
  have VR_Zd := Lib.hid VR_Z.out.drew
  have X_Zd := Lib.hid (X_Z.out.below (Below.refl _ _).drew)
  have Y_Zd := Lib.hid (Y_Z.out.below (Below.refl _ _).drew)
  have U_Zd := Lib.hid (U_Z.out.below (Below.refl _ _).drew)
  have K_Zd := Lib.hid (K_Z.out.below (Below.refl _ _).drew)
  have B_Zd := Lib.hid B_Z.out.drew
  first
  | go_region_held3 (fun w' => w'.cell? ⟨w1.heap.size, 0, none⟩ = some (.bool b1) ∧ w'.cell? ⟨w1.heap.size, 1, none⟩ = some (.slice A1 x.length c1) ∧ w'.cell? ⟨gT1, 0, none⟩ = some (.bool b2) ∧ w'.cell? ⟨gT1, 1, none⟩ = some (.slice A2 y.length c2) ∧ w'.cell? ⟨w2.heap.size, 0, none⟩ = some (.bool b3) ∧ w'.cell? ⟨w2.heap.size, 1, none⟩ = some (.slice A3 u.length c3) ∧ w'.cell? ⟨gZ1, 0, none⟩ = some (.bool b4) ∧ w'.cell? ⟨gZ1, 1, none⟩ = some (.slice A4 v.length c4)) (go_keep)
     (first
      | (go_at_call 53
         refine (imul_ok Z.drew b1 b3 A1 A3 c1 c3 x u X_Zd.out U_Zd.out (by have := HL1.out; have := HL2.out; have := HL3.out; have := HL4.out; omega)).mono ?_
         rintro e_ a5 ⟨b5, A5, c5, z5, rfl, HB5, HZ5, hz5, hB⟩
         have VA_a5 := Lib.hid (Vr.below' VA_Zd.out hB)
         have VA_a5c0 := (VA_a5.out).cell 0 rfl
         have VA_a5c1 := (VA_a5.out).cell 1 rfl
         have VB_a5 := Lib.hid (Vr.below' VB_Zd.out hB)
         have VB_a5c0 := (VB_a5.out).cell 0 rfl
         have VB_a5c1 := (VB_a5.out).cell 1 rfl
         have VC_a5 := Lib.hid (Vr.below' VC_Zd.out hB)
         have VC_a5c0 := (VC_a5.out).cell 0 rfl
         have VC_a5c1 := (VC_a5.out).cell 1 rfl
         have VD_a5 := Lib.hid (Vr.below' VD_Zd.out hB)
         have VD_a5c0 := (VD_a5.out).cell 0 rfl
         have VD_a5c1 := (VD_a5.out).cell 1 rfl
         have VR_a5 := Lib.hid (Vr.below' VR_Zd.out hB)
         have VR_a5c0 := (VR_a5.out).cell 0 rfl
         have VR_a5c1 := (VR_a5.out).cell 1 rfl
         have VR_a5c2 := (VR_a5.out).cell 2 rfl
         have VR_a5f0 := (VR_a5.out).thaw 0
         have VR_a5f1 := (VR_a5.out).thaw 1
         have VR_a5f2 := (VR_a5.out).thaw 2
         have X_a5 := Lib.hid (RN.below X_Zd.out hB)
         have Y_a5 := Lib.hid (RN.below Y_Zd.out hB)
         have U_a5 := Lib.hid (RN.below U_Zd.out hB)
         have K_a5 := Lib.hid (RN.below K_Zd.out hB)
         have B_a5 := Lib.hid (below_on B_Zd.out hB)
         have N_a5 := Lib.hid hz5
         have HLZ : Hid (z5.length ≤ xs.length + us.length) := by show _ ≤ _; rw [HZ5.out]; exact Nat.le_trans (zmul_len X_Zd.out.2 U_Zd.out.2) (by have := HL1.out; have := HL2.out; have := HL3.out; have := HL4.out; omega)
         clear hB hz5)
      | (go_at_call 54
         refine (mul_ok a5 A2 A4 c2 c4 y v Y_a5.out K_a5.out (by have := HL1.out; have := HL2.out; have := HL3.out; have := HL4.out; omega)).mono ?_
         rintro e_ a6 ⟨A6, c6, m6, rfl, HM6, hm6, hB⟩
         have VA_a6 := Lib.hid (Vr.below' VA_a5.out hB)
         have VA_a6c0 := (VA_a6.out).cell 0 rfl
         have VA_a6c1 := (VA_a6.out).cell 1 rfl
         have VB_a6 := Lib.hid (Vr.below' VB_a5.out hB)
         have VB_a6c0 := (VB_a6.out).cell 0 rfl
         have VB_a6c1 := (VB_a6.out).cell 1 rfl
         have VC_a6 := Lib.hid (Vr.below' VC_a5.out hB)
         have VC_a6c0 := (VC_a6.out).cell 0 rfl
         have VC_a6c1 := (VC_a6.out).cell 1 rfl
         have VD_a6 := Lib.hid (Vr.below' VD_a5.out hB)
         have VD_a6c0 := (VD_a6.out).cell 0 rfl
         have VD_a6c1 := (VD_a6.out).cell 1 rfl
         have VR_a6 := Lib.hid (Vr.below' VR_a5.out hB)
         have VR_a6c0 := (VR_a6.out).cell 0 rfl
         have VR_a6c1 := (VR_a6.out).cell 1 rfl
         have VR_a6c2 := (VR_a6.out).cell 2 rfl
         have VR_a6f0 := (VR_a6.out).thaw 0
         have VR_a6f1 := (VR_a6.out).thaw 1
         have VR_a6f2 := (VR_a6.out).thaw 2
         have X_a6 := Lib.hid (RN.below X_a5.out hB)
         have Y_a6 := Lib.hid (RN.below Y_a5.out hB)
         have U_a6 := Lib.hid (RN.below U_a5.out hB)
         have K_a6 := Lib.hid (RN.below K_a5.out hB)
         have N_a6 := Lib.hid (RN.below N_a5.out hB)
         have B_a6 := Lib.hid (below_on B_a5.out hB)
         have M_a6 := Lib.hid hm6
         have HVM : Hid (V m6 = qd ys * qd vs) := by show _ = _; have h1 := qd_pos HY.out.2; have h2 := qd_pos HW.out.2; rw [HM6.out, V_limbs, HDY.out, HDV.out, Int.natCast_mul, Int.toNat_of_nonneg (by omega), Int.toNat_of_nonneg (by omega)]
         have HLM : Hid (m6.length ≤ ys.length + vs.length + 2) := by show _ ≤ _; rw [HM6.out]; exact Nat.le_trans (mul_len Y_a5.out.2 K_a5.out.2) (by have := HL1.out; have := HL2.out; have := HL3.out; have := HL4.out; omega)
         clear hB hm6)
      | (go_at_call 51
         refine (lowest_ok a6 b5 A5 A6 c5 c6 z5 m6 N_a6.out M_a6.out (by have := HLZ.out; omega) (by have := HLM.out; omega)).mono ?_
         rintro e_ a7 ⟨b7, A7, c7, x7, B7, d7, y7, rfl, HR1, HR2, HR3, hr1, hr2, hB⟩
         have VA_a7 := Lib.hid (Vr.below' VA_a6.out hB)
         have VA_a7c0 := (VA_a7.out).cell 0 rfl
         have VA_a7c1 := (VA_a7.out).cell 1 rfl
         have VB_a7 := Lib.hid (Vr.below' VB_a6.out hB)
         have VB_a7c0 := (VB_a7.out).cell 0 rfl
         have VB_a7c1 := (VB_a7.out).cell 1 rfl
         have VC_a7 := Lib.hid (Vr.below' VC_a6.out hB)
         have VC_a7c0 := (VC_a7.out).cell 0 rfl
         have VC_a7c1 := (VC_a7.out).cell 1 rfl
         have VD_a7 := Lib.hid (Vr.below' VD_a6.out hB)
         have VD_a7c0 := (VD_a7.out).cell 0 rfl
         have VD_a7c1 := (VD_a7.out).cell 1 rfl
         have VR_a7 := Lib.hid (Vr.below' VR_a6.out hB)
         have VR_a7c0 := (VR_a7.out).cell 0 rfl
         have VR_a7c1 := (VR_a7.out).cell 1 rfl
         have VR_a7c2 := (VR_a7.out).cell 2 rfl
         have VR_a7f0 := (VR_a7.out).thaw 0
         have VR_a7f1 := (VR_a7.out).thaw 1
         have VR_a7f2 := (VR_a7.out).thaw 2
         have B_a7 := Lib.hid (below_on B_a6.out hB)
         have S_a7 := Lib.hid hr1
         have R_a7 := Lib.hid hr2
         clear hB hr1 hr2))
  | fail
  have hqm : qv b5 z5 m6 = qv p xs ys * qv q us vs := by
    have h1 := qd_pos HY.out.2
    have h2 := qd_pos HW.out.2
    have e1 : zv b5 z5 = qn p xs ys * qn q us vs := by rw [HB5.out, HZ5.out, zv_norm, HQ1.out, HQ3.out]
    rw [qv_parts HY.out.2, qv_parts HW.out.2, Rat.mkRat_mul_mkRat]
    unfold qv
    rw [e1, HVM.out]
    congr 1
    have h3 := Int.mul_nonneg (Int.le_of_lt h1) (Int.le_of_lt h2)
    have h4 : (((qd ys).toNat * (qd vs).toNat : Nat) : Int) = qd ys * qd vs := by rw [Int.natCast_mul, Int.toNat_of_nonneg (by omega), Int.toNat_of_nonneg (by omega)]
    omega
  have HQM := Lib.hid hqm
  clear hqm
  go_wp2_with fail
  have S_y1 := (S_a7.out).apart (VR_a7.out) (nd_rat _ _ _ _ _ _ _) 0 (.bool b7)
  have R_y1 := (R_a7.out).apart (VR_a7.out) (nd_rat _ _ _ _ _ _ _) 0 (.bool b7)
  have VR_y1 := (VR_a7.out).set 0 (.bool b7)
  have S_y2 := (S_y1).apart (VR_y1) (nd_rat _ _ _ _ _ _ _) 1 (.slice A7 x7.length c7)
  have R_y2 := (R_y1).apart (VR_y1) (nd_rat _ _ _ _ _ _ _) 1 (.slice A7 x7.length c7)
  have VR_y2 := (VR_y1).set 1 (.slice A7 x7.length c7)
  have S_y3 := (S_y2).apart (VR_y2) (nd_rat _ _ _ _ _ _ _) 2 (.slice B7 y7.length d7)
  have R_y3 := (R_y2).apart (VR_y2) (nd_rat _ _ _ _ _ _ _) 2 (.slice B7 y7.length d7)
  have VR_y3 := (VR_y2).set 2 (.slice B7 y7.length d7)
  have VR_yy : Vr (((a7.setCell ⟨gW2, 0, none⟩ (.bool b7)).setCell ⟨gW2, 1, none⟩ (.slice A7 x7.length c7)).setCell ⟨gW2, 2, none⟩ (.slice B7 y7.length d7)) gW2 28 #[.bool b7, .slice A7 x7.length c7, .slice B7 y7.length d7] := VR_y3
  refine bodyPost_ret (v := .agg #[.bool b7, .slice A7 x7.length c7, .slice B7 y7.length d7]) (by simp [results, Tryz.results30, go_sem, VR_yy.cell 0 rfl, VR_yy.cell 1 rfl, VR_yy.cell 2 rfl]) rfl ?_
  exact ⟨b7, A7, c7, x7, B7, d7, y7, rfl, by rw [← HQM.out]; exact HR1, by rw [← HQM.out]; exact HR2, by rw [← HQM.out]; exact HR3, S_y3, R_y3, (below_set (below_set (below_set B_a7.out hgeW2 _) hgeW2 _) hgeW2 _)⟩
theorem zadd_max {b b' : Bool} {x y : List Int} (hx : Lim x) (hy : Lim y) : (limbs (zv b x + zv b' y).natAbs).length ≤ max x.length y.length + 1 := by
  refine limbs_len ?_
  have h1 := zv_abs b hx
  have h2 := zv_abs b' hy
  have h3 := V_lt hx
  have h4 := V_lt hy
  have h5 := V_nonneg hx
  have h6 := V_nonneg hy
  have h7 := pw_le (Nat.le_max_left x.length y.length)
  have h8 := pw_le (Nat.le_max_right x.length y.length)
  rw [pw_succ]
  omega
theorem zadd_len {b b' : Bool} {x y : List Int} (hx : Lim x) (hy : Lim y) : (limbs (zv b x + zv b' y).natAbs).length ≤ x.length + y.length + 1 := by
  refine Nat.le_trans (nat_le_len (b := (V x).toNat + (V y).toNat) ?_) (add_len hx hy)
  have h1 := zv_abs b hx
  have h2 := zv_abs b' hy
  omega
set_option maxHeartbeats 3200000 in
theorem qaddF_ok (w : World) (p q : Bool) (P P2 Q Q2 : Option Addr) (cp cp2 cq cq2 : Nat) (xs ys us vs : List Int) (hx : RN w P cp xs) (hy : RN w P2 cp2 ys) (hu : RN w Q cq us) (hw : RN w Q2 cq2 vs) (hb1 : xs.length + vs.length + 4 ≤ 35184372088800) (hb2 : us.length + ys.length + 4 ≤ 35184372088800) (hb3 : ys.length + vs.length + 2 ≤ 35184372088800) :
    Calls Tryz.prog 24 #[.agg #[.bool p, .slice P xs.length cp, .slice P2 ys.length cp2], .agg #[.bool q, .slice Q us.length cq, .slice Q2 vs.length cq2]] w (RetQ (qv p xs ys + qv q us vs) w) := by
  have HX := Lib.hid hx
  have HY := Lib.hid hy
  have HU := Lib.hid hu
  have HW := Lib.hid hw
  clear hx hy hu hw
  go_enter Tryz.func24, Tryz.ntmps24
  go_upto_region 1 with fail
  obtain ⟨W, hW⟩ : ∃ W, W = (((w.alloc (.cells #[.bool p, .slice P xs.length cp, .slice P2 ys.length cp2] 28)).alloc (.cells #[.bool q, .slice Q us.length cq, .slice Q2 vs.length cq2] 28)).alloc (.cells #[.bool false, .slice none 0 0, .slice none 0 0] 28)) := ⟨_, rfl⟩
  rw [← hW]
  have hBW : Below w.heap.size w W := by rw [hW]; exact ((((Below.refl _ _).alloc (Nat.le_refl _) _).alloc (by simp only [size_alloc]; omega) _).alloc (by simp only [size_alloc]; omega) _)
  have vW0 : Vr W (w.heap.size) 28 #[.bool p, .slice P xs.length cp, .slice P2 ys.length cp2] := by rw [hW]; exact (((Vr.new' _ _ _ (by simp only [size_alloc])).alloc _).alloc _)
  have vW1 : Vr W (w.heap.size + 1) 28 #[.bool q, .slice Q us.length cq, .slice Q2 vs.length cq2] := by rw [hW]; exact ((Vr.new' _ _ _ (by simp only [size_alloc])).alloc _)
  have vW2 : Vr W (w.heap.size + 1 + 1) 28 #[.bool false, .slice none 0 0, .slice none 0 0] := by rw [hW]; exact (Vr.new' _ _ _ (by simp only [size_alloc]))
  clear hW
  obtain ⟨gW2, hgW2⟩ : ∃ g, w.heap.size + 1 + 1 = g := ⟨_, rfl⟩
  rw [hgW2] at vW2 ⊢
  obtain ⟨gW1, hgW1⟩ : ∃ g, w.heap.size + 1 = g := ⟨_, rfl⟩
  rw [hgW1] at vW1 ⊢
  have hneW01 : w.heap.size ≠ gW1 := by omega
  have hneW02 : w.heap.size ≠ gW2 := by omega
  have hgeW1 : w.heap.size ≤ gW1 := by omega
  have hneW10 : gW1 ≠ w.heap.size := by omega
  have hneW12 : gW1 ≠ gW2 := by omega
  have hgeW2 : w.heap.size ≤ gW2 := by omega
  have hneW20 : gW2 ≠ w.heap.size := by omega
  have hneW21 : gW2 ≠ gW1 := by omega
  have HVW0 := Lib.hid vW0
  have HVW1 := Lib.hid vW1
  have HVW2 := Lib.hid vW2
  have HBW := Lib.hid hBW
  clear hBW vW0 vW1 vW2 hgW1 hgW2
  have oc0 := (HVW0.out).cell 0 rfl
  have oc1 := (HVW0.out).cell 1 rfl
  have oc2 := (HVW0.out).cell 2 rfl
  have V1_W := HVW1
  have VR_W := HVW2
  have B_W := HBW
  go_wp2_with fail
  refine (parts_ok W p P P2 cp cp2 xs ys (HX.out.below B_W.out) (HY.out.below B_W.out) (by omega)).mono ?_
  rintro e_ w1 ⟨b1, A1, c1, x, b2, A2, c2, y, rfl, HQ1, HQ2, HL1, HL2, hx1, hy1, hB⟩
  have V1_w1 := Lib.hid (Vr.below' V1_W.out hB)
  have VR_w1 := Lib.hid (Vr.below' VR_W.out hB)
  have B_w1 := Lib.hid (below_on B_W.out hB)
  have X_w1 := Lib.hid hx1
  have Y_w1 := Lib.hid hy1
  clear hB hx1 hy1
  go_upto_region 2 with fail
  obtain ⟨T, hT⟩ : ∃ T, T = ((w1.alloc (.cells #[.bool b1, .slice A1 x.length c1] 26)).alloc (.cells #[.bool b2, .slice A2 y.length c2] 26)) := ⟨_, rfl⟩
  rw [← hT]
  have hBT : Below w1.heap.size w1 T := by rw [hT]; exact (((Below.refl _ _).alloc (Nat.le_refl _) _).alloc (by simp only [size_alloc]; omega) _)
  have vT0 : Vr T (w1.heap.size) 26 #[.bool b1, .slice A1 x.length c1] := by rw [hT]; exact ((Vr.new' _ _ _ (by simp only [size_alloc])).alloc _)
  have vT1 : Vr T (w1.heap.size + 1) 26 #[.bool b2, .slice A2 y.length c2] := by rw [hT]; exact (Vr.new' _ _ _ (by simp only [size_alloc]))
  clear hT
  obtain ⟨gT1, hgT1⟩ : ∃ g, w1.heap.size + 1 = g := ⟨_, rfl⟩
  rw [hgT1] at vT1 ⊢
  have hneT01 : w1.heap.size ≠ gT1 := by omega
  have hgeT1 : w1.heap.size ≤ gT1 := by omega
  have hneT10 : gT1 ≠ w1.heap.size := by omega
  have HVT0 := Lib.hid vT0
  have HVT1 := Lib.hid vT1
  have HBT := Lib.hid hBT
  clear hBT vT0 vT1 hgT1
  have hB := HBT.out
  have V1_T := Lib.hid (Vr.below' V1_w1.out hB)
  have V1_Tc0 := (V1_T.out).cell 0 rfl
  have V1_Tc1 := (V1_T.out).cell 1 rfl
  have V1_Tc2 := (V1_T.out).cell 2 rfl
  have VR_T := Lib.hid (Vr.below' VR_w1.out hB)
  have X_T := Lib.hid (RN.below X_w1.out hB)
  have Y_T := Lib.hid (RN.below Y_w1.out hB)
  have B_T := Lib.hid (below_on B_w1.out hB)
  have VA_T := HVT0
  have VB_T := HVT1
  clear hB
  go_wp2_with fail
  refine (parts_ok T q Q Q2 cq cq2 us vs (HU.out.below B_T.out) (HW.out.below B_T.out) (by omega)).mono ?_
  rintro e_ w2 ⟨b3, A3, c3, u, b4, A4, c4, v, rfl, HQ3, HQ4, HL3, HL4, hx1, hy1, hB⟩
  have VA_w2 := Lib.hid (Vr.below' VA_T.out hB)
  have VB_w2 := Lib.hid (Vr.below' VB_T.out hB)
  have VR_w2 := Lib.hid (Vr.below' VR_T.out hB)
  have X_w2 := Lib.hid (RN.below X_T.out hB)
  have Y_w2 := Lib.hid (RN.below Y_T.out hB)
  have B_w2 := Lib.hid (below_on B_T.out hB)
  have U_w2 := Lib.hid hx1
  have K_w2 := Lib.hid hy1
  clear hB hx1 hy1
  go_upto_region 3 with fail
  obtain ⟨Z, hZ⟩ : ∃ Z, Z = ((w2.alloc (.cells #[.bool b3, .slice A3 u.length c3] 26)).alloc (.cells #[.bool b4, .slice A4 v.length c4] 26)) := ⟨_, rfl⟩
  rw [← hZ]
  have hBZ : Below w2.heap.size w2 Z := by rw [hZ]; exact (((Below.refl _ _).alloc (Nat.le_refl _) _).alloc (by simp only [size_alloc]; omega) _)
  have vZ0 : Vr Z (w2.heap.size) 26 #[.bool b3, .slice A3 u.length c3] := by rw [hZ]; exact ((Vr.new' _ _ _ (by simp only [size_alloc])).alloc _)
  have vZ1 : Vr Z (w2.heap.size + 1) 26 #[.bool b4, .slice A4 v.length c4] := by rw [hZ]; exact (Vr.new' _ _ _ (by simp only [size_alloc]))
  clear hZ
  obtain ⟨gZ1, hgZ1⟩ : ∃ g, w2.heap.size + 1 = g := ⟨_, rfl⟩
  rw [hgZ1] at vZ1 ⊢
  have hneZ01 : w2.heap.size ≠ gZ1 := by omega
  have hgeZ1 : w2.heap.size ≤ gZ1 := by omega
  have hneZ10 : gZ1 ≠ w2.heap.size := by omega
  have HVZ0 := Lib.hid vZ0
  have HVZ1 := Lib.hid vZ1
  have HBZ := Lib.hid hBZ
  clear hBZ vZ0 vZ1 hgZ1
  have hB := HBZ.out
  have VA_Z := Lib.hid (Vr.below' VA_w2.out hB)
  have VB_Z := Lib.hid (Vr.below' VB_w2.out hB)
  have VR_Z := Lib.hid (Vr.below' VR_w2.out hB)
  have X_Z := Lib.hid (RN.below X_w2.out hB)
  have Y_Z := Lib.hid (RN.below Y_w2.out hB)
  have U_Z := Lib.hid (RN.below U_w2.out hB)
  have K_Z := Lib.hid (RN.below K_w2.out hB)
  have B_Z := Lib.hid (below_on B_w2.out hB)
  have VC_Z := HVZ0
  have VD_Z := HVZ1
  clear hB
  have HDY := Lib.hid (den_pos HY.out.2 HQ2.out Y_Z.out.2)
  have HDV := Lib.hid (den_pos HW.out.2 HQ4.out K_Z.out.2)
  have nb1 : gW2 ≠ w1.heap.size := Nat.ne_of_lt VR_w1.out.lt
  have nb2 : gW2 ≠ gT1 := by have := VR_w1.out.lt; omega
  have nb3 : gW2 ≠ w2.heap.size := Nat.ne_of_lt VR_w2.out.lt
  have nb4 : gW2 ≠ gZ1 := by have := VR_w2.out.lt; omega
  have VA_Zc0 := (VA_Z.out).cell 0 rfl
  have VA_Zc1 := (VA_Z.out).cell 1 rfl
  have VB_Zc0 := (VB_Z.out).cell 0 rfl
  have VB_Zc1 := (VB_Z.out).cell 1 rfl
  have VC_Zc0 := (VC_Z.out).cell 0 rfl
  have VC_Zc1 := (VC_Z.out).cell 1 rfl
  have VD_Zc0 := (VD_Z.out).cell 0 rfl
  have VD_Zc1 := (VD_Z.out).cell 1 rfl
  have VA_Zd := Lib.hid VA_Z.out.drew
  have VB_Zd := Lib.hid VB_Z.out.drew
  have VC_Zd := Lib.hid VC_Z.out.drew
  have VD_Zd := Lib.hid VD_Z.out.drew
  have VR_Zd := Lib.hid VR_Z.out.drew
  have X_Zd := Lib.hid (X_Z.out.below (Below.refl _ _).drew)
  have Y_Zd := Lib.hid (Y_Z.out.below (Below.refl _ _).drew)
  have U_Zd := Lib.hid (U_Z.out.below (Below.refl _ _).drew)
  have K_Zd := Lib.hid (K_Z.out.below (Below.refl _ _).drew)
  have B_Zd := Lib.hid B_Z.out.drew
  first
  | go_region_held3 (fun w' => w'.cell? ⟨w1.heap.size, 0, none⟩ = some (.bool b1) ∧ w'.cell? ⟨w1.heap.size, 1, none⟩ = some (.slice A1 x.length c1) ∧ w'.cell? ⟨gT1, 0, none⟩ = some (.bool b2) ∧ w'.cell? ⟨gT1, 1, none⟩ = some (.slice A2 y.length c2) ∧ w'.cell? ⟨w2.heap.size, 0, none⟩ = some (.bool b3) ∧ w'.cell? ⟨w2.heap.size, 1, none⟩ = some (.slice A3 u.length c3) ∧ w'.cell? ⟨gZ1, 0, none⟩ = some (.bool b4) ∧ w'.cell? ⟨gZ1, 1, none⟩ = some (.slice A4 v.length c4)) (go_keep)
     (first
      | (go_at_call_of 53 A1
         refine (imul_ok Z.drew b1 b4 A1 A4 c1 c4 x v X_Zd.out K_Zd.out (by have := HL1.out; have := HL2.out; have := HL3.out; have := HL4.out; omega)).mono ?_
         rintro e_ a5 ⟨b5, A5, c5, z5, rfl, HB5, HZ5, hz5, hB⟩
         have VA_a5 := Lib.hid (Vr.below' VA_Zd.out hB)
         have VA_a5c0 := (VA_a5.out).cell 0 rfl
         have VA_a5c1 := (VA_a5.out).cell 1 rfl
         have VB_a5 := Lib.hid (Vr.below' VB_Zd.out hB)
         have VB_a5c0 := (VB_a5.out).cell 0 rfl
         have VB_a5c1 := (VB_a5.out).cell 1 rfl
         have VC_a5 := Lib.hid (Vr.below' VC_Zd.out hB)
         have VC_a5c0 := (VC_a5.out).cell 0 rfl
         have VC_a5c1 := (VC_a5.out).cell 1 rfl
         have VD_a5 := Lib.hid (Vr.below' VD_Zd.out hB)
         have VD_a5c0 := (VD_a5.out).cell 0 rfl
         have VD_a5c1 := (VD_a5.out).cell 1 rfl
         have VR_a5 := Lib.hid (Vr.below' VR_Zd.out hB)
         have VR_a5c0 := (VR_a5.out).cell 0 rfl
         have VR_a5c1 := (VR_a5.out).cell 1 rfl
         have VR_a5c2 := (VR_a5.out).cell 2 rfl
         have VR_a5f0 := (VR_a5.out).thaw 0
         have VR_a5f1 := (VR_a5.out).thaw 1
         have VR_a5f2 := (VR_a5.out).thaw 2
         have X_a5 := Lib.hid (RN.below X_Zd.out hB)
         have Y_a5 := Lib.hid (RN.below Y_Zd.out hB)
         have U_a5 := Lib.hid (RN.below U_Zd.out hB)
         have K_a5 := Lib.hid (RN.below K_Zd.out hB)
         have B_a5 := Lib.hid (below_on B_Zd.out hB)
         have N_a5 := Lib.hid hz5
         have HLZ : Hid (z5.length ≤ xs.length + vs.length + 1) := by show _ ≤ _; rw [HZ5.out]; exact Nat.le_trans (zmul_len X_Zd.out.2 K_Zd.out.2) (by have := HL1.out; have := HL2.out; have := HL3.out; have := HL4.out; omega)
         clear hB hz5)
      | (go_at_call_of 53 A3
         refine (imul_ok a5 b3 b2 A3 A2 c3 c2 u y U_a5.out Y_a5.out (by have := HL1.out; have := HL2.out; have := HL3.out; have := HL4.out; omega)).mono ?_
         rintro e_ a8 ⟨b8, A8, c8, z8, rfl, HB8, HZ8, hz8, hB⟩
         have VA_a8 := Lib.hid (Vr.below' VA_a5.out hB)
         have VA_a8c0 := (VA_a8.out).cell 0 rfl
         have VA_a8c1 := (VA_a8.out).cell 1 rfl
         have VB_a8 := Lib.hid (Vr.below' VB_a5.out hB)
         have VB_a8c0 := (VB_a8.out).cell 0 rfl
         have VB_a8c1 := (VB_a8.out).cell 1 rfl
         have VC_a8 := Lib.hid (Vr.below' VC_a5.out hB)
         have VC_a8c0 := (VC_a8.out).cell 0 rfl
         have VC_a8c1 := (VC_a8.out).cell 1 rfl
         have VD_a8 := Lib.hid (Vr.below' VD_a5.out hB)
         have VD_a8c0 := (VD_a8.out).cell 0 rfl
         have VD_a8c1 := (VD_a8.out).cell 1 rfl
         have VR_a8 := Lib.hid (Vr.below' VR_a5.out hB)
         have VR_a8c0 := (VR_a8.out).cell 0 rfl
         have VR_a8c1 := (VR_a8.out).cell 1 rfl
         have VR_a8c2 := (VR_a8.out).cell 2 rfl
         have VR_a8f0 := (VR_a8.out).thaw 0
         have VR_a8f1 := (VR_a8.out).thaw 1
         have VR_a8f2 := (VR_a8.out).thaw 2
         have X_a8 := Lib.hid (RN.below X_a5.out hB)
         have Y_a8 := Lib.hid (RN.below Y_a5.out hB)
         have U_a8 := Lib.hid (RN.below U_a5.out hB)
         have K_a8 := Lib.hid (RN.below K_a5.out hB)
         have N_a8 := Lib.hid (RN.below N_a5.out hB)
         have B_a8 := Lib.hid (below_on B_a5.out hB)
         have O_a8 := Lib.hid hz8
         have HLW : Hid (z8.length ≤ us.length + ys.length + 1) := by show _ ≤ _; rw [HZ8.out]; exact Nat.le_trans (zmul_len U_a5.out.2 Y_a5.out.2) (by have := HL1.out; have := HL2.out; have := HL3.out; have := HL4.out; omega)
         clear hB hz8)
      | (go_at_call 52
         refine (iadd_ok a8 b5 b8 A5 A8 c5 c8 z5 z8 N_a8.out O_a8.out (by have := HLZ.out; omega) (by have := HLW.out; omega)).mono ?_
         rintro e_ a9 ⟨b9, A9, c9, z9, rfl, HB9, HZ9, hz9, hB⟩
         have VA_a9 := Lib.hid (Vr.below' VA_a8.out hB)
         have VA_a9c0 := (VA_a9.out).cell 0 rfl
         have VA_a9c1 := (VA_a9.out).cell 1 rfl
         have VB_a9 := Lib.hid (Vr.below' VB_a8.out hB)
         have VB_a9c0 := (VB_a9.out).cell 0 rfl
         have VB_a9c1 := (VB_a9.out).cell 1 rfl
         have VC_a9 := Lib.hid (Vr.below' VC_a8.out hB)
         have VC_a9c0 := (VC_a9.out).cell 0 rfl
         have VC_a9c1 := (VC_a9.out).cell 1 rfl
         have VD_a9 := Lib.hid (Vr.below' VD_a8.out hB)
         have VD_a9c0 := (VD_a9.out).cell 0 rfl
         have VD_a9c1 := (VD_a9.out).cell 1 rfl
         have VR_a9 := Lib.hid (Vr.below' VR_a8.out hB)
         have VR_a9c0 := (VR_a9.out).cell 0 rfl
         have VR_a9c1 := (VR_a9.out).cell 1 rfl
         have VR_a9c2 := (VR_a9.out).cell 2 rfl
         have VR_a9f0 := (VR_a9.out).thaw 0
         have VR_a9f1 := (VR_a9.out).thaw 1
         have VR_a9f2 := (VR_a9.out).thaw 2
         have X_a9 := Lib.hid (RN.below X_a8.out hB)
         have Y_a9 := Lib.hid (RN.below Y_a8.out hB)
         have U_a9 := Lib.hid (RN.below U_a8.out hB)
         have K_a9 := Lib.hid (RN.below K_a8.out hB)
         have N_a9 := Lib.hid (RN.below N_a8.out hB)
         have O_a9 := Lib.hid (RN.below O_a8.out hB)
         have B_a9 := Lib.hid (below_on B_a8.out hB)
         have G_a9 := Lib.hid hz9
         have HLS : Hid (z9.length ≤ 35184372088799) := by show _ ≤ _; rw [HZ9.out]; exact Nat.le_trans (zadd_max N_a8.out.2 O_a8.out.2) (by have := HLZ.out; have := HLW.out; omega)
         clear hB hz9)
      | (go_at_call 54
         refine (mul_ok a9 A2 A4 c2 c4 y v Y_a9.out K_a9.out (by have := HL1.out; have := HL2.out; have := HL3.out; have := HL4.out; omega)).mono ?_
         rintro e_ a6 ⟨A6, c6, m6, rfl, HM6, hm6, hB⟩
         have VA_a6 := Lib.hid (Vr.below' VA_a9.out hB)
         have VA_a6c0 := (VA_a6.out).cell 0 rfl
         have VA_a6c1 := (VA_a6.out).cell 1 rfl
         have VB_a6 := Lib.hid (Vr.below' VB_a9.out hB)
         have VB_a6c0 := (VB_a6.out).cell 0 rfl
         have VB_a6c1 := (VB_a6.out).cell 1 rfl
         have VC_a6 := Lib.hid (Vr.below' VC_a9.out hB)
         have VC_a6c0 := (VC_a6.out).cell 0 rfl
         have VC_a6c1 := (VC_a6.out).cell 1 rfl
         have VD_a6 := Lib.hid (Vr.below' VD_a9.out hB)
         have VD_a6c0 := (VD_a6.out).cell 0 rfl
         have VD_a6c1 := (VD_a6.out).cell 1 rfl
         have VR_a6 := Lib.hid (Vr.below' VR_a9.out hB)
         have VR_a6c0 := (VR_a6.out).cell 0 rfl
         have VR_a6c1 := (VR_a6.out).cell 1 rfl
         have VR_a6c2 := (VR_a6.out).cell 2 rfl
         have VR_a6f0 := (VR_a6.out).thaw 0
         have VR_a6f1 := (VR_a6.out).thaw 1
         have VR_a6f2 := (VR_a6.out).thaw 2
         have X_a6 := Lib.hid (RN.below X_a9.out hB)
         have Y_a6 := Lib.hid (RN.below Y_a9.out hB)
         have U_a6 := Lib.hid (RN.below U_a9.out hB)
         have K_a6 := Lib.hid (RN.below K_a9.out hB)
         have N_a6 := Lib.hid (RN.below N_a9.out hB)
         have O_a6 := Lib.hid (RN.below O_a9.out hB)
         have G_a6 := Lib.hid (RN.below G_a9.out hB)
         have B_a6 := Lib.hid (below_on B_a9.out hB)
         have M_a6 := Lib.hid hm6
         have HVM : Hid (V m6 = qd ys * qd vs) := by show _ = _; have h1 := qd_pos HY.out.2; have h2 := qd_pos HW.out.2; rw [HM6.out, V_limbs, HDY.out, HDV.out, Int.natCast_mul, Int.toNat_of_nonneg (by omega), Int.toNat_of_nonneg (by omega)]
         have HLM : Hid (m6.length ≤ ys.length + vs.length + 2) := by show _ ≤ _; rw [HM6.out]; exact Nat.le_trans (mul_len Y_a9.out.2 K_a9.out.2) (by have := HL1.out; have := HL2.out; have := HL3.out; have := HL4.out; omega)
         clear hB hm6)
      | (go_at_call 51
         refine (lowest_ok a6 b9 A9 A6 c9 c6 z9 m6 G_a6.out M_a6.out (by have := HLS.out; omega) (by have := HLM.out; omega)).mono ?_
         rintro e_ a7 ⟨b7, A7, c7, x7, B7, d7, y7, rfl, HR1, HR2, HR3, hr1, hr2, hB⟩
         have VA_a7 := Lib.hid (Vr.below' VA_a6.out hB)
         have VA_a7c0 := (VA_a7.out).cell 0 rfl
         have VA_a7c1 := (VA_a7.out).cell 1 rfl
         have VB_a7 := Lib.hid (Vr.below' VB_a6.out hB)
         have VB_a7c0 := (VB_a7.out).cell 0 rfl
         have VB_a7c1 := (VB_a7.out).cell 1 rfl
         have VC_a7 := Lib.hid (Vr.below' VC_a6.out hB)
         have VC_a7c0 := (VC_a7.out).cell 0 rfl
         have VC_a7c1 := (VC_a7.out).cell 1 rfl
         have VD_a7 := Lib.hid (Vr.below' VD_a6.out hB)
         have VD_a7c0 := (VD_a7.out).cell 0 rfl
         have VD_a7c1 := (VD_a7.out).cell 1 rfl
         have VR_a7 := Lib.hid (Vr.below' VR_a6.out hB)
         have VR_a7c0 := (VR_a7.out).cell 0 rfl
         have VR_a7c1 := (VR_a7.out).cell 1 rfl
         have VR_a7c2 := (VR_a7.out).cell 2 rfl
         have VR_a7f0 := (VR_a7.out).thaw 0
         have VR_a7f1 := (VR_a7.out).thaw 1
         have VR_a7f2 := (VR_a7.out).thaw 2
         have B_a7 := Lib.hid (below_on B_a6.out hB)
         have S_a7 := Lib.hid hr1
         have R_a7 := Lib.hid hr2
         clear hB hr1 hr2))
  | fail
  have hqm : qv b9 z9 m6 = qv p xs ys + qv q us vs := by
    have h1 := qd_pos HY.out.2
    have h2 := qd_pos HW.out.2
    have e1 : zv b9 z9 = qn p xs ys * qd vs + qn q us vs * qd ys := by
      rw [HB9.out, HZ9.out, zv_norm, HB5.out, HZ5.out, zv_norm, HB8.out, HZ8.out, zv_norm, HQ1.out, HQ2.out, HQ3.out, HQ4.out]
    rw [qv_parts HY.out.2, qv_parts HW.out.2, Rat.mkRat_add_mkRat _ _ (by omega) (by omega)]
    unfold qv
    rw [e1, HVM.out, Int.toNat_of_nonneg (by omega), Int.toNat_of_nonneg (by omega)]
    congr 1
    have h3 := Int.mul_nonneg (Int.le_of_lt h1) (Int.le_of_lt h2)
    have h4 : (((qd ys).toNat * (qd vs).toNat : Nat) : Int) = qd ys * qd vs := by rw [Int.natCast_mul, Int.toNat_of_nonneg (by omega), Int.toNat_of_nonneg (by omega)]
    omega
  have HQM := Lib.hid hqm
  clear hqm
  go_wp2_with fail
  have S_y1 := (S_a7.out).apart (VR_a7.out) (nd_rat _ _ _ _ _ _ _) 0 (.bool b7)
  have R_y1 := (R_a7.out).apart (VR_a7.out) (nd_rat _ _ _ _ _ _ _) 0 (.bool b7)
  have VR_y1 := (VR_a7.out).set 0 (.bool b7)
  have S_y2 := (S_y1).apart (VR_y1) (nd_rat _ _ _ _ _ _ _) 1 (.slice A7 x7.length c7)
  have R_y2 := (R_y1).apart (VR_y1) (nd_rat _ _ _ _ _ _ _) 1 (.slice A7 x7.length c7)
  have VR_y2 := (VR_y1).set 1 (.slice A7 x7.length c7)
  have S_y3 := (S_y2).apart (VR_y2) (nd_rat _ _ _ _ _ _ _) 2 (.slice B7 y7.length d7)
  have R_y3 := (R_y2).apart (VR_y2) (nd_rat _ _ _ _ _ _ _) 2 (.slice B7 y7.length d7)
  have VR_y3 := (VR_y2).set 2 (.slice B7 y7.length d7)
  have VR_yy : Vr (((a7.setCell ⟨gW2, 0, none⟩ (.bool b7)).setCell ⟨gW2, 1, none⟩ (.slice A7 x7.length c7)).setCell ⟨gW2, 2, none⟩ (.slice B7 y7.length d7)) gW2 28 #[.bool b7, .slice A7 x7.length c7, .slice B7 y7.length d7] := VR_y3
  refine bodyPost_ret (v := .agg #[.bool b7, .slice A7 x7.length c7, .slice B7 y7.length d7]) (by simp [results, Tryz.results24, go_sem, VR_yy.cell 0 rfl, VR_yy.cell 1 rfl, VR_yy.cell 2 rfl]) rfl ?_
  exact ⟨b7, A7, c7, x7, B7, d7, y7, rfl, by rw [← HQM.out]; exact HR1, by rw [← HQM.out]; exact HR2, by rw [← HQM.out]; exact HR3, S_y3, R_y3, (below_set (below_set (below_set B_a7.out hgeW2 _) hgeW2 _) hgeW2 _)⟩
theorem qmul_ok (w : World) (p q : Bool) (P P2 Q Q2 : Option Addr) (cp cp2 cq cq2 : Nat) (xs ys us vs : List Int) (hx : RN w P cp xs) (hy : RN w P2 cp2 ys) (hu : RN w Q cq us) (hw : RN w Q2 cq2 vs) (hsx : xs.length ≤ 1000000000000) (hsy : ys.length ≤ 1000000000000) (hsu : us.length ≤ 1000000000000) (hsw : vs.length ≤ 1000000000000) :
    Calls Tryz.prog 30 #[.agg #[.bool p, .slice P xs.length cp, .slice P2 ys.length cp2], .agg #[.bool q, .slice Q us.length cq, .slice Q2 vs.length cq2]] w (RetQ (qv p xs ys * qv q us vs) w) := qmulF_ok w p q P P2 Q Q2 cp cp2 cq cq2 xs ys us vs hx hy hu hw (by omega) (by omega)
theorem qadd_ok (w : World) (p q : Bool) (P P2 Q Q2 : Option Addr) (cp cp2 cq cq2 : Nat) (xs ys us vs : List Int) (hx : RN w P cp xs) (hy : RN w P2 cp2 ys) (hu : RN w Q cq us) (hw : RN w Q2 cq2 vs) (hsx : xs.length ≤ 1000000000000) (hsy : ys.length ≤ 1000000000000) (hsu : us.length ≤ 1000000000000) (hsw : vs.length ≤ 1000000000000) :
    Calls Tryz.prog 24 #[.agg #[.bool p, .slice P xs.length cp, .slice P2 ys.length cp2], .agg #[.bool q, .slice Q us.length cq, .slice Q2 vs.length cq2]] w (RetQ (qv p xs ys + qv q us vs) w) := qaddF_ok w p q P P2 Q Q2 cp cp2 cq cq2 xs ys us vs hx hy hu hw (by omega) (by omega) (by omega)

end Go.Proofs.YtocpncjmcaecoaaGreat.M
