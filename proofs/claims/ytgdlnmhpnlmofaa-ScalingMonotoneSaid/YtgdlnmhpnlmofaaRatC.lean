/- Rational numbers of the program: sign and comparison. -/
import Derived.Test.YtgdlnmhpnlmofaaRatB
namespace Go.Proofs.Ytgdlnmhpnlmofaa.M
set_option maxRecDepth 10000
open Go.RowKit
set_option linter.unusedVariables false
set_option linter.unusedSimpArgs false
theorem zmul_len {b b' : Bool} {x y : List Int} (hx : Lim x) (hy : Lim y) : (limbs (zv b x * zv b' y).natAbs).length ≤ x.length + y.length := by
  rw [Int.natAbs_mul, zv_abs b hx, zv_abs b' hy]
  exact mul_len hx hy

set_option maxHeartbeats 800000 in
theorem qsign_ok (w : World) (b : Bool) (A B : Option Addr) (c d : Nat) (xs ys : List Int) (hx : RN w A c xs) (hy : RN w B d ys) (hsx : xs.length ≤ 35184372088800) (hsy : ys.length ≤ 35184372088800) :
    Calls Try.prog 34 #[.agg #[.bool b, .slice A xs.length c, .slice B ys.length d]] w (fun e w' => e = .returned (.int .i64 (cmpI (qn b xs ys) 0)) ∧ Below w.heap.size w w') := by
  have HX := Lib.hid hx
  have HY := Lib.hid hy
  clear hx hy
  go_enter Try.func34, Try.ntmps34
  go_wp2_with fail
  obtain ⟨W, hW⟩ : ∃ W, W = (w.alloc (.cells #[.bool b, .slice A xs.length c, .slice B ys.length d] 33)) := ⟨_, rfl⟩
  rw [← hW]
  have hBW : Below w.heap.size w W := by rw [hW]; exact ((Below.refl _ _).alloc (Nat.le_refl _) _)
  have vW0 : Vr W (w.heap.size) 33 #[.bool b, .slice A xs.length c, .slice B ys.length d] := by rw [hW]; exact (Vr.new' _ _ _ (by simp only [size_alloc]))
  clear hW
  have HVW0 := Lib.hid vW0
  have HBW := Lib.hid hBW
  clear hBW vW0
  refine (parts_ok W b A B c d xs ys (HX.out.below HBW.out) (HY.out.below HBW.out) hsy).mono ?_
  rintro e w1 ⟨b1, A1, c1, x, b2, A2, c2, y, rfl, HQ1, HQ2, HL1, HL2, hx1, hy1, hB1⟩
  have HBd := Lib.hid (HBW.out.trans (hB1.mono HBW.out.size))
  have RX := Lib.hid hx1
  clear hB1 hx1 hy1
  go_upto_region 2 with fail
  obtain ⟨T, hT⟩ : ∃ T, T = ((w1.alloc (.cells #[.bool b1, .slice A1 x.length c1] 31)).alloc (.cells #[.bool b2, .slice A2 y.length c2] 31)) := ⟨_, rfl⟩
  rw [← hT]
  have hBT : Below w1.heap.size w1 T := by rw [hT]; exact (((Below.refl _ _).alloc (Nat.le_refl _) _).alloc (by simp only [size_alloc]; omega) _)
  have vT0 : Vr T (w1.heap.size) 31 #[.bool b1, .slice A1 x.length c1] := by rw [hT]; exact ((Vr.new' _ _ _ (by simp only [size_alloc])).alloc _)
  have vT1 : Vr T (w1.heap.size + 1) 31 #[.bool b2, .slice A2 y.length c2] := by rw [hT]; exact (Vr.new' _ _ _ (by simp only [size_alloc]))
  clear hT
  obtain ⟨gT1, hgT1⟩ : ∃ g, w1.heap.size + 1 = g := ⟨_, rfl⟩
  rw [hgT1] at vT1 ⊢
  have hneT01 : w1.heap.size ≠ gT1 := by omega
  have hgeT1 : w1.heap.size ≤ gT1 := by omega
  have hneT10 : gT1 ≠ w1.heap.size := by omega
  have HVT0 := Lib.hid vT0
  have HVT1 := Lib.hid vT1
  have HBT := Lib.hid hBT
  clear hBT vT0 vT1 hgT1
  have tc0 := (HVT0.out).cell 0 rfl
  have tc1 := (HVT0.out).cell 1 rfl
  have HBt := Lib.hid (HBd.out.trans (HBT.out.mono HBd.out.size))
  have RX2 := Lib.hid (RX.out.below HBT.out)
  go_wp2_with fail
  refine (sign_ok T b1 A1 c1 x RX2.out (by have := HL1.out; omega)).mono ?_
  rintro e w2 ⟨rfl, hB2⟩
  have HBe := Lib.hid (HBt.out.trans (hB2.mono HBt.out.size))
  clear hB2
  go_wp2_with fail
  go_ret
  exact ⟨by rw [← HQ1.out]; rfl, HBe.out⟩

set_option maxHeartbeats 1600000 in
theorem qcmp_ok (w : World) (p q : Bool) (P P2 Q Q2 : Option Addr) (cp cp2 cq cq2 : Nat) (xs ys us vs : List Int) (hx : RN w P cp xs) (hy : RN w P2 cp2 ys) (hu : RN w Q cq us) (hw : RN w Q2 cq2 vs) (hsx : xs.length ≤ 35184372088800) (hsy : ys.length ≤ 35184372088800) (hsu : us.length ≤ 35184372088800) (hsw : vs.length ≤ 35184372088800) :
    Calls Try.prog 21 #[.agg #[.bool p, .slice P xs.length cp, .slice P2 ys.length cp2], .agg #[.bool q, .slice Q us.length cq, .slice Q2 vs.length cq2]] w (fun e w' => e = .returned (.int .i64 (cmpI (qn p xs ys * qd vs) (qn q us vs * qd ys))) ∧ Below w.heap.size w w') := by
  have HX := Lib.hid hx
  have HY := Lib.hid hy
  have HU := Lib.hid hu
  have HW := Lib.hid hw
  clear hx hy hu hw
  go_enter Try.func21, Try.ntmps21
  go_wp2_with fail
  obtain ⟨W, hW⟩ : ∃ W, W = ((w.alloc (.cells #[.bool p, .slice P xs.length cp, .slice P2 ys.length cp2] 33)).alloc (.cells #[.bool q, .slice Q us.length cq, .slice Q2 vs.length cq2] 33)) := ⟨_, rfl⟩
  rw [← hW]
  have hBW : Below w.heap.size w W := by rw [hW]; exact (((Below.refl _ _).alloc (Nat.le_refl _) _).alloc (by simp only [size_alloc]; omega) _)
  have vW0 : Vr W (w.heap.size) 33 #[.bool p, .slice P xs.length cp, .slice P2 ys.length cp2] := by rw [hW]; exact ((Vr.new' _ _ _ (by simp only [size_alloc])).alloc _)
  have vW1 : Vr W (w.heap.size + 1) 33 #[.bool q, .slice Q us.length cq, .slice Q2 vs.length cq2] := by rw [hW]; exact (Vr.new' _ _ _ (by simp only [size_alloc]))
  clear hW
  obtain ⟨gW1, hgW1⟩ : ∃ g, w.heap.size + 1 = g := ⟨_, rfl⟩
  rw [hgW1] at vW1 ⊢
  have hneW01 : w.heap.size ≠ gW1 := by omega
  have hgeW1 : w.heap.size ≤ gW1 := by omega
  have hneW10 : gW1 ≠ w.heap.size := by omega
  have HVW0 := Lib.hid vW0
  have HVW1 := Lib.hid vW1
  have HBW := Lib.hid hBW
  clear hBW vW0 vW1 hgW1
  have oc0 := (HVW0.out).cell 0 rfl
  have oc1 := (HVW0.out).cell 1 rfl
  have oc2 := (HVW0.out).cell 2 rfl
  have pc0 := (HVW1.out).cell 0 rfl
  have pc1 := (HVW1.out).cell 1 rfl
  have pc2 := (HVW1.out).cell 2 rfl
  go_upto_region 1 with fail
  go_wp2_with fail
  refine (parts_ok W p P P2 cp cp2 xs ys (HX.out.below HBW.out) (HY.out.below HBW.out) hsy).mono ?_
  rintro e w1 ⟨b1, A1, c1, x, b2, A2, c2, y, rfl, HQ1, HQ2, HL1, HL2, hx1, hy1, hB1⟩
  have HB1 := Lib.hid (HBW.out.trans (hB1.mono HBW.out.size))
  have HV1 := Lib.hid (HVW1.out.below' hB1)
  have RX := Lib.hid hx1
  have RY := Lib.hid hy1
  clear hB1 hx1 hy1 oc0 oc1 oc2 pc0 pc1 pc2
  go_upto_region 2 with fail
  obtain ⟨T, hT⟩ : ∃ T, T = ((w1.alloc (.cells #[.bool b1, .slice A1 x.length c1] 31)).alloc (.cells #[.bool b2, .slice A2 y.length c2] 31)) := ⟨_, rfl⟩
  rw [← hT]
  have hBT : Below w1.heap.size w1 T := by rw [hT]; exact (((Below.refl _ _).alloc (Nat.le_refl _) _).alloc (by simp only [size_alloc]; omega) _)
  have vT0 : Vr T (w1.heap.size) 31 #[.bool b1, .slice A1 x.length c1] := by rw [hT]; exact ((Vr.new' _ _ _ (by simp only [size_alloc])).alloc _)
  have vT1 : Vr T (w1.heap.size + 1) 31 #[.bool b2, .slice A2 y.length c2] := by rw [hT]; exact (Vr.new' _ _ _ (by simp only [size_alloc]))
  clear hT
  obtain ⟨gT1, hgT1⟩ : ∃ g, w1.heap.size + 1 = g := ⟨_, rfl⟩
  rw [hgT1] at vT1 ⊢
  have hneT01 : w1.heap.size ≠ gT1 := by omega
  have hgeT1 : w1.heap.size ≤ gT1 := by omega
  have hneT10 : gT1 ≠ w1.heap.size := by omega
  have HVT0 := Lib.hid vT0
  have HVT1 := Lib.hid vT1
  have HBT := Lib.hid hBT
  clear hBT vT0 vT1 hgT1
  have HB2 := Lib.hid (HB1.out.trans (HBT.out.mono HB1.out.size))
  have HV2 := Lib.hid (HV1.out.below' HBT.out)
  have RX2 := Lib.hid (RX.out.below HBT.out)
  have RY2 := Lib.hid (RY.out.below HBT.out)
  have pc0 := (HV2.out).cell 0 rfl
  have pc1 := (HV2.out).cell 1 rfl
  have pc2 := (HV2.out).cell 2 rfl
  go_wp2_with fail
  refine (parts_ok T q Q Q2 cq cq2 us vs (HU.out.below HB2.out) (HW.out.below HB2.out) hsw).mono ?_
  rintro e w2 ⟨b3, A3, c3, u, b4, A4, c4, v, rfl, HQ3, HQ4, HL3, HL4, hx1, hy1, hB1⟩
  have HB3 := Lib.hid (HB2.out.trans (hB1.mono HB2.out.size))
  have HT0 := Lib.hid (HVT0.out.below' hB1)
  have HT1 := Lib.hid (HVT1.out.below' hB1)
  have RX3 := Lib.hid (RX2.out.below hB1)
  have RY3 := Lib.hid (RY2.out.below hB1)
  have RU3 := Lib.hid hx1
  have RV3 := Lib.hid hy1
  clear hB1 hx1 hy1 pc0 pc1 pc2
  go_upto_region 3 with fail
  obtain ⟨Z, hZ⟩ : ∃ Z, Z = ((w2.alloc (.cells #[.bool b3, .slice A3 u.length c3] 31)).alloc (.cells #[.bool b4, .slice A4 v.length c4] 31)) := ⟨_, rfl⟩
  rw [← hZ]
  have hBZ : Below w2.heap.size w2 Z := by rw [hZ]; exact (((Below.refl _ _).alloc (Nat.le_refl _) _).alloc (by simp only [size_alloc]; omega) _)
  have vZ0 : Vr Z (w2.heap.size) 31 #[.bool b3, .slice A3 u.length c3] := by rw [hZ]; exact ((Vr.new' _ _ _ (by simp only [size_alloc])).alloc _)
  have vZ1 : Vr Z (w2.heap.size + 1) 31 #[.bool b4, .slice A4 v.length c4] := by rw [hZ]; exact (Vr.new' _ _ _ (by simp only [size_alloc]))
  clear hZ
  obtain ⟨gZ1, hgZ1⟩ : ∃ g, w2.heap.size + 1 = g := ⟨_, rfl⟩
  rw [hgZ1] at vZ1 ⊢
  have hneZ01 : w2.heap.size ≠ gZ1 := by omega
  have hgeZ1 : w2.heap.size ≤ gZ1 := by omega
  have hneZ10 : gZ1 ≠ w2.heap.size := by omega
  have HVZ0 := Lib.hid vZ0
  have HVZ1 := Lib.hid vZ1
  have HBZ := Lib.hid hBZ
  clear hBZ vZ0 vZ1 hgZ1
  have HB4 := Lib.hid (HB3.out.trans (HBZ.out.mono HB3.out.size))
  have RX4 := Lib.hid (RX3.out.below HBZ.out)
  have RY4 := Lib.hid (RY3.out.below HBZ.out)
  have RU4 := Lib.hid (RU3.out.below HBZ.out)
  have RV4 := Lib.hid (RV3.out.below HBZ.out)
  have HT2 := Lib.hid (HT0.out.below' HBZ.out)
  have HT3 := Lib.hid (HT1.out.below' HBZ.out)
  clear RX RX2 RX3 RY RY2 RY3 RU3 RV3 HT0 HT1 HV1 HV2 HVW0 HVW1 HVT0 HVT1 HB1 HB2 HB3
  have ac0 := (HT2.out).cell 0 rfl
  have ac1 := (HT2.out).cell 1 rfl
  have bc0 := (HT3.out).cell 0 rfl
  have bc1 := (HT3.out).cell 1 rfl
  have cc0 := (HVZ0.out).cell 0 rfl
  have cc1 := (HVZ0.out).cell 1 rfl
  have dc0 := (HVZ1.out).cell 0 rfl
  have dc1 := (HVZ1.out).cell 1 rfl
  go_region_held3 (fun w' => w'.cell? ⟨w1.heap.size, 0, none⟩ = some (.bool b1) ∧ w'.cell? ⟨w1.heap.size, 1, none⟩ = some (.slice A1 x.length c1) ∧ w'.cell? ⟨gT1, 0, none⟩ = some (.bool b2) ∧ w'.cell? ⟨gT1, 1, none⟩ = some (.slice A2 y.length c2) ∧ w'.cell? ⟨w2.heap.size, 0, none⟩ = some (.bool b3) ∧ w'.cell? ⟨w2.heap.size, 1, none⟩ = some (.slice A3 u.length c3) ∧ w'.cell? ⟨gZ1, 0, none⟩ = some (.bool b4) ∧ w'.cell? ⟨gZ1, 1, none⟩ = some (.slice A4 v.length c4)) (go_keep)
    (first
      | (go_at_call_of 41 A1
         refine (imul_ok Z.drew b1 b4 A1 A4 c1 c4 x v (RX4.out.below (Below.refl _ _).drew) (RV4.out.below (Below.refl _ _).drew) (by have := HL1.out; have := HL4.out; omega)).mono ?_
         rintro e w3 ⟨b5, A5, c5, z5, rfl, HZ5, HM5, hz5, hB5⟩
         have HT2mc0 := (HT2.out.drew.below' hB5).cell 0 rfl
         have HT2mc1 := (HT2.out.drew.below' hB5).cell 1 rfl
         have HT2m := Lib.hid (HT2.out.drew.below' hB5)
         have HT3mc0 := (HT3.out.drew.below' hB5).cell 0 rfl
         have HT3mc1 := (HT3.out.drew.below' hB5).cell 1 rfl
         have HT3m := Lib.hid (HT3.out.drew.below' hB5)
         have HVZ0mc0 := (HVZ0.out.drew.below' hB5).cell 0 rfl
         have HVZ0mc1 := (HVZ0.out.drew.below' hB5).cell 1 rfl
         have HVZ0m := Lib.hid (HVZ0.out.drew.below' hB5)
         have HVZ1mc0 := (HVZ1.out.drew.below' hB5).cell 0 rfl
         have HVZ1mc1 := (HVZ1.out.drew.below' hB5).cell 1 rfl
         have HVZ1m := Lib.hid (HVZ1.out.drew.below' hB5)
         have HB5 := Lib.hid (HB4.out.drew.trans (hB5.mono HB4.out.drew.size))
         have RU5 := Lib.hid ((RU4.out.below (Below.refl _ _).drew).below hB5)
         have RY5 := Lib.hid ((RY4.out.below (Below.refl _ _).drew).below hB5)
         have RZ5 := Lib.hid hz5
         clear hB5 hz5)
      | (go_at_call_of 41 A3
         refine (imul_ok w3 b3 b2 A3 A2 c3 c2 u y RU5.out RY5.out (by have := HL3.out; have := HL2.out; omega)).mono ?_
         rintro e w4 ⟨b6, A6, c6, z6, rfl, HZ6, HM6, hz6, hB6⟩
         have HT2mmc0 := (HT2m.out.below' hB6).cell 0 rfl
         have HT2mmc1 := (HT2m.out.below' hB6).cell 1 rfl
         have HT2mm := Lib.hid (HT2m.out.below' hB6)
         have HT3mmc0 := (HT3m.out.below' hB6).cell 0 rfl
         have HT3mmc1 := (HT3m.out.below' hB6).cell 1 rfl
         have HT3mm := Lib.hid (HT3m.out.below' hB6)
         have HVZ0mmc0 := (HVZ0m.out.below' hB6).cell 0 rfl
         have HVZ0mmc1 := (HVZ0m.out.below' hB6).cell 1 rfl
         have HVZ0mm := Lib.hid (HVZ0m.out.below' hB6)
         have HVZ1mmc0 := (HVZ1m.out.below' hB6).cell 0 rfl
         have HVZ1mmc1 := (HVZ1m.out.below' hB6).cell 1 rfl
         have HVZ1mm := Lib.hid (HVZ1m.out.below' hB6)
         have HB6 := Lib.hid (HB5.out.trans (hB6.mono HB5.out.size))
         have RZ56 := Lib.hid (RZ5.out.below hB6)
         have RZ6 := Lib.hid hz6
         clear hB6 hz6)
      | (go_at_call 40
         refine (icmp_ok w4 b5 b6 A5 A6 c5 c6 z5 z6 RZ56.out RZ6.out (by rw [HM5.out]; exact Nat.le_trans (zmul_len RX4.out.2 RV4.out.2) (by have := HL1.out; have := HL4.out; omega)) (by rw [HM6.out]; exact Nat.le_trans (zmul_len RU4.out.2 RY4.out.2) (by have := HL3.out; have := HL2.out; omega))).mono ?_
         rintro e w5 ⟨rfl, hB7⟩
         have HT2mmmc0 := (HT2mm.out.below' hB7).cell 0 rfl
         have HT2mmmc1 := (HT2mm.out.below' hB7).cell 1 rfl
         have HT3mmmc0 := (HT3mm.out.below' hB7).cell 0 rfl
         have HT3mmmc1 := (HT3mm.out.below' hB7).cell 1 rfl
         have HVZ0mmmc0 := (HVZ0mm.out.below' hB7).cell 0 rfl
         have HVZ0mmmc1 := (HVZ0mm.out.below' hB7).cell 1 rfl
         have HVZ1mmmc0 := (HVZ1mm.out.below' hB7).cell 0 rfl
         have HVZ1mmmc1 := (HVZ1mm.out.below' hB7).cell 1 rfl
         have HB7 := Lib.hid (HB6.out.trans (hB7.mono HB6.out.size))
         clear hB7))
  go_wp2_with fail
  go_ret
  refine ⟨?_, HB7.out⟩
  rw [HZ5.out, HM5.out, HZ6.out, HM6.out, zv_norm, zv_norm, HQ1.out, HQ2.out, HQ3.out, HQ4.out]
  rfl

end Go.Proofs.Ytgdlnmhpnlmofaa.M
