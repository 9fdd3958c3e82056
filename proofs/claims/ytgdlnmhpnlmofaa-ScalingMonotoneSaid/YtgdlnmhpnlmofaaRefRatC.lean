/- The product of two ratios of the reference; its chance. -/
import Derived.Test.YtgdlnmhpnlmofaaRefRatB
namespace Go.Proofs.Ytgdlnmhpnlmofaa.M
set_option maxRecDepth 10000
open Go.RowKit
set_option linter.unusedVariables false
set_option linter.unusedSimpArgs false

set_option maxHeartbeats 6400000 in
theorem rqmul_ok (w : World) (p q : Bool) (P P2 Q Q2 : Option Addr) (cp cp2 cq cq2 : Nat) (xs ys us vs : List Int) (hx : RN w P cp xs) (hy : RN w P2 cp2 ys) (hu : RN w Q cq us) (hw : RN w Q2 cq2 vs) (hsxs : xs.length ≤ 35184372088800) (hsys : ys.length ≤ 35184372088800) (hsus : us.length ≤ 35184372088800) (hsvs : vs.length ≤ 35184372088800) (hsn : xs.length + us.length ≤ 35184372088800) (hsd : ys.length + vs.length + 2 ≤ 35184372088800) :
    Calls Try.prog 30 #[.agg #[.bool p, .slice P xs.length cp, .slice P2 ys.length cp2], .agg #[.bool q, .slice Q us.length cq, .slice Q2 vs.length cq2]] w (RetQ (qv p xs ys * qv q us vs) w) := by
  have HX := Lib.hid hx
  have HY := Lib.hid hy
  have HU := Lib.hid hu
  have HW := Lib.hid hw
  clear hx hy hu hw
  go_enter Try.func30, Try.ntmps30
  go_wp2_with fail
  obtain ⟨W, hW⟩ : ∃ W, W = (((w.alloc (.cells #[.bool p, .slice P xs.length cp, .slice P2 ys.length cp2] 33)).alloc (.cells #[.bool q, .slice Q us.length cq, .slice Q2 vs.length cq2] 33)).alloc (.cells #[.bool false, .slice none 0 0, .slice none 0 0] 33)) := ⟨_, rfl⟩
  rw [← hW]
  have hBW : Below w.heap.size w W := by rw [hW]; exact ((((Below.refl _ _).alloc (Nat.le_refl _) _).alloc (by simp only [size_alloc]; omega) _).alloc (by simp only [size_alloc]; omega) _)
  have vW0 : Vr W (w.heap.size) 33 #[.bool p, .slice P xs.length cp, .slice P2 ys.length cp2] := by rw [hW]; exact (((Vr.new' _ _ _ (by simp only [size_alloc])).alloc _).alloc _)
  have vW1 : Vr W (w.heap.size + 1) 33 #[.bool q, .slice Q us.length cq, .slice Q2 vs.length cq2] := by rw [hW]; exact ((Vr.new' _ _ _ (by simp only [size_alloc])).alloc _)
  have vW2 : Vr W (w.heap.size + 1 + 1) 33 #[.bool false, .slice none 0 0, .slice none 0 0] := by rw [hW]; exact (Vr.new' _ _ _ (by simp only [size_alloc]))
  clear hW
  obtain ⟨gW2, hgW2⟩ : ∃ g, w.heap.size + 1 + 1 = g := ⟨_, rfl⟩
  rw [hgW2] at vW2 ⊢
  obtain ⟨gW1, hgW1⟩ : ∃ g, w.heap.size + 1 = g := ⟨_, rfl⟩
  rw [hgW1] at vW1 ⊢
  have hneW01 : w.heap.size ≠ gW1 := by omega
  have hneW02 : w.heap.size ≠ gW2 := by omega
  have hgeW1 : w.heap.size ≤ gW1 := by omega
  have hneW10 : gW1 ≠ w.heap.size := by omega
  have hneW12 : gW1 ≠ gW2 := by omega
  have hgeW2 : w.heap.size ≤ gW2 := by omega
  have hneW20 : gW2 ≠ w.heap.size := by omega
  have hneW21 : gW2 ≠ gW1 := by omega
  have HVW0 := Lib.hid vW0
  have HVW1 := Lib.hid vW1
  have HVW2 := Lib.hid vW2
  have HBW := Lib.hid hBW
  clear hBW vW0 vW1 vW2 hgW1 hgW2
  have oc0 := (HVW0.out).cell 0 rfl
  have oc1 := (HVW0.out).cell 1 rfl
  have oc2 := (HVW0.out).cell 2 rfl
  have qc0 := (HVW1.out).cell 0 rfl
  have qc1 := (HVW1.out).cell 1 rfl
  have qc2 := (HVW1.out).cell 2 rfl
  have V0_Wd := Lib.hid HVW0.out.drew
  have V1_Wd := Lib.hid HVW1.out.drew
  have V2_Wd := Lib.hid HVW2.out.drew
  have B_Wd := Lib.hid HBW.out.drew
  go_region_held3 (fun w' => w'.cell? ⟨w.heap.size, 0, none⟩ = some (.bool p) ∧ w'.cell? ⟨w.heap.size, 1, none⟩ = some (.slice P xs.length cp) ∧ w'.cell? ⟨w.heap.size, 2, none⟩ = some (.slice P2 ys.length cp2) ∧ w'.cell? ⟨gW1, 0, none⟩ = some (.bool q) ∧ w'.cell? ⟨gW1, 1, none⟩ = some (.slice Q us.length cq) ∧ w'.cell? ⟨gW1, 2, none⟩ = some (.slice Q2 vs.length cq2)) (go_keep)
    (first
      | (go_at_call_of 50 P
         refine (top_ok _ p P P2 cp cp2 xs ys (HX.out.below (by first | exact B_Wd.out | exact B_Wd.out.alloc B_Wd.out.size _)) (HY.out.below (by first | exact B_Wd.out | exact B_Wd.out.alloc B_Wd.out.size _)) hsxs hsys).mono ?_
         rintro e a1 ⟨b1, A1, c1, z1, rfl, HB1, HZ1, hz1, hB⟩
         have V0_a1 := Lib.hid (Vr.below' (by first | exact V0_Wd.out | exact V0_Wd.out.alloc _) hB)
         have V0_a1c0 := (V0_a1.out).cell 0 rfl
         have V0_a1c1 := (V0_a1.out).cell 1 rfl
         have V0_a1c2 := (V0_a1.out).cell 2 rfl
         have V1_a1 := Lib.hid (Vr.below' (by first | exact V1_Wd.out | exact V1_Wd.out.alloc _) hB)
         have V1_a1c0 := (V1_a1.out).cell 0 rfl
         have V1_a1c1 := (V1_a1.out).cell 1 rfl
         have V1_a1c2 := (V1_a1.out).cell 2 rfl
         have B_a1 := Lib.hid (below_on (by first | exact B_Wd.out | exact B_Wd.out.alloc B_Wd.out.size _) hB)
         have neV0_a1 : a1.heap.size ≠ w.heap.size := Nat.ne_of_gt V0_a1.out.lt
         have neV1_a1 : a1.heap.size ≠ gW1 := Nat.ne_of_gt V1_a1.out.lt
         have Z_a1 := Lib.hid hz1
         have V2_a1 := Lib.hid (V2_Wd.out.below' hB)
         clear hz1
         clear hB)
      | (go_at_call_of 50 Q
         refine (top_ok _ q Q Q2 cq cq2 us vs (HU.out.below (by first | exact B_a1.out | exact B_a1.out.alloc B_a1.out.size _)) (HW.out.below (by first | exact B_a1.out | exact B_a1.out.alloc B_a1.out.size _)) hsus hsvs).mono ?_
         rintro e a2 ⟨b2, A2, c2, z2, rfl, HB2, HZ2, hz2, hB⟩
         have V0_a2 := Lib.hid (Vr.below' (by first | exact V0_a1.out | exact V0_a1.out.alloc _) hB)
         have V0_a2c0 := (V0_a2.out).cell 0 rfl
         have V0_a2c1 := (V0_a2.out).cell 1 rfl
         have V0_a2c2 := (V0_a2.out).cell 2 rfl
         have V1_a2 := Lib.hid (Vr.below' (by first | exact V1_a1.out | exact V1_a1.out.alloc _) hB)
         have V1_a2c0 := (V1_a2.out).cell 0 rfl
         have V1_a2c1 := (V1_a2.out).cell 1 rfl
         have V1_a2c2 := (V1_a2.out).cell 2 rfl
         have Z_a2 := Lib.hid (RN.below (by first | exact Z_a1.out | exact Z_a1.out.below ((Below.refl _ _).alloc (Nat.le_refl _) _)) hB)
         have B_a2 := Lib.hid (below_on (by first | exact B_a1.out | exact B_a1.out.alloc B_a1.out.size _) hB)
         have neV0_a2 : a2.heap.size ≠ w.heap.size := Nat.ne_of_gt V0_a2.out.lt
         have neV1_a2 : a2.heap.size ≠ gW1 := Nat.ne_of_gt V1_a2.out.lt
         have Y_a2 := Lib.hid hz2
         have V2_a2 := Lib.hid (V2_a1.out.below' hB)
         clear hz2
         clear hB)
      | (go_at_call 49
         refine (rimul_ok _ b1 b2 A1 A2 c1 c2 z1 z2 (by first | exact Z_a2.out | exact Z_a2.out.below ((Below.refl _ _).alloc (Nat.le_refl _) _)) (by first | exact Y_a2.out | exact Y_a2.out.below ((Below.refl _ _).alloc (Nat.le_refl _) _)) (by rw [HZ1.out, HZ2.out]; have h1 := qn_len (b := p) (ys := ys) HX.out.2; have h2 := qn_len (b := q) (ys := vs) HU.out.2; omega)).mono ?_
         rintro e a3 ⟨b3, A3, c3, z3, rfl, HB3, HZ3, hz3, hB⟩
         have V0_a3 := Lib.hid (Vr.below' (by first | exact V0_a2.out | exact V0_a2.out.alloc _) hB)
         have V0_a3c0 := (V0_a3.out).cell 0 rfl
         have V0_a3c1 := (V0_a3.out).cell 1 rfl
         have V0_a3c2 := (V0_a3.out).cell 2 rfl
         have V1_a3 := Lib.hid (Vr.below' (by first | exact V1_a2.out | exact V1_a2.out.alloc _) hB)
         have V1_a3c0 := (V1_a3.out).cell 0 rfl
         have V1_a3c1 := (V1_a3.out).cell 1 rfl
         have V1_a3c2 := (V1_a3.out).cell 2 rfl
         have B_a3 := Lib.hid (below_on (by first | exact B_a2.out | exact B_a2.out.alloc B_a2.out.size _) hB)
         have neV0_a3 : a3.heap.size ≠ w.heap.size := Nat.ne_of_gt V0_a3.out.lt
         have neV1_a3 : a3.heap.size ≠ gW1 := Nat.ne_of_gt V1_a3.out.lt
         have P_a3 := Lib.hid hz3
         have V2_a3 := Lib.hid (V2_a2.out.below' hB)
         clear hz3
         clear hB)
      | (go_at_call_of 52 P
         refine (low_ok _ p P P2 cp cp2 xs ys (HX.out.below (by first | exact B_a3.out | exact B_a3.out.alloc B_a3.out.size _)) (HY.out.below (by first | exact B_a3.out | exact B_a3.out.alloc B_a3.out.size _)) hsxs hsys).mono ?_
         rintro e a4 ⟨D4, d4, y4, rfl, HY4, hy4, hB⟩
         have V0_a4 := Lib.hid (Vr.below' (by first | exact V0_a3.out | exact V0_a3.out.alloc _) hB)
         have V0_a4c0 := (V0_a4.out).cell 0 rfl
         have V0_a4c1 := (V0_a4.out).cell 1 rfl
         have V0_a4c2 := (V0_a4.out).cell 2 rfl
         have V1_a4 := Lib.hid (Vr.below' (by first | exact V1_a3.out | exact V1_a3.out.alloc _) hB)
         have V1_a4c0 := (V1_a4.out).cell 0 rfl
         have V1_a4c1 := (V1_a4.out).cell 1 rfl
         have V1_a4c2 := (V1_a4.out).cell 2 rfl
         have P_a4 := Lib.hid (RN.below (by first | exact P_a3.out | exact P_a3.out.below ((Below.refl _ _).alloc (Nat.le_refl _) _)) hB)
         have B_a4 := Lib.hid (below_on (by first | exact B_a3.out | exact B_a3.out.alloc B_a3.out.size _) hB)
         have neV0_a4 : a4.heap.size ≠ w.heap.size := Nat.ne_of_gt V0_a4.out.lt
         have neV1_a4 : a4.heap.size ≠ gW1 := Nat.ne_of_gt V1_a4.out.lt
         have L_a4 := Lib.hid hy4
         have V2_a4 := Lib.hid (V2_a3.out.below' hB)
         clear hy4
         clear hB)
      | (go_at_call_of 52 Q
         refine (low_ok _ q Q Q2 cq cq2 us vs (HU.out.below (by first | exact B_a4.out | exact B_a4.out.alloc B_a4.out.size _)) (HW.out.below (by first | exact B_a4.out | exact B_a4.out.alloc B_a4.out.size _)) hsus hsvs).mono ?_
         rintro e a5 ⟨D5, d5, y5, rfl, HY5, hy5, hB⟩
         have V0_a5 := Lib.hid (Vr.below' (by first | exact V0_a4.out | exact V0_a4.out.alloc _) hB)
         have V0_a5c0 := (V0_a5.out).cell 0 rfl
         have V0_a5c1 := (V0_a5.out).cell 1 rfl
         have V0_a5c2 := (V0_a5.out).cell 2 rfl
         have V1_a5 := Lib.hid (Vr.below' (by first | exact V1_a4.out | exact V1_a4.out.alloc _) hB)
         have V1_a5c0 := (V1_a5.out).cell 0 rfl
         have V1_a5c1 := (V1_a5.out).cell 1 rfl
         have V1_a5c2 := (V1_a5.out).cell 2 rfl
         have P_a5 := Lib.hid (RN.below (by first | exact P_a4.out | exact P_a4.out.below ((Below.refl _ _).alloc (Nat.le_refl _) _)) hB)
         have L_a5 := Lib.hid (RN.below (by first | exact L_a4.out | exact L_a4.out.below ((Below.refl _ _).alloc (Nat.le_refl _) _)) hB)
         have B_a5 := Lib.hid (below_on (by first | exact B_a4.out | exact B_a4.out.alloc B_a4.out.size _) hB)
         have neV0_a5 : a5.heap.size ≠ w.heap.size := Nat.ne_of_gt V0_a5.out.lt
         have neV1_a5 : a5.heap.size ≠ gW1 := Nat.ne_of_gt V1_a5.out.lt
         have K_a5 := Lib.hid hy5
         have V2_a5 := Lib.hid (V2_a4.out.below' hB)
         clear hy5
         clear hB)
      | (go_at_call 55
         refine (rmul_ok _ D4 D5 d4 d5 y4 y5 (by first | exact L_a5.out | exact L_a5.out.below ((Below.refl _ _).alloc (Nat.le_refl _) _)) (by first | exact K_a5.out | exact K_a5.out.below ((Below.refl _ _).alloc (Nat.le_refl _) _)) (by rw [HY4.out, HY5.out]; have h1 := qd_len HY.out.2; have h2 := qd_len HW.out.2; omega)).mono ?_
         rintro e a6 ⟨D6, d6, y6, rfl, HY6, hy6, hB⟩
         have V0_a6 := Lib.hid (Vr.below' (by first | exact V0_a5.out | exact V0_a5.out.alloc _) hB)
         have V0_a6c0 := (V0_a6.out).cell 0 rfl
         have V0_a6c1 := (V0_a6.out).cell 1 rfl
         have V0_a6c2 := (V0_a6.out).cell 2 rfl
         have V1_a6 := Lib.hid (Vr.below' (by first | exact V1_a5.out | exact V1_a5.out.alloc _) hB)
         have V1_a6c0 := (V1_a6.out).cell 0 rfl
         have V1_a6c1 := (V1_a6.out).cell 1 rfl
         have V1_a6c2 := (V1_a6.out).cell 2 rfl
         have P_a6 := Lib.hid (RN.below (by first | exact P_a5.out | exact P_a5.out.below ((Below.refl _ _).alloc (Nat.le_refl _) _)) hB)
         have B_a6 := Lib.hid (below_on (by first | exact B_a5.out | exact B_a5.out.alloc B_a5.out.size _) hB)
         have neV0_a6 : a6.heap.size ≠ w.heap.size := Nat.ne_of_gt V0_a6.out.lt
         have neV1_a6 : a6.heap.size ≠ gW1 := Nat.ne_of_gt V1_a6.out.lt
         have M_a6 := Lib.hid hy6
         have HVM : Hid (V y6 = qd ys * qd vs) := by show _ = _; have h1 := qd_pos HY.out.2; have h2 := qd_pos HW.out.2; rw [HY6.out, V_limbs, HY4.out, HY5.out, V_limbs, V_limbs, Int.toNat_natCast, Int.toNat_natCast, Int.natCast_mul, Int.toNat_of_nonneg (by omega), Int.toNat_of_nonneg (by omega)]
         have hm6 : y6.length ≤ ys.length + vs.length + 2 := by have h1 := mul_len L_a5.out.2 K_a5.out.2; have h3 := qd_len HY.out.2; have h4 := qd_len HW.out.2; rw [← HY6.out] at h1; have h5 : y4.length ≤ ys.length + 1 := (by rw [HY4.out]; exact h3); have h6 : y5.length ≤ vs.length + 1 := (by rw [HY5.out]; exact h4); omega
         have hm3 : z3.length ≤ xs.length + us.length := by have h1 := zmul_len (b := b1) (b' := b2) Z_a2.out.2 Y_a2.out.2; have h3 := qn_len (b := p) (ys := ys) HX.out.2; have h4 := qn_len (b := q) (ys := vs) HU.out.2; rw [← HZ3.out] at h1; have h5 : z1.length ≤ xs.length := (by rw [HZ1.out]; exact h3); have h6 : z2.length ≤ us.length := (by rw [HZ2.out]; exact h4); omega
         have HM6 := Lib.hid hm6
         have HM3 := Lib.hid hm3
         have V2_a6 := Lib.hid (V2_a5.out.below' hB)
         clear hy6 hm6 hm3
         clear hB)
      | (go_at_call 53
         refine (reduce_ok _ b3 A3 D6 c3 d6 z3 y6 (by first | exact P_a6.out | exact P_a6.out.below ((Below.refl _ _).alloc (Nat.le_refl _) _)) (by first | exact M_a6.out | exact M_a6.out.below ((Below.refl _ _).alloc (Nat.le_refl _) _)) (by have := HM3.out; omega) (by have := HM6.out; omega) (by rw [HVM.out]; have h1 := qd_pos HY.out.2; have h2 := qd_pos HW.out.2; have h3 := Int.mul_pos h1 h2; omega)).mono ?_
         rintro e a7 ⟨b7, A7, c7, x7, B7, d7, y7, rfl, HQ1, HQ2, HQ3, hr1, hr2, hB⟩
         have V0_a7 := Lib.hid (Vr.below' (by first | exact V0_a6.out | exact V0_a6.out.alloc _) hB)
         have V0_a7c0 := (V0_a7.out).cell 0 rfl
         have V0_a7c1 := (V0_a7.out).cell 1 rfl
         have V0_a7c2 := (V0_a7.out).cell 2 rfl
         have V1_a7 := Lib.hid (Vr.below' (by first | exact V1_a6.out | exact V1_a6.out.alloc _) hB)
         have V1_a7c0 := (V1_a7.out).cell 0 rfl
         have V1_a7c1 := (V1_a7.out).cell 1 rfl
         have V1_a7c2 := (V1_a7.out).cell 2 rfl
         have B_a7 := Lib.hid (below_on (by first | exact B_a6.out | exact B_a6.out.alloc B_a6.out.size _) hB)
         have neV0_a7 : a7.heap.size ≠ w.heap.size := Nat.ne_of_gt V0_a7.out.lt
         have neV1_a7 : a7.heap.size ≠ gW1 := Nat.ne_of_gt V1_a7.out.lt
         have S_a7 := Lib.hid hr1
         have T_a7 := Lib.hid hr2
         have V2_a7 := Lib.hid (V2_a6.out.below' hB)
         have k0 := V2_a7.out.cell 0 rfl
         have k1 := V2_a7.out.cell 1 rfl
         have k2 := V2_a7.out.cell 2 rfl
         have g0 := V2_a7.out.thaw 0
         have g1 := V2_a7.out.thaw 1
         have g2 := V2_a7.out.thaw 2
         clear hr1 hr2
         clear hB))
  go_wp2_with fail
  have v3 : Vr (((a7.setCell ⟨gW2, 0, none⟩ (.bool b7)).setCell ⟨gW2, 1, none⟩ (.slice A7 x7.length c7)).setCell ⟨gW2, 2, none⟩ (.slice B7 y7.length d7)) gW2 33 #[.bool b7, .slice A7 x7.length c7, .slice B7 y7.length d7] := (((V2_a7.out.set 0 _).set 1 _).set 2 _)
  have r0 := (S_a7.out).apart (V2_a7.out) (nd_rat _ _ _ _ _ _ _) 0 (.bool b7)
  have r1 := (r0).apart ((V2_a7.out).set 0 (.bool b7)) (nd_rat _ _ _ _ _ _ _) 1 (.slice A7 x7.length c7)
  have r2 := (r1).apart (((V2_a7.out).set 0 (.bool b7)).set 1 (.slice A7 x7.length c7)) (nd_rat _ _ _ _ _ _ _) 2 (.slice B7 y7.length d7)
  have s0 := (T_a7.out).apart (V2_a7.out) (nd_rat _ _ _ _ _ _ _) 0 (.bool b7)
  have s1 := (s0).apart ((V2_a7.out).set 0 (.bool b7)) (nd_rat _ _ _ _ _ _ _) 1 (.slice A7 x7.length c7)
  have s2 := (s1).apart (((V2_a7.out).set 0 (.bool b7)).set 1 (.slice A7 x7.length c7)) (nd_rat _ _ _ _ _ _ _) 2 (.slice B7 y7.length d7)
  refine bodyPost_ret (v := .agg #[.bool b7, .slice A7 x7.length c7, .slice B7 y7.length d7]) (by simp [results, Try.results30, go_sem, v3.cell 0 rfl, v3.cell 1 rfl, v3.cell 2 rfl]) rfl ?_
  have hqm : qv b3 z3 y6 = qv p xs ys * qv q us vs := by
    have h1 := qd_pos HY.out.2
    have h2 := qd_pos HW.out.2
    have e1 : zv b3 z3 = qn p xs ys * qn q us vs := by rw [HB3.out, HZ3.out, zv_norm, HB1.out, HZ1.out, HB2.out, HZ2.out, zv_norm, zv_norm]
    rw [qv_parts HY.out.2, qv_parts HW.out.2, Rat.mkRat_mul_mkRat]
    unfold qv
    rw [e1, HVM.out]
    congr 1
    have h3 := Int.mul_nonneg (Int.le_of_lt h1) (Int.le_of_lt h2)
    have h4 : (((qd ys).toNat * (qd vs).toNat : Nat) : Int) = qd ys * qd vs := by rw [Int.natCast_mul, Int.toNat_of_nonneg (by omega), Int.toNat_of_nonneg (by omega)]
    omega
  exact ⟨b7, A7, c7, x7, B7, d7, y7, rfl, by rw [← hqm]; exact HQ1, by rw [← hqm]; exact HQ2, by rw [← hqm]; exact HQ3, r2, s2, (below_set (below_set (below_set B_a7.out hgeW2 _) hgeW2 _) hgeW2 _)⟩
theorem mul_small (p q : Rat) : (p * q).num.natAbs ≤ p.num.natAbs * q.num.natAbs ∧ (p * q).den ≤ p.den * q.den := by
  have h := mk_small (n := p.num * q.num) (d := p.den * q.den) (Nat.mul_ne_zero p.den_nz q.den_nz)
  have e : mkRat (p.num * q.num) (p.den * q.den) = p * q := by
    rw [← Rat.mkRat_mul_mkRat, Rat.mkRat_self, Rat.mkRat_self]
  rw [e, Int.natAbs_mul] at h
  exact h
theorem nat_len {n : Nat} {x : List Int} {k : Nat} (hx : Lim x) (h : n ≤ (V x).toNat) (hk : x.length ≤ k) : (limbs n).length ≤ k := by
  refine limbs_len ?_
  have h1 := V_lt hx
  have h2 := V_nonneg hx
  have h3 := pw_le hk
  omega
/-- How long the parts of a fraction's lowest terms are. -/
theorem qlen {b : Bool} {xs ys : List Int} (hx : Lim xs) (hy : Lim ys) : (limbs (qv b xs ys).num.natAbs).length ≤ xs.length ∧ (limbs (qv b xs ys).den).length ≤ ys.length + 1 := by
  have h0 := qd_pos hy
  have h := mk_small (n := qn b xs ys) (d := (qd ys).toNat) (by omega)
  rw [← qv_parts hy] at h
  constructor
  · refine Nat.le_trans ?_ (qn_len (b := b) (ys := ys) hx)
    refine limbs_len (Int.lt_of_le_of_lt ?_ (limbs_lt (qn b xs ys).natAbs))
    omega
  · refine Nat.le_trans ?_ (qd_len hy)
    refine limbs_len (Int.lt_of_le_of_lt ?_ (limbs_lt (qd ys).toNat))
    omega
theorem nat_mul_len (a b : Nat) : (limbs (a * b)).length ≤ (limbs a).length + (limbs b).length := by
  have h := mul_len (limbs_nf a).1 (limbs_nf b).1
  rwa [V_limbs, V_limbs, Int.toNat_natCast, Int.toNat_natCast] at h
theorem nat_le_len {a b : Nat} (h : a ≤ b) : (limbs a).length ≤ (limbs b).length := limbs_len (Int.lt_of_le_of_lt (Int.ofNat_le.2 h) (limbs_lt b))
theorem qlen_mul {b q : Bool} {xs ys us vs : List Int} (hx : Lim xs) (hy : Lim ys) (hu : Lim us) (hv : Lim vs) : (limbs (qv b xs ys * qv q us vs).num.natAbs).length ≤ xs.length + us.length ∧ (limbs (qv b xs ys * qv q us vs).den).length ≤ ys.length + vs.length + 2 := by
  have h1 := qlen (b := b) hx hy
  have h2 := qlen (b := q) hu hv
  have h := mul_small (qv b xs ys) (qv q us vs)
  have h3 := nat_le_len h.1
  have h4 := nat_le_len h.2
  have h5 := nat_mul_len (qv b xs ys).num.natAbs (qv q us vs).num.natAbs
  have h6 := nat_mul_len (qv b xs ys).den (qv q us vs).den
  omega

end Go.Proofs.Ytgdlnmhpnlmofaa.M
