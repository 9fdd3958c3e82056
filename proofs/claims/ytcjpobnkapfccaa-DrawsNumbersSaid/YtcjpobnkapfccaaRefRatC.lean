/- The product of two ratios of the reference; its chance. -/
import Derived.Test.YtcjpobnkapfccaaRefRatB
import Derived.Test.YtcjpobnkapfccaaDrawC
namespace Go.Proofs.Ytcjpobnkapfccaa.M
open Go.RowKit
set_option linter.unusedVariables false
set_option linter.unusedSimpArgs false

set_option maxHeartbeats 6400000 in
theorem rqmul_ok (w : World) (p q : Bool) (P P2 Q Q2 : Option Addr) (cp cp2 cq cq2 : Nat) (xs ys us vs : List Int) (hx : RN w P cp xs) (hy : RN w P2 cp2 ys) (hu : RN w Q cq us) (hw : RN w Q2 cq2 vs) (hsxs : xs.length ≤ 35184372088800) (hsys : ys.length ≤ 35184372088800) (hsus : us.length ≤ 35184372088800) (hsvs : vs.length ≤ 35184372088800) (hsn : xs.length + us.length ≤ 35184372088800) (hsd : ys.length + vs.length + 2 ≤ 35184372088800) :
    Calls Try.prog 32 #[.agg #[.bool p, .slice P xs.length cp, .slice P2 ys.length cp2], .agg #[.bool q, .slice Q us.length cq, .slice Q2 vs.length cq2]] w (RetQ (qv p xs ys * qv q us vs) w) := by
  have HX := Lib.hid hx
  have HY := Lib.hid hy
  have HU := Lib.hid hu
  have HW := Lib.hid hw
  clear hx hy hu hw
  go_enter Try.func32, Try.ntmps32
  go_wp2_with fail
  obtain ⟨W, hW⟩ : ∃ W, W = (((w.alloc (.cells #[.bool p, .slice P xs.length cp, .slice P2 ys.length cp2] 29)).alloc (.cells #[.bool q, .slice Q us.length cq, .slice Q2 vs.length cq2] 29)).alloc (.cells #[.bool false, .slice none 0 0, .slice none 0 0] 29)) := ⟨_, rfl⟩
  rw [← hW]
  have hBW : Below w.heap.size w W := by rw [hW]; exact ((((Below.refl _ _).alloc (Nat.le_refl _) _).alloc (by simp only [size_alloc]; omega) _).alloc (by simp only [size_alloc]; omega) _)
  have vW0 : Vr W (w.heap.size) 29 #[.bool p, .slice P xs.length cp, .slice P2 ys.length cp2] := by rw [hW]; exact (((Vr.new' _ _ _ (by simp only [size_alloc])).alloc _).alloc _)
  have vW1 : Vr W (w.heap.size + 1) 29 #[.bool q, .slice Q us.length cq, .slice Q2 vs.length cq2] := by rw [hW]; exact ((Vr.new' _ _ _ (by simp only [size_alloc])).alloc _)
  have vW2 : Vr W (w.heap.size + 1 + 1) 29 #[.bool false, .slice none 0 0, .slice none 0 0] := by rw [hW]; exact (Vr.new' _ _ _ (by simp only [size_alloc]))
  clear hW
  obtain ⟨gW2, hgW2⟩ : ∃ g, w.heap.size + 1 + 1 = g := ⟨_, rfl⟩
  rw [hgW2] at vW2 ⊢
  obtain ⟨gW1, hgW1⟩ : ∃ g, w.heap.size + 1 = g := ⟨_, rfl⟩
  rw [hgW1] at vW1 ⊢
  have hneW01 : w.heap.size ≠ gW1 := by omega
  have hneW02 : w.heap.size ≠ gW2 := by omega
  have hgeW1 : w.heap.size ≤ gW1 := by omega
  have hneW10 : gW1 ≠ w.heap.size := by omega
  have hneW12 : gW1 ≠ gW2 := by omega
  have hgeW2 : w.heap.size ≤ gW2 := by omega
  have hneW20 : gW2 ≠ w.heap.size := by omega
  have hneW21 : gW2 ≠ gW1 := by omega
  have HVW0 := Lib.hid vW0
  have HVW1 := Lib.hid vW1
  have HVW2 := Lib.hid vW2
  have HBW := Lib.hid hBW
  clear hBW vW0 vW1 vW2 hgW1 hgW2
  have oc0 := (HVW0.out).cell 0 rfl
  have oc1 := (HVW0.out).cell 1 rfl
  have oc2 := (HVW0.out).cell 2 rfl
  have qc0 := (HVW1.out).cell 0 rfl
  have qc1 := (HVW1.out).cell 1 rfl
  have qc2 := (HVW1.out).cell 2 rfl
  have V0_Wd := Lib.hid HVW0.out.drew
  have V1_Wd := Lib.hid HVW1.out.drew
  have V2_Wd := Lib.hid HVW2.out.drew
  have B_Wd := Lib.hid HBW.out.drew
  go_region_held3 (fun w' => w'.cell? ⟨w.heap.size, 0, none⟩ = some (.bool p) ∧ w'.cell? ⟨w.heap.size, 1, none⟩ = some (.slice P xs.length cp) ∧ w'.cell? ⟨w.heap.size, 2, none⟩ = some (.slice P2 ys.length cp2) ∧ w'.cell? ⟨gW1, 0, none⟩ = some (.bool q) ∧ w'.cell? ⟨gW1, 1, none⟩ = some (.slice Q us.length cq) ∧ w'.cell? ⟨gW1, 2, none⟩ = some (.slice Q2 vs.length cq2)) (go_keep)
    (first
      | (go_at_call_of 44 P
         refine (top_ok _ p P P2 cp cp2 xs ys (HX.out.below (by first | exact B_Wd.out | exact B_Wd.out.alloc B_Wd.out.size _)) (HY.out.below (by first | exact B_Wd.out | exact B_Wd.out.alloc B_Wd.out.size _)) hsxs hsys).mono ?_
         rintro e a1 ⟨b1, A1, c1, z1, rfl, HB1, HZ1, hz1, hB⟩
         have V0_a1 := Lib.hid (Vr.below' (by first | exact V0_Wd.out | exact V0_Wd.out.alloc _) hB)
         have V0_a1c0 := (V0_a1.out).cell 0 rfl
         have V0_a1c1 := (V0_a1.out).cell 1 rfl
         have V0_a1c2 := (V0_a1.out).cell 2 rfl
         have V1_a1 := Lib.hid (Vr.below' (by first | exact V1_Wd.out | exact V1_Wd.out.alloc _) hB)
         have V1_a1c0 := (V1_a1.out).cell 0 rfl
         have V1_a1c1 := (V1_a1.out).cell 1 rfl
         have V1_a1c2 := (V1_a1.out).cell 2 rfl
         have B_a1 := Lib.hid (below_on (by first | exact B_Wd.out | exact B_Wd.out.alloc B_Wd.out.size _) hB)
         have neV0_a1 : a1.heap.size ≠ w.heap.size := Nat.ne_of_gt V0_a1.out.lt
         have neV1_a1 : a1.heap.size ≠ gW1 := Nat.ne_of_gt V1_a1.out.lt
         have Z_a1 := Lib.hid hz1
         have V2_a1 := Lib.hid (V2_Wd.out.below' hB)
         clear hz1
         clear hB)
      | (go_at_call_of 44 Q
         refine (top_ok _ q Q Q2 cq cq2 us vs (HU.out.below (by first | exact B_a1.out | exact B_a1.out.alloc B_a1.out.size _)) (HW.out.below (by first | exact B_a1.out | exact B_a1.out.alloc B_a1.out.size _)) hsus hsvs).mono ?_
         rintro e a2 ⟨b2, A2, c2, z2, rfl, HB2, HZ2, hz2, hB⟩
         have V0_a2 := Lib.hid (Vr.below' (by first | exact V0_a1.out | exact V0_a1.out.alloc _) hB)
         have V0_a2c0 := (V0_a2.out).cell 0 rfl
         have V0_a2c1 := (V0_a2.out).cell 1 rfl
         have V0_a2c2 := (V0_a2.out).cell 2 rfl
         have V1_a2 := Lib.hid (Vr.below' (by first | exact V1_a1.out | exact V1_a1.out.alloc _) hB)
         have V1_a2c0 := (V1_a2.out).cell 0 rfl
         have V1_a2c1 := (V1_a2.out).cell 1 rfl
         have V1_a2c2 := (V1_a2.out).cell 2 rfl
         have Z_a2 := Lib.hid (RN.below (by first | exact Z_a1.out | exact Z_a1.out.below ((Below.refl _ _).alloc (Nat.le_refl _) _)) hB)
         have B_a2 := Lib.hid (below_on (by first | exact B_a1.out | exact B_a1.out.alloc B_a1.out.size _) hB)
         have neV0_a2 : a2.heap.size ≠ w.heap.size := Nat.ne_of_gt V0_a2.out.lt
         have neV1_a2 : a2.heap.size ≠ gW1 := Nat.ne_of_gt V1_a2.out.lt
         have Y_a2 := Lib.hid hz2
         have V2_a2 := Lib.hid (V2_a1.out.below' hB)
         clear hz2
         clear hB)
      | (go_at_call 43
         refine (rimul_ok _ b1 b2 A1 A2 c1 c2 z1 z2 (by first | exact Z_a2.out | exact Z_a2.out.below ((Below.refl _ _).alloc (Nat.le_refl _) _)) (by first | exact Y_a2.out | exact Y_a2.out.below ((Below.refl _ _).alloc (Nat.le_refl _) _)) (by rw [HZ1.out, HZ2.out]; have h1 := qn_len (b := p) (ys := ys) HX.out.2; have h2 := qn_len (b := q) (ys := vs) HU.out.2; omega)).mono ?_
         rintro e a3 ⟨b3, A3, c3, z3, rfl, HB3, HZ3, hz3, hB⟩
         have V0_a3 := Lib.hid (Vr.below' (by first | exact V0_a2.out | exact V0_a2.out.alloc _) hB)
         have V0_a3c0 := (V0_a3.out).cell 0 rfl
         have V0_a3c1 := (V0_a3.out).cell 1 rfl
         have V0_a3c2 := (V0_a3.out).cell 2 rfl
         have V1_a3 := Lib.hid (Vr.below' (by first | exact V1_a2.out | exact V1_a2.out.alloc _) hB)
         have V1_a3c0 := (V1_a3.out).cell 0 rfl
         have V1_a3c1 := (V1_a3.out).cell 1 rfl
         have V1_a3c2 := (V1_a3.out).cell 2 rfl
         have B_a3 := Lib.hid (below_on (by first | exact B_a2.out | exact B_a2.out.alloc B_a2.out.size _) hB)
         have neV0_a3 : a3.heap.size ≠ w.heap.size := Nat.ne_of_gt V0_a3.out.lt
         have neV1_a3 : a3.heap.size ≠ gW1 := Nat.ne_of_gt V1_a3.out.lt
         have P_a3 := Lib.hid hz3
         have V2_a3 := Lib.hid (V2_a2.out.below' hB)
         clear hz3
         clear hB)
      | (go_at_call_of 46 P
         refine (low_ok _ p P P2 cp cp2 xs ys (HX.out.below (by first | exact B_a3.out | exact B_a3.out.alloc B_a3.out.size _)) (HY.out.below (by first | exact B_a3.out | exact B_a3.out.alloc B_a3.out.size _)) hsxs hsys).mono ?_
         rintro e a4 ⟨D4, d4, y4, rfl, HY4, hy4, hB⟩
         have V0_a4 := Lib.hid (Vr.below' (by first | exact V0_a3.out | exact V0_a3.out.alloc _) hB)
         have V0_a4c0 := (V0_a4.out).cell 0 rfl
         have V0_a4c1 := (V0_a4.out).cell 1 rfl
         have V0_a4c2 := (V0_a4.out).cell 2 rfl
         have V1_a4 := Lib.hid (Vr.below' (by first | exact V1_a3.out | exact V1_a3.out.alloc _) hB)
         have V1_a4c0 := (V1_a4.out).cell 0 rfl
         have V1_a4c1 := (V1_a4.out).cell 1 rfl
         have V1_a4c2 := (V1_a4.out).cell 2 rfl
         have P_a4 := Lib.hid (RN.below (by first | exact P_a3.out | exact P_a3.out.below ((Below.refl _ _).alloc (Nat.le_refl _) _)) hB)
         have B_a4 := Lib.hid (below_on (by first | exact B_a3.out | exact B_a3.out.alloc B_a3.out.size _) hB)
         have neV0_a4 : a4.heap.size ≠ w.heap.size := Nat.ne_of_gt V0_a4.out.lt
         have neV1_a4 : a4.heap.size ≠ gW1 := Nat.ne_of_gt V1_a4.out.lt
         have L_a4 := Lib.hid hy4
         have V2_a4 := Lib.hid (V2_a3.out.below' hB)
         clear hy4
         clear hB)
      | (go_at_call_of 46 Q
         refine (low_ok _ q Q Q2 cq cq2 us vs (HU.out.below (by first | exact B_a4.out | exact B_a4.out.alloc B_a4.out.size _)) (HW.out.below (by first | exact B_a4.out | exact B_a4.out.alloc B_a4.out.size _)) hsus hsvs).mono ?_
         rintro e a5 ⟨D5, d5, y5, rfl, HY5, hy5, hB⟩
         have V0_a5 := Lib.hid (Vr.below' (by first | exact V0_a4.out | exact V0_a4.out.alloc _) hB)
         have V0_a5c0 := (V0_a5.out).cell 0 rfl
         have V0_a5c1 := (V0_a5.out).cell 1 rfl
         have V0_a5c2 := (V0_a5.out).cell 2 rfl
         have V1_a5 := Lib.hid (Vr.below' (by first | exact V1_a4.out | exact V1_a4.out.alloc _) hB)
         have V1_a5c0 := (V1_a5.out).cell 0 rfl
         have V1_a5c1 := (V1_a5.out).cell 1 rfl
         have V1_a5c2 := (V1_a5.out).cell 2 rfl
         have P_a5 := Lib.hid (RN.below (by first | exact P_a4.out | exact P_a4.out.below ((Below.refl _ _).alloc (Nat.le_refl _) _)) hB)
         have L_a5 := Lib.hid (RN.below (by first | exact L_a4.out | exact L_a4.out.below ((Below.refl _ _).alloc (Nat.le_refl _) _)) hB)
         have B_a5 := Lib.hid (below_on (by first | exact B_a4.out | exact B_a4.out.alloc B_a4.out.size _) hB)
         have neV0_a5 : a5.heap.size ≠ w.heap.size := Nat.ne_of_gt V0_a5.out.lt
         have neV1_a5 : a5.heap.size ≠ gW1 := Nat.ne_of_gt V1_a5.out.lt
         have K_a5 := Lib.hid hy5
         have V2_a5 := Lib.hid (V2_a4.out.below' hB)
         clear hy5
         clear hB)
      | (go_at_call 49
         refine (rmul_ok _ D4 D5 d4 d5 y4 y5 (by first | exact L_a5.out | exact L_a5.out.below ((Below.refl _ _).alloc (Nat.le_refl _) _)) (by first | exact K_a5.out | exact K_a5.out.below ((Below.refl _ _).alloc (Nat.le_refl _) _)) (by rw [HY4.out, HY5.out]; have h1 := qd_len HY.out.2; have h2 := qd_len HW.out.2; omega)).mono ?_
         rintro e a6 ⟨D6, d6, y6, rfl, HY6, hy6, hB⟩
         have V0_a6 := Lib.hid (Vr.below' (by first | exact V0_a5.out | exact V0_a5.out.alloc _) hB)
         have V0_a6c0 := (V0_a6.out).cell 0 rfl
         have V0_a6c1 := (V0_a6.out).cell 1 rfl
         have V0_a6c2 := (V0_a6.out).cell 2 rfl
         have V1_a6 := Lib.hid (Vr.below' (by first | exact V1_a5.out | exact V1_a5.out.alloc _) hB)
         have V1_a6c0 := (V1_a6.out).cell 0 rfl
         have V1_a6c1 := (V1_a6.out).cell 1 rfl
         have V1_a6c2 := (V1_a6.out).cell 2 rfl
         have P_a6 := Lib.hid (RN.below (by first | exact P_a5.out | exact P_a5.out.below ((Below.refl _ _).alloc (Nat.le_refl _) _)) hB)
         have B_a6 := Lib.hid (below_on (by first | exact B_a5.out | exact B_a5.out.alloc B_a5.out.size _) hB)
         have neV0_a6 : a6.heap.size ≠ w.heap.size := Nat.ne_of_gt V0_a6.out.lt
         have neV1_a6 : a6.heap.size ≠ gW1 := Nat.ne_of_gt V1_a6.out.lt
         have M_a6 := Lib.hid hy6
         have HVM : Hid (V y6 = qd ys * qd vs) := by show _ = _; have h1 := qd_pos HY.out.2; have h2 := qd_pos HW.out.2; rw [HY6.out, V_limbs, HY4.out, HY5.out, V_limbs, V_limbs, Int.toNat_natCast, Int.toNat_natCast, Int.natCast_mul, Int.toNat_of_nonneg (by omega), Int.toNat_of_nonneg (by omega)]
         have hm6 : y6.length ≤ ys.length + vs.length + 2 := by have h1 := mul_len L_a5.out.2 K_a5.out.2; have h3 := qd_len HY.out.2; have h4 := qd_len HW.out.2; rw [← HY6.out] at h1; have h5 : y4.length ≤ ys.length + 1 := (by rw [HY4.out]; exact h3); have h6 : y5.length ≤ vs.length + 1 := (by rw [HY5.out]; exact h4); omega
         have hm3 : z3.length ≤ xs.length + us.length := by have h1 := zmul_len (b := b1) (b' := b2) Z_a2.out.2 Y_a2.out.2; have h3 := qn_len (b := p) (ys := ys) HX.out.2; have h4 := qn_len (b := q) (ys := vs) HU.out.2; rw [← HZ3.out] at h1; have h5 : z1.length ≤ xs.length := (by rw [HZ1.out]; exact h3); have h6 : z2.length ≤ us.length := (by rw [HZ2.out]; exact h4); omega
         have HM6 := Lib.hid hm6
         have HM3 := Lib.hid hm3
         have V2_a6 := Lib.hid (V2_a5.out.below' hB)
         clear hy6 hm6 hm3
         clear hB)
      | (go_at_call 48
         refine (reduce_ok _ b3 A3 D6 c3 d6 z3 y6 (by first | exact P_a6.out | exact P_a6.out.below ((Below.refl _ _).alloc (Nat.le_refl _) _)) (by first | exact M_a6.out | exact M_a6.out.below ((Below.refl _ _).alloc (Nat.le_refl _) _)) (by have := HM3.out; omega) (by have := HM6.out; omega) (by rw [HVM.out]; have h1 := qd_pos HY.out.2; have h2 := qd_pos HW.out.2; have h3 := Int.mul_pos h1 h2; omega)).mono ?_
         rintro e a7 ⟨b7, A7, c7, x7, B7, d7, y7, rfl, HQ1, HQ2, HQ3, hr1, hr2, hB⟩
         have V0_a7 := Lib.hid (Vr.below' (by first | exact V0_a6.out | exact V0_a6.out.alloc _) hB)
         have V0_a7c0 := (V0_a7.out).cell 0 rfl
         have V0_a7c1 := (V0_a7.out).cell 1 rfl
         have V0_a7c2 := (V0_a7.out).cell 2 rfl
         have V1_a7 := Lib.hid (Vr.below' (by first | exact V1_a6.out | exact V1_a6.out.alloc _) hB)
         have V1_a7c0 := (V1_a7.out).cell 0 rfl
         have V1_a7c1 := (V1_a7.out).cell 1 rfl
         have V1_a7c2 := (V1_a7.out).cell 2 rfl
         have B_a7 := Lib.hid (below_on (by first | exact B_a6.out | exact B_a6.out.alloc B_a6.out.size _) hB)
         have neV0_a7 : a7.heap.size ≠ w.heap.size := Nat.ne_of_gt V0_a7.out.lt
         have neV1_a7 : a7.heap.size ≠ gW1 := Nat.ne_of_gt V1_a7.out.lt
         have S_a7 := Lib.hid hr1
         have T_a7 := Lib.hid hr2
         have V2_a7 := Lib.hid (V2_a6.out.below' hB)
         have k0 := V2_a7.out.cell 0 rfl
         have k1 := V2_a7.out.cell 1 rfl
         have k2 := V2_a7.out.cell 2 rfl
         have g0 := V2_a7.out.thaw 0
         have g1 := V2_a7.out.thaw 1
         have g2 := V2_a7.out.thaw 2
         clear hr1 hr2
         clear hB))
  go_wp2_with fail
  have v3 : Vr (((a7.setCell ⟨gW2, 0, none⟩ (.bool b7)).setCell ⟨gW2, 1, none⟩ (.slice A7 x7.length c7)).setCell ⟨gW2, 2, none⟩ (.slice B7 y7.length d7)) gW2 29 #[.bool b7, .slice A7 x7.length c7, .slice B7 y7.length d7] := (((V2_a7.out.set 0 _).set 1 _).set 2 _)
  have r0 := (S_a7.out).apart (V2_a7.out) (nd_rat _ _ _ _ _ _ _) 0 (.bool b7)
  have r1 := (r0).apart ((V2_a7.out).set 0 (.bool b7)) (nd_rat _ _ _ _ _ _ _) 1 (.slice A7 x7.length c7)
  have r2 := (r1).apart (((V2_a7.out).set 0 (.bool b7)).set 1 (.slice A7 x7.length c7)) (nd_rat _ _ _ _ _ _ _) 2 (.slice B7 y7.length d7)
  have s0 := (T_a7.out).apart (V2_a7.out) (nd_rat _ _ _ _ _ _ _) 0 (.bool b7)
  have s1 := (s0).apart ((V2_a7.out).set 0 (.bool b7)) (nd_rat _ _ _ _ _ _ _) 1 (.slice A7 x7.length c7)
  have s2 := (s1).apart (((V2_a7.out).set 0 (.bool b7)).set 1 (.slice A7 x7.length c7)) (nd_rat _ _ _ _ _ _ _) 2 (.slice B7 y7.length d7)
  refine bodyPost_ret (v := .agg #[.bool b7, .slice A7 x7.length c7, .slice B7 y7.length d7]) (by simp [results, Try.results32, go_sem, v3.cell 0 rfl, v3.cell 1 rfl, v3.cell 2 rfl]) rfl ?_
  have hqm : qv b3 z3 y6 = qv p xs ys * qv q us vs := by
    have h1 := qd_pos HY.out.2
    have h2 := qd_pos HW.out.2
    have e1 : zv b3 z3 = qn p xs ys * qn q us vs := by rw [HB3.out, HZ3.out, zv_norm, HB1.out, HZ1.out, HB2.out, HZ2.out, zv_norm, zv_norm]
    rw [qv_parts HY.out.2, qv_parts HW.out.2, Rat.mkRat_mul_mkRat]
    unfold qv
    rw [e1, HVM.out]
    congr 1
    have h3 := Int.mul_nonneg (Int.le_of_lt h1) (Int.le_of_lt h2)
    have h4 : (((qd ys).toNat * (qd vs).toNat : Nat) : Int) = qd ys * qd vs := by rw [Int.natCast_mul, Int.toNat_of_nonneg (by omega), Int.toNat_of_nonneg (by omega)]
    omega
  exact ⟨b7, A7, c7, x7, B7, d7, y7, rfl, by rw [← hqm]; exact HQ1, by rw [← hqm]; exact HQ2, by rw [← hqm]; exact HQ3, r2, s2, (below_set (below_set (below_set B_a7.out hgeW2 _) hgeW2 _) hgeW2 _)⟩
theorem mul_small (p q : Rat) : (p * q).num.natAbs ≤ p.num.natAbs * q.num.natAbs ∧ (p * q).den ≤ p.den * q.den := by
  have h := mk_small (n := p.num * q.num) (d := p.den * q.den) (Nat.mul_ne_zero p.den_nz q.den_nz)
  have e : mkRat (p.num * q.num) (p.den * q.den) = p * q := by
    rw [← Rat.mkRat_mul_mkRat, Rat.mkRat_self, Rat.mkRat_self]
  rw [e, Int.natAbs_mul] at h
  exact h
theorem nat_len {n : Nat} {x : List Int} {k : Nat} (hx : Lim x) (h : n ≤ (V x).toNat) (hk : x.length ≤ k) : (limbs n).length ≤ k := by
  refine limbs_len ?_
  have h1 := V_lt hx
  have h2 := V_nonneg hx
  have h3 := pw_le hk
  omega
/-- How long the parts of a fraction's lowest terms are. -/
theorem qlen {b : Bool} {xs ys : List Int} (hx : Lim xs) (hy : Lim ys) : (limbs (qv b xs ys).num.natAbs).length ≤ xs.length ∧ (limbs (qv b xs ys).den).length ≤ ys.length + 1 := by
  have h0 := qd_pos hy
  have h := mk_small (n := qn b xs ys) (d := (qd ys).toNat) (by omega)
  rw [← qv_parts hy] at h
  constructor
  · refine Nat.le_trans ?_ (qn_len (b := b) (ys := ys) hx)
    refine limbs_len (Int.lt_of_le_of_lt ?_ (limbs_lt (qn b xs ys).natAbs))
    omega
  · refine Nat.le_trans ?_ (qd_len hy)
    refine limbs_len (Int.lt_of_le_of_lt ?_ (limbs_lt (qd ys).toNat))
    omega
theorem nat_mul_len (a b : Nat) : (limbs (a * b)).length ≤ (limbs a).length + (limbs b).length := by
  have h := mul_len (limbs_nf a).1 (limbs_nf b).1
  rwa [V_limbs, V_limbs, Int.toNat_natCast, Int.toNat_natCast] at h
theorem nat_le_len {a b : Nat} (h : a ≤ b) : (limbs a).length ≤ (limbs b).length := limbs_len (Int.lt_of_le_of_lt (Int.ofNat_le.2 h) (limbs_lt b))
theorem qlen_mul {b q : Bool} {xs ys us vs : List Int} (hx : Lim xs) (hy : Lim ys) (hu : Lim us) (hv : Lim vs) : (limbs (qv b xs ys * qv q us vs).num.natAbs).length ≤ xs.length + us.length ∧ (limbs (qv b xs ys * qv q us vs).den).length ≤ ys.length + vs.length + 2 := by
  have h1 := qlen (b := b) hx hy
  have h2 := qlen (b := q) hu hv
  have h := mul_small (qv b xs ys) (qv q us vs)
  have h3 := nat_le_len h.1
  have h4 := nat_le_len h.2
  have h5 := nat_mul_len (qv b xs ys).num.natAbs (qv q us vs).num.natAbs
  have h6 := nat_mul_len (qv b xs ys).den (qv q us vs).den
  omega
set_option maxHeartbeats 3200000 in
theorem rdchance_ok (w : World) (s : Int) (b : Bool) (A B : Option Addr) (c d : Nat) (xs ys : List Int) (hx : RN w A c xs) (hy : RN w B d ys) (hsx : xs.length ≤ 35184372088780) (hsy : ys.length ≤ 35184372088780) :
    Calls Try.prog 13 #[.int .u64 s, .agg #[.bool b, .slice A xs.length c, .slice B ys.length d]] w (fun e w' => e = .returned (.tuple #[.bool (chance s (qv b xs ys)), .int .u64 (lcg s)]) ∧ Below w.heap.size w w') := by
  have HX := Lib.hid hx
  have HY := Lib.hid hy
  clear hx hy
  go_enter Try.func13, Try.ntmps13
  go_wp2_with fail
  obtain ⟨W, hW⟩ : ∃ W, W = (w.alloc (.cells #[.bool b, .slice A xs.length c, .slice B ys.length d] 29)) := ⟨_, rfl⟩
  rw [← hW]
  have hBW : Below w.heap.size w W := by rw [hW]; exact ((Below.refl _ _).alloc (Nat.le_refl _) _)
  have vW0 : Vr W (w.heap.size) 29 #[.bool b, .slice A xs.length c, .slice B ys.length d] := by rw [hW]; exact (Vr.new' _ _ _ (by simp only [size_alloc]))
  clear hW
  have HVW0 := Lib.hid vW0
  have HBW := Lib.hid hBW
  clear hBW vW0
  refine (rdnext_ok W s).mono ?_
  rintro e W ⟨rfl, rfl⟩
  have hb := hi_bound s
  obtain ⟨l, hl⟩ : ∃ l, hi s = l := ⟨_, rfl⟩
  have HL := Lib.hid hl
  rw [hl] at hb
  obtain ⟨hb0, hb1⟩ := hb
  rw [hl]
  clear hl
  go_wp2_with fail
  refine (rqof_ok W l 1 (by omega) (by omega) (by omega) (by omega)).mono ?_
  rintro e w2 ⟨b1, A1, c1, x1, B1, d1, y1, rfl, HQ11, HQ21, HQ31, hr1, hr2, hB⟩
  have hml1 := mk_len (n := l) (m := 1) (by decide) (by omega) (by decide)
  have hqv1 : qv b1 x1 y1 = mkRat l 1 := by rw [HQ11.out, HQ21.out, HQ31.out]; exact qv_norm _
  have hlx1 : x1.length ≤ 2 := by rw [HQ21.out]; exact hml1.1
  have hly1 : y1.length ≤ 2 := by rw [HQ31.out]; exact hml1.2
  have HQV1 := Lib.hid hqv1
  have HR11 := Lib.hid hr1
  have HR21 := Lib.hid hr2
  have HV1 := Lib.hid (HVW0.out.below' hB)
  have HB1' := Lib.hid (HBW.out.trans (hB.mono HBW.out.size))
  clear hB hr1 hr2 hml1 hqv1
  go_upto_region 3 with fail
  obtain ⟨T, hT⟩ : ∃ T, T = (w2.alloc (.cells #[.bool b1, .slice A1 x1.length c1, .slice B1 y1.length d1] 29)) := ⟨_, rfl⟩
  rw [← hT]
  have hBT : Below w2.heap.size w2 T := by rw [hT]; exact ((Below.refl _ _).alloc (Nat.le_refl _) _)
  have vT0 : Vr T (w2.heap.size) 29 #[.bool b1, .slice A1 x1.length c1, .slice B1 y1.length d1] := by rw [hT]; exact (Vr.new' _ _ _ (by simp only [size_alloc]))
  clear hT
  have HVT0 := Lib.hid vT0
  have HBT := Lib.hid hBT
  clear hBT vT0
  have HV2 := Lib.hid (HV1.out.below' HBT.out)
  have HB2' := Lib.hid (HB1'.out.trans (HBT.out.mono HB1'.out.size))
  have HR1a := Lib.hid (HR11.out.below HBT.out)
  have HR2a := Lib.hid (HR21.out.below HBT.out)
  go_wp2_with fail
  refine (rqof_ok T 4294967296 1 (by omega) (by omega) (by omega) (by omega)).mono ?_
  rintro e w3 ⟨b2, A2, c2, x2, B2, d2, y2, rfl, HQ12, HQ22, HQ32, hr1, hr2, hB⟩
  have hml2 := mk_len (n := 4294967296) (m := 1) (by decide) (by decide) (by decide)
  have hqv2 : qv b2 x2 y2 = mkRat 4294967296 1 := by rw [HQ12.out, HQ22.out, HQ32.out]; exact qv_norm _
  have hlx2 : x2.length ≤ 2 := by rw [HQ22.out]; exact hml2.1
  have hly2 : y2.length ≤ 2 := by rw [HQ32.out]; exact hml2.2
  have HQV2 := Lib.hid hqv2
  have HR12 := Lib.hid hr1
  have HR22 := Lib.hid hr2
  have HV3 := Lib.hid (HV2.out.below' hB)
  have HT3 := Lib.hid (HVT0.out.below' hB)
  have HB3' := Lib.hid (HB2'.out.trans (hB.mono HB2'.out.size))
  have HR1b := Lib.hid (HR1a.out.below hB)
  have HR2b := Lib.hid (HR2a.out.below hB)
  clear hB hr1 hr2 hml2 hqv2
  go_upto_region 4 with fail
  obtain ⟨Z, hZ⟩ : ∃ Z, Z = (w3.alloc (.cells #[.bool b2, .slice A2 x2.length c2, .slice B2 y2.length d2] 29)) := ⟨_, rfl⟩
  rw [← hZ]
  have hBZ : Below w3.heap.size w3 Z := by rw [hZ]; exact ((Below.refl _ _).alloc (Nat.le_refl _) _)
  have vZ0 : Vr Z (w3.heap.size) 29 #[.bool b2, .slice A2 x2.length c2, .slice B2 y2.length d2] := by rw [hZ]; exact (Vr.new' _ _ _ (by simp only [size_alloc]))
  clear hZ
  have HVZ0 := Lib.hid vZ0
  have HBZ := Lib.hid hBZ
  clear hBZ vZ0
  have HV4 := Lib.hid (HV3.out.below' HBZ.out)
  have HT4 := Lib.hid (HT3.out.below' HBZ.out)
  have HB4' := Lib.hid (HB3'.out.trans (HBZ.out.mono HB3'.out.size))
  have HR1c := Lib.hid (HR1b.out.below HBZ.out)
  have HR2c := Lib.hid (HR2b.out.below HBZ.out)
  have HS1c := Lib.hid (HR12.out.below HBZ.out)
  have HS2c := Lib.hid (HR22.out.below HBZ.out)
  have oc0 := (HV4.out).cell 0 rfl
  have oc1 := (HV4.out).cell 1 rfl
  have oc2 := (HV4.out).cell 2 rfl
  have qc0 := (HT4.out).cell 0 rfl
  have qc1 := (HT4.out).cell 1 rfl
  have qc2 := (HT4.out).cell 2 rfl
  have rc0 := (HVZ0.out).cell 0 rfl
  have rc1 := (HVZ0.out).cell 1 rfl
  have rc2 := (HVZ0.out).cell 2 rfl
  go_region_held3 (fun w' => w'.cell? ⟨w.heap.size, 0, none⟩ = some (.bool b) ∧ w'.cell? ⟨w.heap.size, 1, none⟩ = some (.slice A xs.length c) ∧ w'.cell? ⟨w.heap.size, 2, none⟩ = some (.slice B ys.length d) ∧ w'.cell? ⟨w2.heap.size, 0, none⟩ = some (.bool b1) ∧ w'.cell? ⟨w2.heap.size, 1, none⟩ = some (.slice A1 x1.length c1) ∧ w'.cell? ⟨w2.heap.size, 2, none⟩ = some (.slice B1 y1.length d1) ∧ w'.cell? ⟨w3.heap.size, 0, none⟩ = some (.bool b2) ∧ w'.cell? ⟨w3.heap.size, 1, none⟩ = some (.slice A2 x2.length c2) ∧ w'.cell? ⟨w3.heap.size, 2, none⟩ = some (.slice B2 y2.length d2)) (go_keep)
    (first
      | (go_at_call 32
         refine (rqmul_ok Z.drew b b2 A B A2 B2 c d c2 d2 xs ys x2 y2 (HX.out.below HB4'.out.drew) (HY.out.below HB4'.out.drew) (HS1c.out.below (Below.refl _ _).drew) (HS2c.out.below (Below.refl _ _).drew) (by omega) (by omega) (by omega) (by omega) (by omega) (by omega)).mono ?_
         rintro e w5 ⟨b5, A5, c5, x5, B5, d5, y5, rfl, HQ15, HQ25, HQ35, hr1, hr2, hB⟩
         have HV4mc0 := (HV4.out.drew.below' hB).cell 0 rfl
         have HV4mc1 := (HV4.out.drew.below' hB).cell 1 rfl
         have HV4mc2 := (HV4.out.drew.below' hB).cell 2 rfl
         have HT4mc0 := (HT4.out.drew.below' hB).cell 0 rfl
         have HT4mc1 := (HT4.out.drew.below' hB).cell 1 rfl
         have HT4mc2 := (HT4.out.drew.below' hB).cell 2 rfl
         have HVZ0mc0 := (HVZ0.out.drew.below' hB).cell 0 rfl
         have HVZ0mc1 := (HVZ0.out.drew.below' hB).cell 1 rfl
         have HVZ0mc2 := (HVZ0.out.drew.below' hB).cell 2 rfl
         have HV5 := Lib.hid (HV4.out.drew.below' hB)
         have HT5 := Lib.hid (HT4.out.drew.below' hB)
         have HZ5 := Lib.hid (HVZ0.out.drew.below' hB)
         have HB5 := Lib.hid (HB4'.out.drew.trans (hB.mono HB4'.out.drew.size))
         have HR15 := Lib.hid ((HR1c.out.below (Below.refl _ _).drew).below hB)
         have HR25 := Lib.hid ((HR2c.out.below (Below.refl _ _).drew).below hB)
         have HP1 := Lib.hid hr1
         have HP2 := Lib.hid hr2
         have HQV5 : Hid (qv b5 x5 y5 = qv b xs ys * mkRat 4294967296 1) := by show _ = _; rw [HQ15.out, HQ25.out, HQ35.out, ← HQV2.out]; exact qv_norm _
         have hl5 := qlen_mul (b := b) (q := b2) HX.out.2 HY.out.2 HS1c.out.2 HS2c.out.2
         rw [HQV2.out] at hl5
         have hlx5 : x5.length ≤ xs.length + 2 := by rw [HQ25.out, HQV2.out]; exact Nat.le_trans hl5.1 (by omega)
         have hly5 : y5.length ≤ ys.length + 4 := by rw [HQ35.out, HQV2.out]; exact Nat.le_trans hl5.2 (by omega)
         have HLX5 := Lib.hid hlx5
         have HLY5 := Lib.hid hly5
         clear hB hr1 hr2 hl5 hlx5 hly5)
      | (go_at_call 31
         refine (rqcmp_ok w5 b1 b5 A1 B1 A5 B5 c1 d1 c5 d5 x1 y1 x5 y5 HR15.out HR25.out HP1.out HP2.out (by omega) (by omega) (by have := HLX5.out; omega) (by have := HLY5.out; omega)).mono ?_
         rw [HQV5.out, HQV1.out]
         rintro e w6 ⟨rfl, hB⟩
         have HV5nc0 := (HV5.out.below' hB).cell 0 rfl
         have HV5nc1 := (HV5.out.below' hB).cell 1 rfl
         have HV5nc2 := (HV5.out.below' hB).cell 2 rfl
         have HT5nc0 := (HT5.out.below' hB).cell 0 rfl
         have HT5nc1 := (HT5.out.below' hB).cell 1 rfl
         have HT5nc2 := (HT5.out.below' hB).cell 2 rfl
         have HZ5nc0 := (HZ5.out.below' hB).cell 0 rfl
         have HZ5nc1 := (HZ5.out.below' hB).cell 1 rfl
         have HZ5nc2 := (HZ5.out.below' hB).cell 2 rfl
         have HB6 := Lib.hid (HB5.out.trans (hB.mono HB5.out.size))
         clear hB))
  have hd : decide (cmpQ (mkRat l 1) (qv b xs ys * mkRat 4294967296 1) < 0) = chance s (qv b xs ys) := by
    unfold chance
    rw [HL.out]
    refine decide_eq_decide.2 (cmpQ_lt.trans ?_)
    have e1 : mkRat l 1 = mkRat l 4294967296 * mkRat 4294967296 1 := by
      rw [Rat.mkRat_mul_mkRat, Rat.mkRat_eq_iff (by decide) (by decide)]
      simp
    have e2 : (0 : Rat) < mkRat 4294967296 1 := by
      have h := mk_lt (n := 0) (n' := 4294967296) (d := 1) (d' := 1) (by decide) (by decide)
      exact h.2 (by decide)
    rw [e1]
    exact Rat.mul_lt_mul_right e2
  have HD := Lib.hid hd
  clear hd
  go_wp2_with fail
  go_ret2
  exact ⟨by rw [← HD.out]; rfl, HB6.out⟩

end Go.Proofs.Ytcjpobnkapfccaa.M
