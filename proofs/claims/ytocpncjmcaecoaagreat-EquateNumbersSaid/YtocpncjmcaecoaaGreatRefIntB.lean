/- Integers of the reference: sums, differences, division by a number above 0, small integers read back. -/
import Derived.Test.YtocpncjmcaecoaaGreatMo
namespace Go.Proofs.YtocpncjmcaecoaaGreat.M
set_option maxRecDepth 10000
open Go.RowKit
set_option linter.unusedVariables false
set_option linter.unusedSimpArgs false
set_option maxHeartbeats 3200000 in
theorem riadd_ok (w : World) (b1 b2 : Bool) (A B : Option Addr) (c d : Nat) (xs ys : List Int) (hx : RN w A c xs) (hy : RN w B d ys) (hsx : xs.length ≤ 35184372088830) (hsy : ys.length ≤ 35184372088830) :
    Calls Tryz.prog 70 #[.agg #[.bool b1, .slice A xs.length c], .agg #[.bool b2, .slice B ys.length d]] w (RetZI (zv b1 xs + zv b2 ys) w) := by
  have HX := Lib.hid hx
  have HY := Lib.hid hy
  clear hx hy
  go_enter Tryz.func70, Tryz.ntmps70
  go_upto_region 1 with fail
  obtain ⟨W, hW⟩ : ∃ W, W = (((w.alloc (.cells #[.bool b1, .slice A xs.length c] 26)).alloc (.cells #[.bool b2, .slice B ys.length d] 26)).alloc (.cells #[.bool false, .slice none 0 0] 26)) := ⟨_, rfl⟩
  rw [← hW]
  have hBW : Below w.heap.size w W := by rw [hW]; exact ((((Below.refl _ _).alloc (Nat.le_refl _) _).alloc (by simp only [size_alloc]; omega) _).alloc (by simp only [size_alloc]; omega) _)
  have vW0 : Vr W (w.heap.size) 26 #[.bool b1, .slice A xs.length c] := by rw [hW]; exact (((Vr.new' _ _ _ (by simp only [size_alloc])).alloc _).alloc _)
  have vW1 : Vr W (w.heap.size + 1) 26 #[.bool b2, .slice B ys.length d] := by rw [hW]; exact ((Vr.new' _ _ _ (by simp only [size_alloc])).alloc _)
  have vW2 : Vr W (w.heap.size + 1 + 1) 26 #[.bool false, .slice none 0 0] := by rw [hW]; exact (Vr.new' _ _ _ (by simp only [size_alloc]))
  clear hW
  obtain ⟨gW2, hgW2⟩ : ∃ g, w.heap.size + 1 + 1 = g := ⟨_, rfl⟩
  rw [hgW2] at vW2 ⊢
  obtain ⟨gW1, hgW1⟩ : ∃ g, w.heap.size + 1 = g := ⟨_, rfl⟩
  rw [hgW1] at vW1 ⊢
  have hneW01 : w.heap.size ≠ gW1 := by omega
  have hneW02 : w.heap.size ≠ gW2 := by omega
  have hgeW1 : w.heap.size ≤ gW1 := by omega
  have hneW10 : gW1 ≠ w.heap.size := by omega
  have hneW12 : gW1 ≠ gW2 := by omega
  have hgeW2 : w.heap.size ≤ gW2 := by omega
  have hneW20 : gW2 ≠ w.heap.size := by omega
  have hneW21 : gW2 ≠ gW1 := by omega
  have HVW0 := Lib.hid vW0
  have HVW1 := Lib.hid vW1
  have HVW2 := Lib.hid vW2
  have HBW := Lib.hid hBW
  clear hBW vW0 vW1 vW2 hgW1 hgW2
  have V0_W := HVW0
  have V1_W := HVW1
  have V2_W := HVW2
  have B_W := HBW
  have oc0 := (HVW0.out).cell 0 rfl
  have oc1 := (HVW0.out).cell 1 rfl
  have pc0 := (HVW1.out).cell 0 rfl
  have pc1 := (HVW1.out).cell 1 rfl
  by_cases hbb : b1 = b2
  · have he : (b1 == b2) = true := by simpa using hbb
    have HBB := Lib.hid hbb
    clear hbb
    go_wp2_with fail
    have V0_Wc0 := (V0_W.out).cell 0 rfl
    have V0_Wc1 := (V0_W.out).cell 1 rfl
    have V1_Wc0 := (V1_W.out).cell 0 rfl
    have V1_Wc1 := (V1_W.out).cell 1 rfl
    have V0_Wd := Lib.hid V0_W.out.drew
    have V1_Wd := Lib.hid V1_W.out.drew
    have V2_Wd := Lib.hid V2_W.out.drew
    have B_Wd := Lib.hid B_W.out.drew
    first
    | go_region_held3 (fun w' => w'.cell? ⟨w.heap.size, 0, none⟩ = some (.bool b1) ∧ w'.cell? ⟨w.heap.size, 1, none⟩ = some (.slice A xs.length c) ∧ w'.cell? ⟨gW1, 0, none⟩ = some (.bool b2) ∧ w'.cell? ⟨gW1, 1, none⟩ = some (.slice B ys.length d)) (go_keep)
       (first
        | (go_at_call 99
           refine (radd_ok W.drew A B c d xs ys (HX.out.below B_Wd.out) (HY.out.below B_Wd.out) (by omega) (by omega)).mono ?_
           rintro e_ w1 ⟨A1, c1, z1, rfl, HZ1, hz1, hB⟩
           have V0_w1 := Lib.hid (Vr.below' V0_Wd.out hB)
           have V0_w1c0 := (V0_w1.out).cell 0 rfl
           have V0_w1c1 := (V0_w1.out).cell 1 rfl
           have V1_w1 := Lib.hid (Vr.below' V1_Wd.out hB)
           have V1_w1c0 := (V1_w1.out).cell 0 rfl
           have V1_w1c1 := (V1_w1.out).cell 1 rfl
           have V2_w1 := Lib.hid (Vr.below' V2_Wd.out hB)
           have V2_w1c0 := (V2_w1.out).cell 0 rfl
           have V2_w1c1 := (V2_w1.out).cell 1 rfl
           have V2_w1f0 := (V2_w1.out).thaw 0
           have V2_w1f1 := (V2_w1.out).thaw 1
           have B_w1 := Lib.hid (below_on B_Wd.out hB)
           have Z_w1 := Lib.hid hz1
           have hl1 : z1.length ≤ 70368744177664 := by rw [HZ1.out]; exact Nat.le_trans (add_len HX.out.2 HY.out.2) (by omega)
           have HL1 := Lib.hid hl1
           clear hl1
           clear hB hz1)
        | (go_at_call 65
           refine (rimake_ok w1 b1 A1 c1 z1 Z_w1.out HL1.out).mono ?_
           rintro e_ w2 ⟨b2x, A2, c2, z2, rfl, HB2, HZ2, hz2, hB⟩
           have V0_w2 := Lib.hid (Vr.below' V0_w1.out hB)
           have V0_w2c0 := (V0_w2.out).cell 0 rfl
           have V0_w2c1 := (V0_w2.out).cell 1 rfl
           have V1_w2 := Lib.hid (Vr.below' V1_w1.out hB)
           have V1_w2c0 := (V1_w2.out).cell 0 rfl
           have V1_w2c1 := (V1_w2.out).cell 1 rfl
           have V2_w2 := Lib.hid (Vr.below' V2_w1.out hB)
           have V2_w2c0 := (V2_w2.out).cell 0 rfl
           have V2_w2c1 := (V2_w2.out).cell 1 rfl
           have V2_w2f0 := (V2_w2.out).thaw 0
           have V2_w2f1 := (V2_w2.out).thaw 1
           have Z_w2 := Lib.hid (RN.below Z_w1.out hB)
           have B_w2 := Lib.hid (below_on B_w1.out hB)
           have Y_w2 := Lib.hid hz2
           clear hB hz2))
    | fail
    go_wp2_with fail
    have ez : zv b1 z1 = zv b1 xs + zv b2 ys := by
      rw [← HBB.out]
      have h1 := V_nonneg HX.out.2
      have h2 := V_nonneg HY.out.2
      have e : V z1 = V xs + V ys := by rw [HZ1.out, V_limbs]; omega
      unfold zv
      rw [e]
      split <;> omega
    have Y_y1 := (Y_w2.out).apart (V2_w2.out) (nd_int _ _ _ _) 0 (.bool b2x)
    have V2_y1 := (V2_w2.out).set 0 (.bool b2x)
    have Y_y2 := (Y_y1).apart (V2_y1) (nd_int _ _ _ _) 1 (.slice A2 z2.length c2)
    have V2_y2 := (V2_y1).set 1 (.slice A2 z2.length c2)
    have V2_yy : Vr ((w2.setCell ⟨gW2, 0, none⟩ (.bool b2x)).setCell ⟨gW2, 1, none⟩ (.slice A2 z2.length c2)) gW2 26 #[.bool b2x, .slice A2 z2.length c2] := V2_y2
    refine bodyPost_ret (v := .agg #[.bool b2x, .slice A2 z2.length c2]) (by simp [results, Tryz.results70, go_sem, V2_yy.cell 0 rfl, V2_yy.cell 1 rfl]) rfl ?_
    exact ⟨b2x, A2, c2, z2, rfl, by rw [← ez]; exact HB2, by rw [← ez]; exact HZ2, Y_y2, (below_set (below_set B_w2.out hgeW2 _) hgeW2 _)⟩
  · have hne : (b1 == b2) = false := by simpa using hbb
    by_cases hle : V ys ≤ V xs
    · have HLE := Lib.hid hle
      clear hle hbb
      go_wp2_with fail
      refine (rsub_yes W A B c d xs ys (HX.out.below B_W.out) (HY.out.below B_W.out) HLE.out (by omega)).mono ?_
      rintro e_ w3 ⟨A3, c3, z3, rfl, HZ3, hz3, hB⟩
      have V0_w3 := Lib.hid (Vr.below' V0_W.out hB)
      have V0_w3c0 := (V0_w3.out).cell 0 rfl
      have V0_w3c1 := (V0_w3.out).cell 1 rfl
      have V1_w3 := Lib.hid (Vr.below' V1_W.out hB)
      have V1_w3c0 := (V1_w3.out).cell 0 rfl
      have V1_w3c1 := (V1_w3.out).cell 1 rfl
      have V2_w3 := Lib.hid (Vr.below' V2_W.out hB)
      have B_w3 := Lib.hid (below_on B_W.out hB)
      have R_w3 := Lib.hid hz3
      have hl3 : z3.length ≤ 70368744177664 := by rw [HZ3.out]; exact Nat.le_trans (limbs_le_len HX.out.2 (Nat.sub_le _ _)) (by omega)
      clear hB hz3
      go_wp2_with fail
      refine (rimake_ok w3 b1 A3 c3 z3 R_w3.out hl3).mono ?_
      rintro e_ w4 ⟨b4, A4, c4, z4, rfl, HB4, HZ4, hz4, hB⟩
      have V2_w4 := Lib.hid (Vr.below' V2_w3.out hB)
      have V2_w4c0 := (V2_w4.out).cell 0 rfl
      have V2_w4c1 := (V2_w4.out).cell 1 rfl
      have V2_w4f0 := (V2_w4.out).thaw 0
      have V2_w4f1 := (V2_w4.out).thaw 1
      have B_w4 := Lib.hid (below_on B_w3.out hB)
      have R_w4 := Lib.hid hz4
      clear hB hz4
      go_wp2_with fail
      have ez : zv b1 z3 = zv b1 xs + zv b2 ys := by
        have h1 := V_nonneg HX.out.2
        have h2 := V_nonneg HY.out.2
        have h3 := HLE.out
        have e : V z3 = V xs - V ys := by rw [HZ3.out, V_limbs]; omega
        have h4 : b2 = !b1 := by cases b1 <;> cases b2 <;> simp_all
        rw [h4]
        cases b1
        · show V z3 = V xs + -V ys
          omega
        · show -V z3 = -V xs + V ys
          omega
      have R_y1 := (R_w4.out).apart (V2_w4.out) (nd_int _ _ _ _) 0 (.bool b4)
      have V2_y1 := (V2_w4.out).set 0 (.bool b4)
      have R_y2 := (R_y1).apart (V2_y1) (nd_int _ _ _ _) 1 (.slice A4 z4.length c4)
      have V2_y2 := (V2_y1).set 1 (.slice A4 z4.length c4)
      have V2_yy : Vr ((w4.setCell ⟨gW2, 0, none⟩ (.bool b4)).setCell ⟨gW2, 1, none⟩ (.slice A4 z4.length c4)) gW2 26 #[.bool b4, .slice A4 z4.length c4] := V2_y2
      refine bodyPost_ret (v := .agg #[.bool b4, .slice A4 z4.length c4]) (by simp [results, Tryz.results70, go_sem, V2_yy.cell 0 rfl, V2_yy.cell 1 rfl]) rfl ?_
      exact ⟨b4, A4, c4, z4, rfl, by rw [← ez]; exact HB4, by rw [← ez]; exact HZ4, R_y2, (below_set (below_set B_w4.out hgeW2 _) hgeW2 _)⟩
    · have HLT : Hid (V xs < V ys) := by show _ < _; omega
      clear hle hbb
      go_wp2_with fail
      refine (rsub_no W A B c d xs ys (HX.out.below B_W.out) (HY.out.below B_W.out) HLT.out).mono ?_
      rintro e_ w1 ⟨A1, c1, z1, rfl, HZ1, hz1, hB⟩
      have V0_w1 := Lib.hid (Vr.below' V0_W.out hB)
      have V0_w1c0 := (V0_w1.out).cell 0 rfl
      have V0_w1c1 := (V0_w1.out).cell 1 rfl
      have V1_w1 := Lib.hid (Vr.below' V1_W.out hB)
      have V1_w1c0 := (V1_w1.out).cell 0 rfl
      have V1_w1c1 := (V1_w1.out).cell 1 rfl
      have V2_w1 := Lib.hid (Vr.below' V2_W.out hB)
      have B_w1 := Lib.hid (below_on B_W.out hB)
      clear hB hz1
      go_wp2_with fail
      refine (rsub_yes w1 B A d c ys xs (HY.out.below B_w1.out) (HX.out.below B_w1.out) (Int.le_of_lt HLT.out) (by omega)).mono ?_
      rintro e_ w3 ⟨A3, c3, z3, rfl, HZ3, hz3, hB⟩
      have V0_w3 := Lib.hid (Vr.below' V0_w1.out hB)
      have V0_w3c0 := (V0_w3.out).cell 0 rfl
      have V0_w3c1 := (V0_w3.out).cell 1 rfl
      have V1_w3 := Lib.hid (Vr.below' V1_w1.out hB)
      have V1_w3c0 := (V1_w3.out).cell 0 rfl
      have V1_w3c1 := (V1_w3.out).cell 1 rfl
      have V2_w3 := Lib.hid (Vr.below' V2_w1.out hB)
      have B_w3 := Lib.hid (below_on B_w1.out hB)
      have R_w3 := Lib.hid hz3
      have hl3 : z3.length ≤ 70368744177664 := by rw [HZ3.out]; exact Nat.le_trans (limbs_le_len HY.out.2 (Nat.sub_le _ _)) (by omega)
      clear hB hz3
      go_wp2_with fail
      refine (rimake_ok w3 b2 A3 c3 z3 R_w3.out hl3).mono ?_
      rintro e_ w4 ⟨b4, A4, c4, z4, rfl, HB4, HZ4, hz4, hB⟩
      have V2_w4 := Lib.hid (Vr.below' V2_w3.out hB)
      have V2_w4c0 := (V2_w4.out).cell 0 rfl
      have V2_w4c1 := (V2_w4.out).cell 1 rfl
      have V2_w4f0 := (V2_w4.out).thaw 0
      have V2_w4f1 := (V2_w4.out).thaw 1
      have B_w4 := Lib.hid (below_on B_w3.out hB)
      have R_w4 := Lib.hid hz4
      clear hB hz4
      go_wp2_with fail
      have ez : zv b2 z3 = zv b1 xs + zv b2 ys := by
        have h1 := V_nonneg HX.out.2
        have h2 := V_nonneg HY.out.2
        have h3 := HLT.out
        have e : V z3 = V ys - V xs := by rw [HZ3.out, V_limbs]; omega
        have h4 : b1 = !b2 := by cases b1 <;> cases b2 <;> simp_all
        rw [h4]
        cases b2
        · show V z3 = -V xs + V ys
          omega
        · show -V z3 = V xs + -V ys
          omega
      have R_y1 := (R_w4.out).apart (V2_w4.out) (nd_int _ _ _ _) 0 (.bool b4)
      have V2_y1 := (V2_w4.out).set 0 (.bool b4)
      have R_y2 := (R_y1).apart (V2_y1) (nd_int _ _ _ _) 1 (.slice A4 z4.length c4)
      have V2_y2 := (V2_y1).set 1 (.slice A4 z4.length c4)
      have V2_yy : Vr ((w4.setCell ⟨gW2, 0, none⟩ (.bool b4)).setCell ⟨gW2, 1, none⟩ (.slice A4 z4.length c4)) gW2 26 #[.bool b4, .slice A4 z4.length c4] := V2_y2
      refine bodyPost_ret (v := .agg #[.bool b4, .slice A4 z4.length c4]) (by simp [results, Tryz.results70, go_sem, V2_yy.cell 0 rfl, V2_yy.cell 1 rfl]) rfl ?_
      exact ⟨b4, A4, c4, z4, rfl, by rw [← ez]; exact HB4, by rw [← ez]; exact HZ4, R_y2, (below_set (below_set B_w4.out hgeW2 _) hgeW2 _)⟩
set_option maxHeartbeats 1600000 in
theorem risub_ok (w : World) (b1 b2 : Bool) (A B : Option Addr) (c d : Nat) (xs ys : List Int) (hx : RN w A c xs) (hy : RN w B d ys) (hsx : xs.length ≤ 35184372088830) (hsy : ys.length ≤ 35184372088830) :
    Calls Tryz.prog 127 #[.agg #[.bool b1, .slice A xs.length c], .agg #[.bool b2, .slice B ys.length d]] w (RetZI (zv b1 xs - zv b2 ys) w) := by
  have HX := Lib.hid hx
  have HY := Lib.hid hy
  clear hx hy
  go_enter Tryz.func127, Tryz.ntmps127
  go_upto_region 1 with fail
  obtain ⟨W, hW⟩ : ∃ W, W = (((w.alloc (.cells #[.bool b1, .slice A xs.length c] 26)).alloc (.cells #[.bool b2, .slice B ys.length d] 26)).alloc (.cells #[.bool false, .slice none 0 0] 26)) := ⟨_, rfl⟩
  rw [← hW]
  have H_W : Mo w W [(w.heap.size, 26, #[.bool b1, .slice A xs.length c]), (w.heap.size + 1, 26, #[.bool b2, .slice B ys.length d]), (w.heap.size + 1 + 1, 26, #[.bool false, .slice none 0 0])] [] := by
    rw [hW]
    have h := ((((Mo.start w).alloc (t := 26) (cs := #[.bool b1, .slice A xs.length c]) (nd_int _ _ _ _)).alloc (t := 26) (cs := #[.bool b2, .slice B ys.length d]) (nd_int _ _ _ _)).alloc (t := 26) (cs := #[.bool false, .slice none 0 0]) (nd_int _ _ _ _))
    simp only [size_alloc, List.nil_append, List.cons_append] at h
    exact h
  clear hW
  obtain ⟨gW2, hgW2⟩ : ∃ g, w.heap.size + 1 + 1 = g := ⟨_, rfl⟩
  rw [hgW2] at H_W ⊢
  clear hgW2
  obtain ⟨gW1, hgW1⟩ : ∃ g, w.heap.size + 1 = g := ⟨_, rfl⟩
  rw [hgW1] at H_W ⊢
  clear hgW1
  have neW01 : w.heap.size ≠ gW1 := H_W.apart 0 1 _ _ _ _ _ _ rfl rfl (by decide)
  have neW02 : w.heap.size ≠ gW2 := H_W.apart 0 2 _ _ _ _ _ _ rfl rfl (by decide)
  have neW10 : gW1 ≠ w.heap.size := H_W.apart 1 0 _ _ _ _ _ _ rfl rfl (by decide)
  have neW12 : gW1 ≠ gW2 := H_W.apart 1 2 _ _ _ _ _ _ rfl rfl (by decide)
  have neW20 : gW2 ≠ w.heap.size := H_W.apart 2 0 _ _ _ _ _ _ rfl rfl (by decide)
  have neW21 : gW2 ≠ gW1 := H_W.apart 2 1 _ _ _ _ _ _ rfl rfl (by decide)
  have H_W := Lib.hid H_W
  have k0Wc0 := ((H_W.out.var 0 rfl)).cell 0 rfl
  have k0Wc1 := ((H_W.out.var 0 rfl)).cell 1 rfl
  have k1Wc0 := ((H_W.out.var 1 rfl)).cell 0 rfl
  have k1Wc1 := ((H_W.out.var 1 rfl)).cell 1 rfl
  have H_Wd := Lib.hid H_W.out.drew
  first
  | go_region_held3 (fun w' => w'.cell? ⟨w.heap.size, 0, none⟩ = some (.bool b1) ∧ w'.cell? ⟨w.heap.size, 1, none⟩ = some (.slice A xs.length c) ∧ w'.cell? ⟨gW1, 0, none⟩ = some (.bool b2) ∧ w'.cell? ⟨gW1, 1, none⟩ = some (.slice B ys.length d)) (go_keep)
     (first
      | (go_at_call 98
         refine (rineg_ok W.drew b2 B d ys (HY.out.below H_Wd.out.below) (by omega)).mono ?_
         rintro e_ w1 ⟨b3, A3, c3, z3, rfl, HB3, HZ3, hz3, hB⟩
         have H_w1 := Lib.hid (Mo.num (Mo.call H_Wd.out hB) hz3)
         have k0w1c0 := ((H_w1.out.var 0 rfl)).cell 0 rfl
         have k0w1c1 := ((H_w1.out.var 0 rfl)).cell 1 rfl
         have k1w1c0 := ((H_w1.out.var 1 rfl)).cell 0 rfl
         have k1w1c1 := ((H_w1.out.var 1 rfl)).cell 1 rfl
         have HL3 : Hid (z3.length ≤ ys.length) := by show _ ≤ _; rw [HZ3.out, Int.natAbs_neg, zv_abs b2 HY.out.2]; exact limbs_le_len HY.out.2 (Nat.le_refl _)
         clear hB hz3)
      | (go_at_call 70
         refine (riadd_ok w1 b1 b3 A A3 c c3 xs z3 (HX.out.below H_w1.out.below) (H_w1.out.rn 0 rfl) hsx (by have := HL3.out; omega)).mono ?_
         rw [HB3.out, HZ3.out, zv_norm]
         rintro e_ w2 ⟨b4, A4, c4, z4, rfl, HB4, HZ4, hz4, hB⟩
         have H_w2 := Lib.hid (Mo.num (Mo.call H_w1.out hB) hz4)
         have k0w2c0 := ((H_w2.out.var 0 rfl)).cell 0 rfl
         have k0w2c1 := ((H_w2.out.var 0 rfl)).cell 1 rfl
         have k1w2c0 := ((H_w2.out.var 1 rfl)).cell 0 rfl
         have k1w2c1 := ((H_w2.out.var 1 rfl)).cell 1 rfl
         have k2w2c0 := ((H_w2.out.var 2 rfl)).cell 0 rfl
         have k2w2c1 := ((H_w2.out.var 2 rfl)).cell 1 rfl
         have k2w2f0 := ((H_w2.out.var 2 rfl)).thaw 0
         have k2w2f1 := ((H_w2.out.var 2 rfl)).thaw 1
         clear hB hz4))
  | fail
  go_wp2_with fail
  have hz1 := H_w2.out.set 2 (j := 0) (v := .bool b4) (cs' := #[.bool b4, .slice none 0 0]) rfl rfl (nd_int _ _ _ _)
  have hz2 := hz1.set 2 (j := 1) (v := .slice A4 z4.length c4) (cs' := #[.bool b4, .slice A4 z4.length c4]) rfl rfl (nd_int _ _ _ _)
  have v3 : Vr ((w2.setCell ⟨gW2, 0, none⟩ (.bool b4)).setCell ⟨gW2, 1, none⟩ (.slice A4 z4.length c4)) gW2 26 #[.bool b4, .slice A4 z4.length c4] := hz2.var 2 rfl
  refine bodyPost_ret (v := .agg #[.bool b4, .slice A4 z4.length c4]) (by simp [results, Tryz.results127, go_sem, v3.cell 0 rfl, v3.cell 1 rfl]) rfl ?_
  exact ⟨b4, A4, c4, z4, rfl, by rw [Int.sub_eq_add_neg]; exact HB4, by rw [Int.sub_eq_add_neg]; exact HZ4, hz2.rn 1 rfl, hz2.below⟩
set_option maxHeartbeats 800000 in
theorem ruint_ok (w : World) (A : Option Addr) (c : Nat) (xs : List Int) (hx : RN w A c xs) (hl : xs.length ≤ 70368744177664) (hs : V xs ≤ 4294967295) :
    Calls Tryz.prog 79 #[.slice A xs.length c] w (fun e w' => e = .returned (.tuple #[.int .u64 (V xs), .bool true]) ∧ Below w.heap.size w w') := by
  have HX := Lib.hid hx
  clear hx
  obtain ⟨v, hv⟩ : ∃ v, V xs = v := ⟨_, rfl⟩
  rw [hv] at hs ⊢
  have HVV := Lib.hid hv
  clear hv
  go_enter Tryz.func79, Tryz.ntmps79
  go_wp2_with fail
  refine (rnorm_ok w A c xs HX.out (by omega)).mono ?_
  rintro e_ w1 ⟨A1, c1, x, rfl, HXN, hx1, hB⟩
  have H_w1 := Lib.hid hB
  have RX := Lib.hid hx1
  have hvx : V x = V xs := by rw [HXN.out, V_limbs]; have := V_nonneg HX.out.2; omega
  have hl1 : x.length ≤ 1 := nf_one (by rw [HXN.out]; exact limbs_nf _) (by rw [hvx, HVV.out]; exact hs)
  have d1 : decide (2 < x.length) = false := decide_eq_false (by omega)
  have d1' : decide ((2 : Int) < (x.length : Int)) = false := decide_eq_false (by omega)
  have HV1 : Hid (dg x 1 = 0) := dg_ge (by omega)
  have HV0 : Hid (dg x 0 = V xs) := by
    show _ = _
    rw [← hvx]
    rcases (show x.length = 0 ∨ x.length = 1 by omega) with h0 | h0
    · rw [List.length_eq_zero_iff.1 h0]; rfl
    · unfold V; rw [h0, S_succ, S_zero, pw_zero]; omega
  have hv0 := V_nonneg HX.out.2
  rw [HVV.out] at HV0 hv0
  clear hB hx1 hvx hl1
  go_wp2_with fail
  refine (limb_ok w1 A1 c1 x RX.out 1 (by omega)).mono ?_
  rw [show (1 : Int).toNat = 1 from rfl, HV1.out]
  rintro e_ w1 ⟨rfl, rfl⟩
  go_wp2_with fail
  refine (limb_ok w1 A1 c1 x RX.out 0 (by omega)).mono ?_
  rw [show (0 : Int).toNat = 0 from rfl, HV0.out]
  rintro e_ w1 ⟨rfl, rfl⟩
  go_wp2_with fail
  go_ret2
  exact ⟨rfl, H_w1.out⟩
set_option maxHeartbeats 800000 in
theorem riint64_ok (w : World) (b : Bool) (A : Option Addr) (c : Nat) (xs : List Int) (hx : RN w A c xs) (hl : xs.length ≤ 70368744177664) (hs : V xs ≤ 4294967295) :
    Calls Tryz.prog 49 #[.agg #[.bool b, .slice A xs.length c]] w (fun e w' => e = .returned (.tuple #[.int .i64 (zv b xs), .bool true]) ∧ Below w.heap.size w w') := by
  have HX := Lib.hid hx
  clear hx
  go_enter Tryz.func49, Tryz.ntmps49
  go_upto_region 1 with fail
  obtain ⟨W, hW⟩ : ∃ W, W = (w.alloc (.cells #[.bool b, .slice A xs.length c] 26)) := ⟨_, rfl⟩
  rw [← hW]
  have H_W : Mo w W [(w.heap.size, 26, #[.bool b, .slice A xs.length c])] [] := by
    rw [hW]
    have h := ((Mo.start w).alloc (t := 26) (cs := #[.bool b, .slice A xs.length c]) (nd_int _ _ _ _))
    simp only [size_alloc, List.nil_append, List.cons_append] at h
    exact h
  clear hW
  have H_W := Lib.hid H_W
  have k0Wc0 := ((H_W.out.var 0 rfl)).cell 0 rfl
  have k0Wc1 := ((H_W.out.var 0 rfl)).cell 1 rfl
  go_wp2_with fail
  refine (rinorm_ok W b A c xs (HX.out.below H_W.out.below) hl).mono ?_
  rintro e_ w1 ⟨b1, A1, c1, x, rfl, HB1, HX1, hx1, hB⟩
  have H_w1 := Lib.hid (Mo.num (Mo.call H_W.out hB) hx1)
  have hvx : V x = (((zv b xs).natAbs : Nat) : Int) := by rw [HX1.out, V_limbs]
  have hzv : zv b1 x = zv b xs := by rw [HB1.out, HX1.out]; exact zv_norm _
  have hab := zv_abs b HX.out.2
  have hn := V_nonneg HX.out.2
  have hvl : V x ≤ 4294967295 := by omega
  have HLX : Hid (x.length ≤ 1) := nf_one (by rw [HX1.out]; exact limbs_nf _) hvl
  have HZV := Lib.hid hzv
  have HVL := Lib.hid hvl
  clear hvx hzv hab hn hvl
  clear hB hx1
  go_upto_region 2 with fail
  obtain ⟨T, hT⟩ : ∃ T, T = w1.alloc (.cells #[.bool b1, .slice A1 x.length c1] 26) := ⟨_, rfl⟩
  rw [← hT]
  have H_T : Hid (Mo w T _ _) := Lib.hid (by rw [hT]; exact H_w1.out.alloc (t := 26) (cs := #[.bool b1, .slice A1 x.length c1]) (nd_int _ _ _ _))
  clear hT
  have k1Tc0 := ((H_T.out.var 1 rfl)).cell 0 rfl
  have k1Tc1 := ((H_T.out.var 1 rfl)).cell 1 rfl
  go_wp2_with fail
  refine (ruint_ok T A1 c1 x (H_T.out.rn 0 rfl) (by have := HLX.out; omega) HVL.out).mono ?_
  obtain ⟨v, hv⟩ : ∃ v, V x = v := ⟨_, rfl⟩
  have HVV := Lib.hid hv
  have hv0 : 0 ≤ v := by rw [← hv]; exact V_nonneg ((H_T.out.rn 0 rfl)).2
  have hv1 : v ≤ 4294967295 := by rw [← hv]; exact HVL.out
  rw [hv]
  clear hv
  rintro e_ w2 ⟨rfl, hB⟩
  have H_w2 := Lib.hid (Mo.call H_T.out hB)
  have k1w2c0 := ((H_w2.out.var 1 rfl)).cell 0 rfl
  have k1w2c1 := ((H_w2.out.var 1 rfl)).cell 1 rfl
  clear hB
  have d1 : decide ((9223372036854775808 : Int) < v) = false := decide_eq_false (by omega)
  have d2 : decide ((9223372036854775808 : Int) ≤ v) = false := decide_eq_false (by omega)
  have e1 : IntKind.i64.wrap v = v := IntWalk.i64_in _ (by omega)
  cases b1
  · have HR : Hid (zv b xs = v) := by show _ = _; rw [← HZV.out, zv_f, HVV.out]
    go_wp2_with fail
    go_ret2
    exact ⟨by rw [HR.out]; rfl, H_w2.out.below⟩
  · have hz : zv b xs = -v := by rw [← HZV.out, zv_t, HVV.out]
    have hpos : 1 ≤ v := by
      have h := HB1.out
      have h2 := of_decide_eq_true h.symm
      omega
    have HR := Lib.hid hz
    have e2 : IntKind.u64.wrap (v - 1) = v - 1 := IntWalk.u64_in _ (by omega)
    have e3 : IntKind.i64.wrap (v - 1) = v - 1 := IntWalk.i64_in _ (by omega)
    have e4 : IntKind.i64.wrap (-(v - 1)) = -(v - 1) := IntWalk.i64_in _ (by omega)
    have e5 : IntKind.i64.wrap (-(v - 1) - 1) = -v := by rw [IntWalk.i64_in _ (by omega)]; omega
    clear hz
    go_wp2_with fail
    go_ret2
    refine ⟨?_, H_w2.out.below⟩
    rw [HR.out]
    first | rfl | (congr 1; congr 1; simp; omega)
set_option maxHeartbeats 800000 in
theorem rpow0_ok (w : World) (A : Option Addr) (m c : Nat) :
    Calls Tryz.prog 125 #[.slice A m c, .int .i64 0] w (RetNB 1 true w) := by
  go_enter Tryz.func125, Tryz.ntmps125
  go_wp2_with fail
  refine (rof_ok w 1 (by omega) (by omega)).mono ?_
  rintro e_ w1 ⟨A1, c1, z, rfl, HZ, hz, hB⟩
  have B_w1 := Lib.hid hB
  have R_w1 := Lib.hid hz
  clear hB hz
  go_wp2_with fail
  go_loopw [6, 7] (fun pv iv wr => pv = .slice A1 z.length c1 ∧ iv = .int .i64 0 ∧ wr = w1) (fun _ iv _ => (intOf iv).toNat)
  case atStart => exact ⟨rfl, rfl, rfl⟩
  case round =>
    obtain ⟨rfl, rfl, rfl⟩ := hrel
    go_wp2_with fail
    go_ret2
    exact ⟨A1, c1, z, rfl, HZ, R_w1.out, B_w1.out⟩
set_option maxHeartbeats 800000 in
theorem rqsign_ok (w : World) (b : Bool) (A B : Option Addr) (c d : Nat) (xs ys : List Int) (hx : RN w A c xs) (hy : RN w B d ys) (hsx : xs.length ≤ 35184372088795) (hsy : ys.length ≤ 35184372088795) :
    Calls Tryz.prog 40 #[.agg #[.bool b, .slice A xs.length c, .slice B ys.length d]] w (fun e w' => e = .returned (.int .i64 (cmpQ (qv b xs ys) 0)) ∧ Below w.heap.size w w') := by
  have HX := Lib.hid hx
  have HY := Lib.hid hy
  clear hx hy
  go_enter Tryz.func40, Tryz.ntmps40
  go_upto_region 1 with fail
  obtain ⟨W, hW⟩ : ∃ W, W = (w.alloc (.cells #[.bool b, .slice A xs.length c, .slice B ys.length d] 28)) := ⟨_, rfl⟩
  rw [← hW]
  have H_W : Mo w W [(w.heap.size, 28, #[.bool b, .slice A xs.length c, .slice B ys.length d])] [] := by
    rw [hW]
    have h := ((Mo.start w).alloc (t := 28) (cs := #[.bool b, .slice A xs.length c, .slice B ys.length d]) (nd_rat _ _ _ _ _ _ _))
    simp only [size_alloc, List.nil_append, List.cons_append] at h
    exact h
  clear hW
  have H_W := Lib.hid H_W
  have k0Wc0 := ((H_W.out.var 0 rfl)).cell 0 rfl
  have k0Wc1 := ((H_W.out.var 0 rfl)).cell 1 rfl
  have k0Wc2 := ((H_W.out.var 0 rfl)).cell 2 rfl
  go_wp2_with fail
  refine (top_ok W b A B c d xs ys (HX.out.below H_W.out.below) (HY.out.below H_W.out.below) (by omega) (by omega)).mono ?_
  rintro e_ w1 ⟨b1, A1, c1, z, rfl, HB1, HZ1, hz1, hB⟩
  have H_w1 := Lib.hid (Mo.num (Mo.call H_W.out hB) hz1)
  have HL : Hid (z.length ≤ xs.length) := by show _ ≤ _; rw [HZ1.out]; exact qn_len HX.out.2
  clear hB hz1
  go_wp2_with fail
  refine (risign_ok w1 b1 A1 c1 z (H_w1.out.rn 0 rfl) (by have := HL.out; omega)).mono ?_
  rw [HB1.out, HZ1.out, zv_norm, sign_qv HY.out.2]
  rintro e_ w2 ⟨rfl, hB⟩
  have H_w2 := Lib.hid (Mo.call H_w1.out hB)
  clear hB
  go_wp2_with fail
  go_ret
  exact ⟨rfl, H_w2.out.below⟩
set_option maxHeartbeats 1600000 in
theorem rqneg_ok (w : World) (b : Bool) (A B : Option Addr) (c d : Nat) (xs ys : List Int) (hx : RN w A c xs) (hy : RN w B d ys) (hsx : xs.length ≤ 35184372088795) (hsy : ys.length ≤ 35184372088795) :
    Calls Tryz.prog 69 #[.agg #[.bool b, .slice A xs.length c, .slice B ys.length d]] w (RetQ (-qv b xs ys) w) := by
  have HX := Lib.hid hx
  have HY := Lib.hid hy
  clear hx hy
  go_enter Tryz.func69, Tryz.ntmps69
  go_upto_region 1 with fail
  obtain ⟨W, hW⟩ : ∃ W, W = ((w.alloc (.cells #[.bool b, .slice A xs.length c, .slice B ys.length d] 28)).alloc (.cells #[.bool false, .slice none 0 0, .slice none 0 0] 28)) := ⟨_, rfl⟩
  rw [← hW]
  have H_W : Mo w W [(w.heap.size, 28, #[.bool b, .slice A xs.length c, .slice B ys.length d]), (w.heap.size + 1, 28, #[.bool false, .slice none 0 0, .slice none 0 0])] [] := by
    rw [hW]
    have h := (((Mo.start w).alloc (t := 28) (cs := #[.bool b, .slice A xs.length c, .slice B ys.length d]) (nd_rat _ _ _ _ _ _ _)).alloc (t := 28) (cs := #[.bool false, .slice none 0 0, .slice none 0 0]) (nd_rat _ _ _ _ _ _ _))
    simp only [size_alloc, List.nil_append, List.cons_append] at h
    exact h
  clear hW
  obtain ⟨gW1, hgW1⟩ : ∃ g, w.heap.size + 1 = g := ⟨_, rfl⟩
  rw [hgW1] at H_W ⊢
  clear hgW1
  have neW01 : w.heap.size ≠ gW1 := H_W.apart 0 1 _ _ _ _ _ _ rfl rfl (by decide)
  have neW10 : gW1 ≠ w.heap.size := H_W.apart 1 0 _ _ _ _ _ _ rfl rfl (by decide)
  have H_W := Lib.hid H_W
  have k0Wc0 := ((H_W.out.var 0 rfl)).cell 0 rfl
  have k0Wc1 := ((H_W.out.var 0 rfl)).cell 1 rfl
  have k0Wc2 := ((H_W.out.var 0 rfl)).cell 2 rfl
  have H_Wd := Lib.hid H_W.out.drew
  first
  | go_region_held3 (fun w' => w'.cell? ⟨w.heap.size, 0, none⟩ = some (.bool b) ∧ w'.cell? ⟨w.heap.size, 1, none⟩ = some (.slice A xs.length c) ∧ w'.cell? ⟨w.heap.size, 2, none⟩ = some (.slice B ys.length d)) (go_keep)
     (first
      | (go_at_call 64
         refine (top_ok W.drew b A B c d xs ys (HX.out.below H_Wd.out.below) (HY.out.below H_Wd.out.below) (by omega) (by omega)).mono ?_
         rintro e_ w1 ⟨b1, A1, c1, z1, rfl, HB1, HZ1, hz1, hB⟩
         have H_w1 := Lib.hid (Mo.num (Mo.call H_Wd.out hB) hz1)
         have k0w1c0 := ((H_w1.out.var 0 rfl)).cell 0 rfl
         have k0w1c1 := ((H_w1.out.var 0 rfl)).cell 1 rfl
         have k0w1c2 := ((H_w1.out.var 0 rfl)).cell 2 rfl
         have HL1 : Hid (z1.length ≤ xs.length) := by show _ ≤ _; rw [HZ1.out]; exact qn_len HX.out.2
         clear hB hz1)
      | (go_at_call 98
         refine (rineg_ok w1 b1 A1 c1 z1 (H_w1.out.rn 0 rfl) (by have := HL1.out; omega)).mono ?_
         rw [HB1.out, HZ1.out, zv_norm]
         rintro e_ w2 ⟨b2, A2, c2, z2, rfl, HB2, HZ2, hz2, hB⟩
         have H_w2 := Lib.hid (Mo.num (Mo.call H_w1.out hB) hz2)
         have k0w2c0 := ((H_w2.out.var 0 rfl)).cell 0 rfl
         have k0w2c1 := ((H_w2.out.var 0 rfl)).cell 1 rfl
         have k0w2c2 := ((H_w2.out.var 0 rfl)).cell 2 rfl
         have HL2 : Hid (z2.length ≤ xs.length) := by show _ ≤ _; rw [HZ2.out, Int.natAbs_neg]; exact qn_len HX.out.2
         clear hB hz2)
      | (go_at_call 66
         refine (low_ok w2 b A B c d xs ys (HX.out.below H_w2.out.below) (HY.out.below H_w2.out.below) (by omega) (by omega)).mono ?_
         rintro e_ w3 ⟨A3, c3, y3, rfl, HY3, hy3, hB⟩
         have H_w3 := Lib.hid (Mo.num (Mo.call H_w2.out hB) hy3)
         have k0w3c0 := ((H_w3.out.var 0 rfl)).cell 0 rfl
         have k0w3c1 := ((H_w3.out.var 0 rfl)).cell 1 rfl
         have k0w3c2 := ((H_w3.out.var 0 rfl)).cell 2 rfl
         have HL3 : Hid (y3.length ≤ ys.length + 1) := by show _ ≤ _; rw [HY3.out]; exact qd_len HY.out.2
         have HV3 : Hid (V y3 = qd ys) := by show _ = _; have := qd_pos HY.out.2; rw [HY3.out, V_limbs]; omega
         clear hB hy3)
      | (go_at_call 67
         refine (reduce_ok w3 b2 A2 A3 c2 c3 z2 y3 (H_w3.out.rn 1 rfl) (H_w3.out.rn 2 rfl) (by have := HL2.out; omega) (by have := HL3.out; omega) (by have := qd_pos HY.out.2; have := HV3.out; omega)).mono ?_
         rintro e_ w4 ⟨b5, A5, c5, x5, B5, d5, y5, rfl, HQ1, HQ2, HQ3, hr1, hr2, hB⟩
         have H_w4 := Lib.hid (Mo.num (Mo.num (Mo.call H_w3.out hB) hr1) hr2)
         have k0w4c0 := ((H_w4.out.var 0 rfl)).cell 0 rfl
         have k0w4c1 := ((H_w4.out.var 0 rfl)).cell 1 rfl
         have k0w4c2 := ((H_w4.out.var 0 rfl)).cell 2 rfl
         have k1w4c0 := ((H_w4.out.var 1 rfl)).cell 0 rfl
         have k1w4c1 := ((H_w4.out.var 1 rfl)).cell 1 rfl
         have k1w4c2 := ((H_w4.out.var 1 rfl)).cell 2 rfl
         have k1w4f0 := ((H_w4.out.var 1 rfl)).thaw 0
         have k1w4f1 := ((H_w4.out.var 1 rfl)).thaw 1
         have k1w4f2 := ((H_w4.out.var 1 rfl)).thaw 2
         clear hB hr1 hr2))
  | fail
  have hq : qv b2 z2 y3 = -qv b xs ys := by
    have e1 : zv b2 z2 = -qn b xs ys := by rw [HB2.out, HZ2.out]; exact zv_norm _
    rw [qv_parts HY.out.2, Rat.neg_mkRat]
    unfold qv
    rw [e1, HV3.out]
  rw [hq] at HQ1 HQ2 HQ3
  clear hq
  go_wp2_with fail
  have hz0 := (H_w4.out).set 1 (j := 0) (v := .bool b5) (cs' := #[.bool b5, .slice none 0 0, .slice none 0 0]) rfl rfl (nd_rat _ _ _ _ _ _ _)
  have hz1 := (hz0).set 1 (j := 1) (v := .slice A5 x5.length c5) (cs' := #[.bool b5, .slice A5 x5.length c5, .slice none 0 0]) rfl rfl (nd_rat _ _ _ _ _ _ _)
  have hz2 := (hz1).set 1 (j := 2) (v := .slice B5 y5.length d5) (cs' := #[.bool b5, .slice A5 x5.length c5, .slice B5 y5.length d5]) rfl rfl (nd_rat _ _ _ _ _ _ _)
  have v3 : Vr (((w4.setCell ⟨gW1, 0, none⟩ (.bool b5)).setCell ⟨gW1, 1, none⟩ (.slice A5 x5.length c5)).setCell ⟨gW1, 2, none⟩ (.slice B5 y5.length d5)) gW1 28 #[.bool b5, .slice A5 x5.length c5, .slice B5 y5.length d5] := hz2.var 1 rfl
  refine bodyPost_ret (v := .agg #[.bool b5, .slice A5 x5.length c5, .slice B5 y5.length d5]) (by simp [results, Tryz.results69, go_sem, v3.cell 0 rfl, v3.cell 1 rfl, v3.cell 2 rfl]) rfl ?_
  exact ⟨b5, A5, c5, x5, B5, d5, y5, rfl, HQ1, HQ2, HQ3, hz2.rn 3 rfl, hz2.rn 4 rfl, hz2.below⟩

end Go.Proofs.YtocpncjmcaecoaaGreat.M
