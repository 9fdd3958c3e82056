/- Integers of the program: sums, division. -/
import Derived.Test.YtgdlnmhpnlmofaaRefRatB
namespace Go.Proofs.Ytgdlnmhpnlmofaa.M
set_option maxRecDepth 10000
open Go.RowKit
set_option linter.unusedVariables false
set_option linter.unusedSimpArgs false
theorem zv_int {b : Bool} {xs : List Int} {z : Int} (h1 : b = decide (z < 0)) (h2 : xs = limbs z.natAbs) : zv b xs = z := by rw [h1, h2]; exact zv_norm z
theorem int_len {z : Int} {n : Nat} (h : (z.natAbs : Int) < pw n) : (limbs z.natAbs).length ≤ n := limbs_len h
theorem limbs_le_len {x : List Int} (h : Lim x) {n : Nat} (hn : n ≤ (V x).toNat) : (limbs n).length ≤ x.length := by
  refine limbs_len (Int.lt_of_le_of_lt ?_ (V_lt h))
  have := V_nonneg h
  omega
theorem add_len {xs ys : List Int} (hx : Lim xs) (hy : Lim ys) : (limbs ((V xs).toNat + (V ys).toNat)).length ≤ xs.length + ys.length + 1 := by
  refine limbs_len ?_
  have h1 := V_lt hx
  have h2 := V_lt hy
  have h3 := pw_le (show xs.length ≤ xs.length + ys.length by omega)
  have h4 := pw_le (show ys.length ≤ xs.length + ys.length by omega)
  have h5 := V_nonneg hx
  have h6 := V_nonneg hy
  rw [pw_succ]
  omega
set_option maxHeartbeats 3200000 in
theorem iadd_ok (w : World) (b1 b2 : Bool) (A B : Option Addr) (c d : Nat) (xs ys : List Int) (hx : RN w A c xs) (hy : RN w B d ys) (hsx : xs.length ≤ 35184372088830) (hsy : ys.length ≤ 35184372088830) :
    Calls Try.prog 72 #[.agg #[.bool b1, .slice A xs.length c], .agg #[.bool b2, .slice B ys.length d]] w (RetZI (zv b1 xs + zv b2 ys) w) := by
  have HX := Lib.hid hx
  have HY := Lib.hid hy
  clear hx hy
  go_enter Try.func72, Try.ntmps72
  go_upto_region 1 with fail
  obtain ⟨W, hW⟩ : ∃ W, W = (((w.alloc (.cells #[.bool b1, .slice A xs.length c] 31)).alloc (.cells #[.bool b2, .slice B ys.length d] 31)).alloc (.cells #[.bool false, .slice none 0 0] 31)) := ⟨_, rfl⟩
  rw [← hW]
  have hBW : Below w.heap.size w W := by rw [hW]; exact ((((Below.refl _ _).alloc (Nat.le_refl _) _).alloc (by simp only [size_alloc]; omega) _).alloc (by simp only [size_alloc]; omega) _)
  have vW0 : Vr W (w.heap.size) 31 #[.bool b1, .slice A xs.length c] := by rw [hW]; exact (((Vr.new' _ _ _ (by simp only [size_alloc])).alloc _).alloc _)
  have vW1 : Vr W (w.heap.size + 1) 31 #[.bool b2, .slice B ys.length d] := by rw [hW]; exact ((Vr.new' _ _ _ (by simp only [size_alloc])).alloc _)
  have vW2 : Vr W (w.heap.size + 1 + 1) 31 #[.bool false, .slice none 0 0] := by rw [hW]; exact (Vr.new' _ _ _ (by simp only [size_alloc]))
  clear hW
  obtain ⟨gW2, hgW2⟩ : ∃ g, w.heap.size + 1 + 1 = g := ⟨_, rfl⟩
  rw [hgW2] at vW2 ⊢
  obtain ⟨gW1, hgW1⟩ : ∃ g, w.heap.size + 1 = g := ⟨_, rfl⟩
  rw [hgW1] at vW1 ⊢
  have hneW01 : w.heap.size ≠ gW1 := by omega
  have hneW02 : w.heap.size ≠ gW2 := by omega
  have hgeW1 : w.heap.size ≤ gW1 := by omega
  have hneW10 : gW1 ≠ w.heap.size := by omega
  have hneW12 : gW1 ≠ gW2 := by omega
  have hgeW2 : w.heap.size ≤ gW2 := by omega
  have hneW20 : gW2 ≠ w.heap.size := by omega
  have hneW21 : gW2 ≠ gW1 := by omega
  have HVW0 := Lib.hid vW0
  have HVW1 := Lib.hid vW1
  have HVW2 := Lib.hid vW2
  have HBW := Lib.hid hBW
  clear hBW vW0 vW1 vW2 hgW1 hgW2
  have V0_W := HVW0
  have V1_W := HVW1
  have V2_W := HVW2
  have B_W := HBW
  have oc0 := (HVW0.out).cell 0 rfl
  have oc1 := (HVW0.out).cell 1 rfl
  have pc0 := (HVW1.out).cell 0 rfl
  have pc1 := (HVW1.out).cell 1 rfl
  by_cases hbb : b1 = b2
  · have he : (b1 == b2) = true := by simpa using hbb
    have HBB := Lib.hid hbb
    clear hbb
    go_wp2_with fail
    have V0_Wc0 := (V0_W.out).cell 0 rfl
    have V0_Wc1 := (V0_W.out).cell 1 rfl
    have V1_Wc0 := (V1_W.out).cell 0 rfl
    have V1_Wc1 := (V1_W.out).cell 1 rfl
    have V0_Wd := Lib.hid V0_W.out.drew
    have V1_Wd := Lib.hid V1_W.out.drew
    have V2_Wd := Lib.hid V2_W.out.drew
    have B_Wd := Lib.hid B_W.out.drew
    go_region_held3 (fun w' => w'.cell? ⟨w.heap.size, 0, none⟩ = some (.bool b1) ∧ w'.cell? ⟨w.heap.size, 1, none⟩ = some (.slice A xs.length c) ∧ w'.cell? ⟨gW1, 0, none⟩ = some (.bool b2) ∧ w'.cell? ⟨gW1, 1, none⟩ = some (.slice B ys.length d)) (go_keep)
      (first
        | (go_at_call 98
           refine (add_ok W.drew A B c d xs ys (HX.out.below B_Wd.out) (HY.out.below B_Wd.out) hsx hsy).mono ?_
           rintro e_ w1 ⟨A1, c1, z1, rfl, HZ1, hz1, hB⟩
           have V0_w1 := Lib.hid (Vr.below' V0_Wd.out hB)
           have V0_w1c0 := (V0_w1.out).cell 0 rfl
           have V0_w1c1 := (V0_w1.out).cell 1 rfl
           have V1_w1 := Lib.hid (Vr.below' V1_Wd.out hB)
           have V1_w1c0 := (V1_w1.out).cell 0 rfl
           have V1_w1c1 := (V1_w1.out).cell 1 rfl
           have V2_w1 := Lib.hid (Vr.below' V2_Wd.out hB)
           have V2_w1c0 := (V2_w1.out).cell 0 rfl
           have V2_w1c1 := (V2_w1.out).cell 1 rfl
           have V2_w1f0 := (V2_w1.out).thaw 0
           have V2_w1f1 := (V2_w1.out).thaw 1
           have B_w1 := Lib.hid (below_on B_Wd.out hB)
           have Z_w1 := Lib.hid hz1
           have hl1 : z1.length ≤ 70368744177664 := by rw [HZ1.out]; exact Nat.le_trans (add_len HX.out.2 HY.out.2) (by omega)
           have HL1 := Lib.hid hl1
           clear hl1
           clear hB hz1)
        | (go_at_call 68
           refine (make_ok w1 b1 A1 c1 z1 Z_w1.out HL1.out).mono ?_
           rintro e_ w2 ⟨b2x, A2, c2, z2, rfl, HB2, HZ2, hz2, hB⟩
           have V0_w2 := Lib.hid (Vr.below' V0_w1.out hB)
           have V0_w2c0 := (V0_w2.out).cell 0 rfl
           have V0_w2c1 := (V0_w2.out).cell 1 rfl
           have V1_w2 := Lib.hid (Vr.below' V1_w1.out hB)
           have V1_w2c0 := (V1_w2.out).cell 0 rfl
           have V1_w2c1 := (V1_w2.out).cell 1 rfl
           have V2_w2 := Lib.hid (Vr.below' V2_w1.out hB)
           have V2_w2c0 := (V2_w2.out).cell 0 rfl
           have V2_w2c1 := (V2_w2.out).cell 1 rfl
           have V2_w2f0 := (V2_w2.out).thaw 0
           have V2_w2f1 := (V2_w2.out).thaw 1
           have Z_w2 := Lib.hid (RN.below Z_w1.out hB)
           have B_w2 := Lib.hid (below_on B_w1.out hB)
           have Y_w2 := Lib.hid hz2
           clear hB hz2))
    go_wp2_with fail
    have ez : zv b1 z1 = zv b1 xs + zv b2 ys := by
      rw [← HBB.out]
      have h1 := V_nonneg HX.out.2
      have h2 := V_nonneg HY.out.2
      have e : V z1 = V xs + V ys := by rw [HZ1.out, V_limbs]; omega
      unfold zv
      rw [e]
      split <;> omega
    have Y_y1 := (Y_w2.out).apart (V2_w2.out) (nd_int _ _ _ _) 0 (.bool b2x)
    have V2_y1 := (V2_w2.out).set 0 (.bool b2x)
    have Y_y2 := (Y_y1).apart (V2_y1) (nd_int _ _ _ _) 1 (.slice A2 z2.length c2)
    have V2_y2 := (V2_y1).set 1 (.slice A2 z2.length c2)
    have V2_yy : Vr ((w2.setCell ⟨gW2, 0, none⟩ (.bool b2x)).setCell ⟨gW2, 1, none⟩ (.slice A2 z2.length c2)) gW2 31 #[.bool b2x, .slice A2 z2.length c2] := V2_y2
    refine bodyPost_ret (v := .agg #[.bool b2x, .slice A2 z2.length c2]) (by simp [results, Try.results72, go_sem, V2_yy.cell 0 rfl, V2_yy.cell 1 rfl]) rfl ?_
    exact ⟨b2x, A2, c2, z2, rfl, by rw [← ez]; exact HB2, by rw [← ez]; exact HZ2, Y_y2, (below_set (below_set B_w2.out hgeW2 _) hgeW2 _)⟩
  · have hne : (b1 == b2) = false := by simpa using hbb
    by_cases hle : V ys ≤ V xs
    · have HLE := Lib.hid hle
      clear hle hbb
      go_wp2_with fail
      refine (sub_yes W A B c d xs ys (HX.out.below B_W.out) (HY.out.below B_W.out) HLE.out (by omega)).mono ?_
      rintro e_ w3 ⟨A3, c3, z3, rfl, HZ3, hz3, hB⟩
      have V0_w3 := Lib.hid (Vr.below' V0_W.out hB)
      have V0_w3c0 := (V0_w3.out).cell 0 rfl
      have V0_w3c1 := (V0_w3.out).cell 1 rfl
      have V1_w3 := Lib.hid (Vr.below' V1_W.out hB)
      have V1_w3c0 := (V1_w3.out).cell 0 rfl
      have V1_w3c1 := (V1_w3.out).cell 1 rfl
      have V2_w3 := Lib.hid (Vr.below' V2_W.out hB)
      have B_w3 := Lib.hid (below_on B_W.out hB)
      have R_w3 := Lib.hid hz3
      have hl3 : z3.length ≤ 70368744177664 := by rw [HZ3.out]; exact Nat.le_trans (limbs_le_len HX.out.2 (Nat.sub_le _ _)) (by omega)
      clear hB hz3
      go_wp2_with fail
      refine (make_ok w3 b1 A3 c3 z3 R_w3.out hl3).mono ?_
      rintro e_ w4 ⟨b4, A4, c4, z4, rfl, HB4, HZ4, hz4, hB⟩
      have V2_w4 := Lib.hid (Vr.below' V2_w3.out hB)
      have V2_w4c0 := (V2_w4.out).cell 0 rfl
      have V2_w4c1 := (V2_w4.out).cell 1 rfl
      have V2_w4f0 := (V2_w4.out).thaw 0
      have V2_w4f1 := (V2_w4.out).thaw 1
      have B_w4 := Lib.hid (below_on B_w3.out hB)
      have R_w4 := Lib.hid hz4
      clear hB hz4
      go_wp2_with fail
      have ez : zv b1 z3 = zv b1 xs + zv b2 ys := by
        have h1 := V_nonneg HX.out.2
        have h2 := V_nonneg HY.out.2
        have h3 := HLE.out
        have e : V z3 = V xs - V ys := by rw [HZ3.out, V_limbs]; omega
        have h4 : b2 = !b1 := by cases b1 <;> cases b2 <;> simp_all
        rw [h4]
        cases b1
        · show V z3 = V xs + -V ys
          omega
        · show -V z3 = -V xs + V ys
          omega
      have R_y1 := (R_w4.out).apart (V2_w4.out) (nd_int _ _ _ _) 0 (.bool b4)
      have V2_y1 := (V2_w4.out).set 0 (.bool b4)
      have R_y2 := (R_y1).apart (V2_y1) (nd_int _ _ _ _) 1 (.slice A4 z4.length c4)
      have V2_y2 := (V2_y1).set 1 (.slice A4 z4.length c4)
      have V2_yy : Vr ((w4.setCell ⟨gW2, 0, none⟩ (.bool b4)).setCell ⟨gW2, 1, none⟩ (.slice A4 z4.length c4)) gW2 31 #[.bool b4, .slice A4 z4.length c4] := V2_y2
      refine bodyPost_ret (v := .agg #[.bool b4, .slice A4 z4.length c4]) (by simp [results, Try.results72, go_sem, V2_yy.cell 0 rfl, V2_yy.cell 1 rfl]) rfl ?_
      exact ⟨b4, A4, c4, z4, rfl, by rw [← ez]; exact HB4, by rw [← ez]; exact HZ4, R_y2, (below_set (below_set B_w4.out hgeW2 _) hgeW2 _)⟩
    · have HLT : Hid (V xs < V ys) := by show _ < _; omega
      clear hle hbb
      go_wp2_with fail
      refine (sub_no W A B c d xs ys (HX.out.below B_W.out) (HY.out.below B_W.out) HLT.out).mono ?_
      rintro e_ w1 ⟨A1, c1, z1, rfl, HZ1, hz1, hB⟩
      have V0_w1 := Lib.hid (Vr.below' V0_W.out hB)
      have V0_w1c0 := (V0_w1.out).cell 0 rfl
      have V0_w1c1 := (V0_w1.out).cell 1 rfl
      have V1_w1 := Lib.hid (Vr.below' V1_W.out hB)
      have V1_w1c0 := (V1_w1.out).cell 0 rfl
      have V1_w1c1 := (V1_w1.out).cell 1 rfl
      have V2_w1 := Lib.hid (Vr.below' V2_W.out hB)
      have B_w1 := Lib.hid (below_on B_W.out hB)
      clear hB hz1
      go_wp2_with fail
      refine (sub_yes w1 B A d c ys xs (HY.out.below B_w1.out) (HX.out.below B_w1.out) (Int.le_of_lt HLT.out) (by omega)).mono ?_
      rintro e_ w3 ⟨A3, c3, z3, rfl, HZ3, hz3, hB⟩
      have V0_w3 := Lib.hid (Vr.below' V0_w1.out hB)
      have V0_w3c0 := (V0_w3.out).cell 0 rfl
      have V0_w3c1 := (V0_w3.out).cell 1 rfl
      have V1_w3 := Lib.hid (Vr.below' V1_w1.out hB)
      have V1_w3c0 := (V1_w3.out).cell 0 rfl
      have V1_w3c1 := (V1_w3.out).cell 1 rfl
      have V2_w3 := Lib.hid (Vr.below' V2_w1.out hB)
      have B_w3 := Lib.hid (below_on B_w1.out hB)
      have R_w3 := Lib.hid hz3
      have hl3 : z3.length ≤ 70368744177664 := by rw [HZ3.out]; exact Nat.le_trans (limbs_le_len HY.out.2 (Nat.sub_le _ _)) (by omega)
      clear hB hz3
      go_wp2_with fail
      refine (make_ok w3 b2 A3 c3 z3 R_w3.out hl3).mono ?_
      rintro e_ w4 ⟨b4, A4, c4, z4, rfl, HB4, HZ4, hz4, hB⟩
      have V2_w4 := Lib.hid (Vr.below' V2_w3.out hB)
      have V2_w4c0 := (V2_w4.out).cell 0 rfl
      have V2_w4c1 := (V2_w4.out).cell 1 rfl
      have V2_w4f0 := (V2_w4.out).thaw 0
      have V2_w4f1 := (V2_w4.out).thaw 1
      have B_w4 := Lib.hid (below_on B_w3.out hB)
      have R_w4 := Lib.hid hz4
      clear hB hz4
      go_wp2_with fail
      have ez : zv b2 z3 = zv b1 xs + zv b2 ys := by
        have h1 := V_nonneg HX.out.2
        have h2 := V_nonneg HY.out.2
        have h3 := HLT.out
        have e : V z3 = V ys - V xs := by rw [HZ3.out, V_limbs]; omega
        have h4 : b1 = !b2 := by cases b1 <;> cases b2 <;> simp_all
        rw [h4]
        cases b2
        · show V z3 = -V xs + V ys
          omega
        · show -V z3 = V xs + -V ys
          omega
      have R_y1 := (R_w4.out).apart (V2_w4.out) (nd_int _ _ _ _) 0 (.bool b4)
      have V2_y1 := (V2_w4.out).set 0 (.bool b4)
      have R_y2 := (R_y1).apart (V2_y1) (nd_int _ _ _ _) 1 (.slice A4 z4.length c4)
      have V2_y2 := (V2_y1).set 1 (.slice A4 z4.length c4)
      have V2_yy : Vr ((w4.setCell ⟨gW2, 0, none⟩ (.bool b4)).setCell ⟨gW2, 1, none⟩ (.slice A4 z4.length c4)) gW2 31 #[.bool b4, .slice A4 z4.length c4] := V2_y2
      refine bodyPost_ret (v := .agg #[.bool b4, .slice A4 z4.length c4]) (by simp [results, Try.results72, go_sem, V2_yy.cell 0 rfl, V2_yy.cell 1 rfl]) rfl ?_
      exact ⟨b4, A4, c4, z4, rfl, by rw [← ez]; exact HB4, by rw [← ez]; exact HZ4, R_y2, (below_set (below_set B_w4.out hgeW2 _) hgeW2 _)⟩

end Go.Proofs.Ytgdlnmhpnlmofaa.M
