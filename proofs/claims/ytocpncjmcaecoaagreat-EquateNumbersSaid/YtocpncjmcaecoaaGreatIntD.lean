/- Integers of the program: sums, division. Integers of the program: division by a number above 0, small integers read back. Small integers read back. -/
import Derived.Test.YtocpncjmcaecoaaGreatRefRatC
namespace Go.Proofs.YtocpncjmcaecoaaGreat.M
set_option maxRecDepth 10000
open Go.RowKit
set_option linter.unusedVariables false
set_option linter.unusedSimpArgs false
theorem zv_int {b : Bool} {xs : List Int} {z : Int} (h1 : b = decide (z < 0)) (h2 : xs = limbs z.natAbs) : zv b xs = z := by rw [h1, h2]; exact zv_norm z
theorem int_len {z : Int} {n : Nat} (h : (z.natAbs : Int) < pw n) : (limbs z.natAbs).length ≤ n := limbs_len h
theorem limbs_le_len {x : List Int} (h : Lim x) {n : Nat} (hn : n ≤ (V x).toNat) : (limbs n).length ≤ x.length := by
  refine limbs_len (Int.lt_of_le_of_lt ?_ (V_lt h))
  have := V_nonneg h
  omega
theorem add_len {xs ys : List Int} (hx : Lim xs) (hy : Lim ys) : (limbs ((V xs).toNat + (V ys).toNat)).length ≤ xs.length + ys.length + 1 := by
  refine limbs_len ?_
  have h1 := V_lt hx
  have h2 := V_lt hy
  have h3 := pw_le (show xs.length ≤ xs.length + ys.length by omega)
  have h4 := pw_le (show ys.length ≤ xs.length + ys.length by omega)
  have h5 := V_nonneg hx
  have h6 := V_nonneg hy
  rw [pw_succ]
  omega
set_option maxHeartbeats 3200000 in
theorem iadd_ok (w : World) (b1 b2 : Bool) (A B : Option Addr) (c d : Nat) (xs ys : List Int) (hx : RN w A c xs) (hy : RN w B d ys) (hsx : xs.length ≤ 35184372088830) (hsy : ys.length ≤ 35184372088830) :
    Calls Tryz.prog 52 #[.agg #[.bool b1, .slice A xs.length c], .agg #[.bool b2, .slice B ys.length d]] w (RetZI (zv b1 xs + zv b2 ys) w) := by
  have HX := Lib.hid hx
  have HY := Lib.hid hy
  clear hx hy
  go_enter Tryz.func52, Tryz.ntmps52
  go_upto_region 1 with fail
  obtain ⟨W, hW⟩ : ∃ W, W = (((w.alloc (.cells #[.bool b1, .slice A xs.length c] 26)).alloc (.cells #[.bool b2, .slice B ys.length d] 26)).alloc (.cells #[.bool false, .slice none 0 0] 26)) := ⟨_, rfl⟩
  rw [← hW]
  have hBW : Below w.heap.size w W := by rw [hW]; exact ((((Below.refl _ _).alloc (Nat.le_refl _) _).alloc (by simp only [size_alloc]; omega) _).alloc (by simp only [size_alloc]; omega) _)
  have vW0 : Vr W (w.heap.size) 26 #[.bool b1, .slice A xs.length c] := by rw [hW]; exact (((Vr.new' _ _ _ (by simp only [size_alloc])).alloc _).alloc _)
  have vW1 : Vr W (w.heap.size + 1) 26 #[.bool b2, .slice B ys.length d] := by rw [hW]; exact ((Vr.new' _ _ _ (by simp only [size_alloc])).alloc _)
  have vW2 : Vr W (w.heap.size + 1 + 1) 26 #[.bool false, .slice none 0 0] := by rw [hW]; exact (Vr.new' _ _ _ (by simp only [size_alloc]))
  clear hW
  obtain ⟨gW2, hgW2⟩ : ∃ g, w.heap.size + 1 + 1 = g := ⟨_, rfl⟩
  rw [hgW2] at vW2 ⊢
  obtain ⟨gW1, hgW1⟩ : ∃ g, w.heap.size + 1 = g := ⟨_, rfl⟩
  rw [hgW1] at vW1 ⊢
  have hneW01 : w.heap.size ≠ gW1 := by omega
  have hneW02 : w.heap.size ≠ gW2 := by omega
  have hgeW1 : w.heap.size ≤ gW1 := by omega
  have hneW10 : gW1 ≠ w.heap.size := by omega
  have hneW12 : gW1 ≠ gW2 := by omega
  have hgeW2 : w.heap.size ≤ gW2 := by omega
  have hneW20 : gW2 ≠ w.heap.size := by omega
  have hneW21 : gW2 ≠ gW1 := by omega
  have HVW0 := Lib.hid vW0
  have HVW1 := Lib.hid vW1
  have HVW2 := Lib.hid vW2
  have HBW := Lib.hid hBW
  clear hBW vW0 vW1 vW2 hgW1 hgW2
  have V0_W := HVW0
  have V1_W := HVW1
  have V2_W := HVW2
  have B_W := HBW
  have oc0 := (HVW0.out).cell 0 rfl
  have oc1 := (HVW0.out).cell 1 rfl
  have pc0 := (HVW1.out).cell 0 rfl
  have pc1 := (HVW1.out).cell 1 rfl
  by_cases hbb : b1 = b2
  · have he : (b1 == b2) = true := by simpa using hbb
    have HBB := Lib.hid hbb
    clear hbb
    go_wp2_with fail
    have V0_Wc0 := (V0_W.out).cell 0 rfl
    have V0_Wc1 := (V0_W.out).cell 1 rfl
    have V1_Wc0 := (V1_W.out).cell 0 rfl
    have V1_Wc1 := (V1_W.out).cell 1 rfl
    have V0_Wd := Lib.hid V0_W.out.drew
    have V1_Wd := Lib.hid V1_W.out.drew
    have V2_Wd := Lib.hid V2_W.out.drew
    have B_Wd := Lib.hid B_W.out.drew
    first
    | go_region_held3 (fun w' => w'.cell? ⟨w.heap.size, 0, none⟩ = some (.bool b1) ∧ w'.cell? ⟨w.heap.size, 1, none⟩ = some (.slice A xs.length c) ∧ w'.cell? ⟨gW1, 0, none⟩ = some (.bool b2) ∧ w'.cell? ⟨gW1, 1, none⟩ = some (.slice B ys.length d)) (go_keep)
       (first
        | (go_at_call 87
           refine (add_ok W.drew A B c d xs ys (HX.out.below B_Wd.out) (HY.out.below B_Wd.out) hsx hsy).mono ?_
           rintro e_ w1 ⟨A1, c1, z1, rfl, HZ1, hz1, hB⟩
           have V0_w1 := Lib.hid (Vr.below' V0_Wd.out hB)
           have V0_w1c0 := (V0_w1.out).cell 0 rfl
           have V0_w1c1 := (V0_w1.out).cell 1 rfl
           have V1_w1 := Lib.hid (Vr.below' V1_Wd.out hB)
           have V1_w1c0 := (V1_w1.out).cell 0 rfl
           have V1_w1c1 := (V1_w1.out).cell 1 rfl
           have V2_w1 := Lib.hid (Vr.below' V2_Wd.out hB)
           have V2_w1c0 := (V2_w1.out).cell 0 rfl
           have V2_w1c1 := (V2_w1.out).cell 1 rfl
           have V2_w1f0 := (V2_w1.out).thaw 0
           have V2_w1f1 := (V2_w1.out).thaw 1
           have B_w1 := Lib.hid (below_on B_Wd.out hB)
           have Z_w1 := Lib.hid hz1
           have hl1 : z1.length ≤ 70368744177664 := by rw [HZ1.out]; exact Nat.le_trans (add_len HX.out.2 HY.out.2) (by omega)
           have HL1 := Lib.hid hl1
           clear hl1
           clear hB hz1)
        | (go_at_call 86
           refine (make_ok w1 b1 A1 c1 z1 Z_w1.out HL1.out).mono ?_
           rintro e_ w2 ⟨b2x, A2, c2, z2, rfl, HB2, HZ2, hz2, hB⟩
           have V0_w2 := Lib.hid (Vr.below' V0_w1.out hB)
           have V0_w2c0 := (V0_w2.out).cell 0 rfl
           have V0_w2c1 := (V0_w2.out).cell 1 rfl
           have V1_w2 := Lib.hid (Vr.below' V1_w1.out hB)
           have V1_w2c0 := (V1_w2.out).cell 0 rfl
           have V1_w2c1 := (V1_w2.out).cell 1 rfl
           have V2_w2 := Lib.hid (Vr.below' V2_w1.out hB)
           have V2_w2c0 := (V2_w2.out).cell 0 rfl
           have V2_w2c1 := (V2_w2.out).cell 1 rfl
           have V2_w2f0 := (V2_w2.out).thaw 0
           have V2_w2f1 := (V2_w2.out).thaw 1
           have Z_w2 := Lib.hid (RN.below Z_w1.out hB)
           have B_w2 := Lib.hid (below_on B_w1.out hB)
           have Y_w2 := Lib.hid hz2
           clear hB hz2))
    | fail
    go_wp2_with fail
    have ez : zv b1 z1 = zv b1 xs + zv b2 ys := by
      rw [← HBB.out]
      have h1 := V_nonneg HX.out.2
      have h2 := V_nonneg HY.out.2
      have e : V z1 = V xs + V ys := by rw [HZ1.out, V_limbs]; omega
      unfold zv
      rw [e]
      split <;> omega
    have Y_y1 := (Y_w2.out).apart (V2_w2.out) (nd_int _ _ _ _) 0 (.bool b2x)
    have V2_y1 := (V2_w2.out).set 0 (.bool b2x)
    have Y_y2 := (Y_y1).apart (V2_y1) (nd_int _ _ _ _) 1 (.slice A2 z2.length c2)
    have V2_y2 := (V2_y1).set 1 (.slice A2 z2.length c2)
    have V2_yy : Vr ((w2.setCell ⟨gW2, 0, none⟩ (.bool b2x)).setCell ⟨gW2, 1, none⟩ (.slice A2 z2.length c2)) gW2 26 #[.bool b2x, .slice A2 z2.length c2] := V2_y2
    refine bodyPost_ret (v := .agg #[.bool b2x, .slice A2 z2.length c2]) (by simp [results, Tryz.results52, go_sem, V2_yy.cell 0 rfl, V2_yy.cell 1 rfl]) rfl ?_
    exact ⟨b2x, A2, c2, z2, rfl, by rw [← ez]; exact HB2, by rw [← ez]; exact HZ2, Y_y2, (below_set (below_set B_w2.out hgeW2 _) hgeW2 _)⟩
  · have hne : (b1 == b2) = false := by simpa using hbb
    by_cases hle : V ys ≤ V xs
    · have HLE := Lib.hid hle
      clear hle hbb
      go_wp2_with fail
      refine (sub_yes W A B c d xs ys (HX.out.below B_W.out) (HY.out.below B_W.out) HLE.out (by omega)).mono ?_
      rintro e_ w3 ⟨A3, c3, z3, rfl, HZ3, hz3, hB⟩
      have V0_w3 := Lib.hid (Vr.below' V0_W.out hB)
      have V0_w3c0 := (V0_w3.out).cell 0 rfl
      have V0_w3c1 := (V0_w3.out).cell 1 rfl
      have V1_w3 := Lib.hid (Vr.below' V1_W.out hB)
      have V1_w3c0 := (V1_w3.out).cell 0 rfl
      have V1_w3c1 := (V1_w3.out).cell 1 rfl
      have V2_w3 := Lib.hid (Vr.below' V2_W.out hB)
      have B_w3 := Lib.hid (below_on B_W.out hB)
      have R_w3 := Lib.hid hz3
      have hl3 : z3.length ≤ 70368744177664 := by rw [HZ3.out]; exact Nat.le_trans (limbs_le_len HX.out.2 (Nat.sub_le _ _)) (by omega)
      clear hB hz3
      go_wp2_with fail
      refine (make_ok w3 b1 A3 c3 z3 R_w3.out hl3).mono ?_
      rintro e_ w4 ⟨b4, A4, c4, z4, rfl, HB4, HZ4, hz4, hB⟩
      have V2_w4 := Lib.hid (Vr.below' V2_w3.out hB)
      have V2_w4c0 := (V2_w4.out).cell 0 rfl
      have V2_w4c1 := (V2_w4.out).cell 1 rfl
      have V2_w4f0 := (V2_w4.out).thaw 0
      have V2_w4f1 := (V2_w4.out).thaw 1
      have B_w4 := Lib.hid (below_on B_w3.out hB)
      have R_w4 := Lib.hid hz4
      clear hB hz4
      go_wp2_with fail
      have ez : zv b1 z3 = zv b1 xs + zv b2 ys := by
        have h1 := V_nonneg HX.out.2
        have h2 := V_nonneg HY.out.2
        have h3 := HLE.out
        have e : V z3 = V xs - V ys := by rw [HZ3.out, V_limbs]; omega
        have h4 : b2 = !b1 := by cases b1 <;> cases b2 <;> simp_all
        rw [h4]
        cases b1
        · show V z3 = V xs + -V ys
          omega
        · show -V z3 = -V xs + V ys
          omega
      have R_y1 := (R_w4.out).apart (V2_w4.out) (nd_int _ _ _ _) 0 (.bool b4)
      have V2_y1 := (V2_w4.out).set 0 (.bool b4)
      have R_y2 := (R_y1).apart (V2_y1) (nd_int _ _ _ _) 1 (.slice A4 z4.length c4)
      have V2_y2 := (V2_y1).set 1 (.slice A4 z4.length c4)
      have V2_yy : Vr ((w4.setCell ⟨gW2, 0, none⟩ (.bool b4)).setCell ⟨gW2, 1, none⟩ (.slice A4 z4.length c4)) gW2 26 #[.bool b4, .slice A4 z4.length c4] := V2_y2
      refine bodyPost_ret (v := .agg #[.bool b4, .slice A4 z4.length c4]) (by simp [results, Tryz.results52, go_sem, V2_yy.cell 0 rfl, V2_yy.cell 1 rfl]) rfl ?_
      exact ⟨b4, A4, c4, z4, rfl, by rw [← ez]; exact HB4, by rw [← ez]; exact HZ4, R_y2, (below_set (below_set B_w4.out hgeW2 _) hgeW2 _)⟩
    · have HLT : Hid (V xs < V ys) := by show _ < _; omega
      clear hle hbb
      go_wp2_with fail
      refine (sub_no W A B c d xs ys (HX.out.below B_W.out) (HY.out.below B_W.out) HLT.out).mono ?_
      rintro e_ w1 ⟨A1, c1, z1, rfl, HZ1, hz1, hB⟩
      have V0_w1 := Lib.hid (Vr.below' V0_W.out hB)
      have V0_w1c0 := (V0_w1.out).cell 0 rfl
      have V0_w1c1 := (V0_w1.out).cell 1 rfl
      have V1_w1 := Lib.hid (Vr.below' V1_W.out hB)
      have V1_w1c0 := (V1_w1.out).cell 0 rfl
      have V1_w1c1 := (V1_w1.out).cell 1 rfl
      have V2_w1 := Lib.hid (Vr.below' V2_W.out hB)
      have B_w1 := Lib.hid (below_on B_W.out hB)
      clear hB hz1
      go_wp2_with fail
      refine (sub_yes w1 B A d c ys xs (HY.out.below B_w1.out) (HX.out.below B_w1.out) (Int.le_of_lt HLT.out) (by omega)).mono ?_
      rintro e_ w3 ⟨A3, c3, z3, rfl, HZ3, hz3, hB⟩
      have V0_w3 := Lib.hid (Vr.below' V0_w1.out hB)
      have V0_w3c0 := (V0_w3.out).cell 0 rfl
      have V0_w3c1 := (V0_w3.out).cell 1 rfl
      have V1_w3 := Lib.hid (Vr.below' V1_w1.out hB)
      have V1_w3c0 := (V1_w3.out).cell 0 rfl
      have V1_w3c1 := (V1_w3.out).cell 1 rfl
      have V2_w3 := Lib.hid (Vr.below' V2_w1.out hB)
      have B_w3 := Lib.hid (below_on B_w1.out hB)
      have R_w3 := Lib.hid hz3
      have hl3 : z3.length ≤ 70368744177664 := by rw [HZ3.out]; exact Nat.le_trans (limbs_le_len HY.out.2 (Nat.sub_le _ _)) (by omega)
      clear hB hz3
      go_wp2_with fail
      refine (make_ok w3 b2 A3 c3 z3 R_w3.out hl3).mono ?_
      rintro e_ w4 ⟨b4, A4, c4, z4, rfl, HB4, HZ4, hz4, hB⟩
      have V2_w4 := Lib.hid (Vr.below' V2_w3.out hB)
      have V2_w4c0 := (V2_w4.out).cell 0 rfl
      have V2_w4c1 := (V2_w4.out).cell 1 rfl
      have V2_w4f0 := (V2_w4.out).thaw 0
      have V2_w4f1 := (V2_w4.out).thaw 1
      have B_w4 := Lib.hid (below_on B_w3.out hB)
      have R_w4 := Lib.hid hz4
      clear hB hz4
      go_wp2_with fail
      have ez : zv b2 z3 = zv b1 xs + zv b2 ys := by
        have h1 := V_nonneg HX.out.2
        have h2 := V_nonneg HY.out.2
        have h3 := HLT.out
        have e : V z3 = V ys - V xs := by rw [HZ3.out, V_limbs]; omega
        have h4 : b1 = !b2 := by cases b1 <;> cases b2 <;> simp_all
        rw [h4]
        cases b2
        · show V z3 = -V xs + V ys
          omega
        · show -V z3 = V xs + -V ys
          omega
      have R_y1 := (R_w4.out).apart (V2_w4.out) (nd_int _ _ _ _) 0 (.bool b4)
      have V2_y1 := (V2_w4.out).set 0 (.bool b4)
      have R_y2 := (R_y1).apart (V2_y1) (nd_int _ _ _ _) 1 (.slice A4 z4.length c4)
      have V2_y2 := (V2_y1).set 1 (.slice A4 z4.length c4)
      have V2_yy : Vr ((w4.setCell ⟨gW2, 0, none⟩ (.bool b4)).setCell ⟨gW2, 1, none⟩ (.slice A4 z4.length c4)) gW2 26 #[.bool b4, .slice A4 z4.length c4] := V2_y2
      refine bodyPost_ret (v := .agg #[.bool b4, .slice A4 z4.length c4]) (by simp [results, Tryz.results52, go_sem, V2_yy.cell 0 rfl, V2_yy.cell 1 rfl]) rfl ?_
      exact ⟨b4, A4, c4, z4, rfl, by rw [← ez]; exact HB4, by rw [← ez]; exact HZ4, R_y2, (below_set (below_set B_w4.out hgeW2 _) hgeW2 _)⟩

end Go.Proofs.YtocpncjmcaecoaaGreat.M
namespace Go.Proofs.YtocpncjmcaecoaaGreat.M
set_option maxRecDepth 10000
open Go.RowKit
set_option linter.unusedVariables false
set_option linter.unusedSimpArgs false
/-- Two integers in normal form, and true. -/
def RetII (y z : Int) (w : World) (e : Ending) (w' : World) : Prop := ∃ b A c xs b2 B d ys, e = .returned (.tuple #[.agg #[.bool b, .slice A xs.length c], .agg #[.bool b2, .slice B ys.length d], .bool true]) ∧ Hid (b = decide (y < 0)) ∧ Hid (xs = limbs y.natAbs) ∧ Hid (b2 = decide (z < 0)) ∧ Hid (ys = limbs z.natAbs) ∧ RN w' A c xs ∧ RN w' B d ys ∧ Below w.heap.size w w'
theorem div_pos_parts {n d : Int} (hn : 0 ≤ n) (hd : 0 < d) : n / d = (((n.toNat / d.toNat : Nat)) : Int) ∧ n % d = ((n.toNat % d.toNat : Nat) : Int) := by
  rw [Int.natCast_ediv, Int.natCast_emod, Int.toNat_of_nonneg hn, Int.toNat_of_nonneg (by omega)]
  exact ⟨rfl, rfl⟩
theorem div_neg_parts {n d : Int} (hd : 0 < d) : (n % d = 0 → (-n) / d = -(n / d) ∧ (-n) % d = 0) ∧ (n % d ≠ 0 → (-n) / d = -(n / d + 1) ∧ (-n) % d = d - n % d) := by
  have h1 := Int.mul_ediv_add_emod n d
  have h2 := Int.emod_nonneg n (show d ≠ 0 by omega)
  have h3 := Int.emod_lt_of_pos n hd
  constructor
  · intro h0
    have e : -n = d * (-(n / d)) := by rw [Int.mul_neg]; omega
    rw [e]
    exact ⟨Int.mul_ediv_cancel_left _ (by omega), Int.mul_emod_right _ _⟩
  · intro h0
    have e : -n = (d - n % d) + d * (-(n / d + 1)) := by
      rw [Int.mul_neg, Int.mul_add, Int.mul_one]
      omega
    have e1 : (-n) / d = -(n / d + 1) := by
      rw [e, Int.add_mul_ediv_left _ _ (by omega), Int.ediv_eq_zero_of_lt (by omega) (by omega)]
      omega
    have e2 : (-n) % d = d - n % d := by
      have h4 := Int.mul_ediv_add_emod (-n) d
      rw [e1, Int.mul_neg, Int.mul_add, Int.mul_one] at h4
      omega
    exact ⟨e1, e2⟩

set_option maxHeartbeats 3200000 in
theorem idivMod_ok (w : World) (b1 : Bool) (A B : Option Addr) (c d : Nat) (xs ys : List Int) (hx : RN w A c xs) (hy : RN w B d ys) (hsx : xs.length ≤ 35184372088800) (hsy : ys.length ≤ 35184372088800) (hp : 0 < V ys) :
    Calls Tryz.prog 59 #[.agg #[.bool b1, .slice A xs.length c], .agg #[.bool false, .slice B ys.length d]] w (RetII (zv b1 xs / V ys) (zv b1 xs % V ys) w) := by
  have HX := Lib.hid hx
  have HY := Lib.hid hy
  clear hx hy
  have HP := Lib.hid hp
  clear hp
  go_enter Tryz.func59, Tryz.ntmps59
  have hxn := V_nonneg HX.out.2
  go_upto_region 1 with fail
  obtain ⟨W, hW⟩ : ∃ W, W = ((((w.alloc (.cells #[.bool b1, .slice A xs.length c] 26)).alloc (.cells #[.bool false, .slice B ys.length d] 26)).alloc (.cells #[.bool false, .slice none 0 0] 26)).alloc (.cells #[.bool false, .slice none 0 0] 26)) := ⟨_, rfl⟩
  rw [← hW]
  have hBW : Below w.heap.size w W := by rw [hW]; exact (((((Below.refl _ _).alloc (Nat.le_refl _) _).alloc (by simp only [size_alloc]; omega) _).alloc (by simp only [size_alloc]; omega) _).alloc (by simp only [size_alloc]; omega) _)
  have vW0 : Vr W (w.heap.size) 26 #[.bool b1, .slice A xs.length c] := by rw [hW]; exact ((((Vr.new' _ _ _ (by simp only [size_alloc])).alloc _).alloc _).alloc _)
  have vW1 : Vr W (w.heap.size + 1) 26 #[.bool false, .slice B ys.length d] := by rw [hW]; exact (((Vr.new' _ _ _ (by simp only [size_alloc])).alloc _).alloc _)
  have vW2 : Vr W (w.heap.size + 1 + 1) 26 #[.bool false, .slice none 0 0] := by rw [hW]; exact ((Vr.new' _ _ _ (by simp only [size_alloc])).alloc _)
  have vW3 : Vr W (w.heap.size + 1 + 1 + 1) 26 #[.bool false, .slice none 0 0] := by rw [hW]; exact (Vr.new' _ _ _ (by simp only [size_alloc]))
  clear hW
  obtain ⟨gW3, hgW3⟩ : ∃ g, w.heap.size + 1 + 1 + 1 = g := ⟨_, rfl⟩
  rw [hgW3] at vW3 ⊢
  obtain ⟨gW2, hgW2⟩ : ∃ g, w.heap.size + 1 + 1 = g := ⟨_, rfl⟩
  rw [hgW2] at vW2 ⊢
  obtain ⟨gW1, hgW1⟩ : ∃ g, w.heap.size + 1 = g := ⟨_, rfl⟩
  rw [hgW1] at vW1 ⊢
  have hneW01 : w.heap.size ≠ gW1 := by omega
  have hneW02 : w.heap.size ≠ gW2 := by omega
  have hneW03 : w.heap.size ≠ gW3 := by omega
  have hgeW1 : w.heap.size ≤ gW1 := by omega
  have hneW10 : gW1 ≠ w.heap.size := by omega
  have hneW12 : gW1 ≠ gW2 := by omega
  have hneW13 : gW1 ≠ gW3 := by omega
  have hgeW2 : w.heap.size ≤ gW2 := by omega
  have hneW20 : gW2 ≠ w.heap.size := by omega
  have hneW21 : gW2 ≠ gW1 := by omega
  have hneW23 : gW2 ≠ gW3 := by omega
  have hgeW3 : w.heap.size ≤ gW3 := by omega
  have hneW30 : gW3 ≠ w.heap.size := by omega
  have hneW31 : gW3 ≠ gW1 := by omega
  have hneW32 : gW3 ≠ gW2 := by omega
  have HVW0 := Lib.hid vW0
  have HVW1 := Lib.hid vW1
  have HVW2 := Lib.hid vW2
  have HVW3 := Lib.hid vW3
  have HBW := Lib.hid hBW
  clear hBW vW0 vW1 vW2 vW3 hgW1 hgW2 hgW3
  have V0_W := HVW0
  have V1_W := HVW1
  have V2_W := HVW2
  have V3_W := HVW3
  have B_W := HBW
  have oc0 := (HVW0.out).cell 0 rfl
  have oc1 := (HVW0.out).cell 1 rfl
  have pc0 := (HVW1.out).cell 0 rfl
  have pc1 := (HVW1.out).cell 1 rfl
  go_wp2_with fail
  refine (divMod_ok W A B c d xs ys (HX.out.below B_W.out) (HY.out.below B_W.out) HP.out (by omega)).mono ?_
  rintro e_ w1 ⟨A1, c1, q, B1, d1, r, rfl, HQ, HR, hq, hr, hB⟩
  have V0_w1 := Lib.hid (Vr.below' V0_W.out hB)
  have V0_w1c0 := (V0_w1.out).cell 0 rfl
  have V0_w1c1 := (V0_w1.out).cell 1 rfl
  have V1_w1 := Lib.hid (Vr.below' V1_W.out hB)
  have V1_w1c0 := (V1_w1.out).cell 0 rfl
  have V1_w1c1 := (V1_w1.out).cell 1 rfl
  have V2_w1 := Lib.hid (Vr.below' V2_W.out hB)
  have V3_w1 := Lib.hid (Vr.below' V3_W.out hB)
  have B_w1 := Lib.hid (below_on B_W.out hB)
  have Q_w1 := Lib.hid hq
  have R_w1 := Lib.hid hr
  clear hB hq hr
  have hVq : V q = V xs / V ys := by rw [HQ.out, V_limbs]; exact (div_pos_parts hxn HP.out).1.symm
  have hVr : V r = V xs % V ys := by rw [HR.out, V_limbs]; exact (div_pos_parts hxn HP.out).2.symm
  have hlq : q.length ≤ 35184372088800 := by rw [HQ.out]; exact Nat.le_trans (limbs_le_len HX.out.2 (Nat.div_le_self _ _)) (by omega)
  have hlr : r.length ≤ 35184372088800 := by rw [HR.out]; exact Nat.le_trans (limbs_le_len HX.out.2 (Nat.mod_le _ _)) (by omega)
  have HVQ := Lib.hid hVq
  have HVR := Lib.hid hVr
  have HLQ := Lib.hid hlq
  have HLR := Lib.hid hlr
  clear hVq hVr hlq hlr
  go_upto_region 4 with fail
  have HS2 : Hid (cmpI (zv false ys) 0 = 1) := cmpI_gt HP.out
  rcases zv_sign (b := b1) HX.out.2 with ⟨h1, h2, h3⟩ | ⟨h1, h2, h3⟩ | ⟨h1, h2, h3⟩
  · have HS1 : Hid (cmpI (zv b1 xs) 0 = -1) := h3
    have HNV : Hid (zv b1 xs = -V xs) := by show _ = _; rw [h2]; rfl
    clear h1 h2 h3
    by_cases hr0 : r.length = 0
    · have hz1 : ((r.length : Int) == 0) = true := beq_iff_eq.2 (by omega)
      have hz2 : (r.length == 0) = true := beq_iff_eq.2 hr0
      have hvr : V xs % V ys = 0 := by rw [← HVR.out, List.length_eq_zero_iff.1 hr0]; rfl
      have HE1 : Hid (zv true q = zv b1 xs / V ys) := by show _ = _; rw [zv_t, HVQ.out, HNV.out]; exact ((div_neg_parts HP.out).1 hvr).1.symm
      have HE2 : Hid (zv false r = zv b1 xs % V ys) := by show _ = _; rw [zv_f, HVR.out, HNV.out, hvr]; exact ((div_neg_parts HP.out).1 hvr).2.symm
      clear hr0 hvr
      have V0_w1c0 := (V0_w1.out).cell 0 rfl
      have V0_w1c1 := (V0_w1.out).cell 1 rfl
      have V1_w1c0 := (V1_w1.out).cell 0 rfl
      have V1_w1c1 := (V1_w1.out).cell 1 rfl
      have V0_w1d := Lib.hid V0_w1.out.drew
      have V1_w1d := Lib.hid V1_w1.out.drew
      have V2_w1d := Lib.hid V2_w1.out.drew
      have V3_w1d := Lib.hid V3_w1.out.drew
      have Q_w1d := Lib.hid (Q_w1.out.below (Below.refl _ _).drew)
      have R_w1d := Lib.hid (R_w1.out.below (Below.refl _ _).drew)
      have B_w1d := Lib.hid B_w1.out.drew
      first
      | go_region_held3 (fun w' => w'.cell? ⟨w.heap.size, 0, none⟩ = some (.bool b1) ∧ w'.cell? ⟨w.heap.size, 1, none⟩ = some (.slice A xs.length c) ∧ w'.cell? ⟨gW1, 0, none⟩ = some (.bool false) ∧ w'.cell? ⟨gW1, 1, none⟩ = some (.slice B ys.length d)) (go_keep)
         (first
          | (go_at_call_of 56 A
             refine (sign_ok w1.drew b1 A c xs (HX.out.below B_w1d.out) (by omega)).mono ?_
             rw [HS1.out]
             rintro e_ a4 ⟨rfl, hB⟩
             have V0_a4 := Lib.hid (Vr.below' V0_w1d.out hB)
             have V0_a4c0 := (V0_a4.out).cell 0 rfl
             have V0_a4c1 := (V0_a4.out).cell 1 rfl
             have V1_a4 := Lib.hid (Vr.below' V1_w1d.out hB)
             have V1_a4c0 := (V1_a4.out).cell 0 rfl
             have V1_a4c1 := (V1_a4.out).cell 1 rfl
             have V2_a4 := Lib.hid (Vr.below' V2_w1d.out hB)
             have V3_a4 := Lib.hid (Vr.below' V3_w1d.out hB)
             have Q_a4 := Lib.hid (RN.below Q_w1d.out hB)
             have R_a4 := Lib.hid (RN.below R_w1d.out hB)
             have B_a4 := Lib.hid (below_on B_w1d.out hB)
             clear hB)
          | (go_at_call_of 56 B
             refine (sign_ok a4 false B d ys (HY.out.below B_a4.out) (by omega)).mono ?_
             rw [HS2.out]
             rintro e_ b4 ⟨rfl, hB⟩
             have V0_b4 := Lib.hid (Vr.below' V0_a4.out hB)
             have V0_b4c0 := (V0_b4.out).cell 0 rfl
             have V0_b4c1 := (V0_b4.out).cell 1 rfl
             have V1_b4 := Lib.hid (Vr.below' V1_a4.out hB)
             have V1_b4c0 := (V1_b4.out).cell 0 rfl
             have V1_b4c1 := (V1_b4.out).cell 1 rfl
             have V2_b4 := Lib.hid (Vr.below' V2_a4.out hB)
             have V3_b4 := Lib.hid (Vr.below' V3_a4.out hB)
             have Q_b4 := Lib.hid (RN.below Q_a4.out hB)
             have R_b4 := Lib.hid (RN.below R_a4.out hB)
             have B_b4 := Lib.hid (below_on B_a4.out hB)
             clear hB))
      | fail
      go_upto_region 5 with fail
      have V0_b4c0 := (V0_b4.out).cell 0 rfl
      have V0_b4c1 := (V0_b4.out).cell 1 rfl
      have V1_b4c0 := (V1_b4.out).cell 0 rfl
      have V1_b4c1 := (V1_b4.out).cell 1 rfl
      have V0_b4d := Lib.hid V0_b4.out.drew
      have V1_b4d := Lib.hid V1_b4.out.drew
      have V2_b4d := Lib.hid V2_b4.out.drew
      have V3_b4d := Lib.hid V3_b4.out.drew
      have Q_b4d := Lib.hid (Q_b4.out.below (Below.refl _ _).drew)
      have R_b4d := Lib.hid (R_b4.out.below (Below.refl _ _).drew)
      have B_b4d := Lib.hid B_b4.out.drew
      first
      | go_region_held3 (fun w' => w'.cell? ⟨w.heap.size, 0, none⟩ = some (.bool b1) ∧ w'.cell? ⟨w.heap.size, 1, none⟩ = some (.slice A xs.length c) ∧ w'.cell? ⟨gW1, 0, none⟩ = some (.bool false) ∧ w'.cell? ⟨gW1, 1, none⟩ = some (.slice B ys.length d)) (go_keep)
         (first
          | (go_at_call_of 56 A
             refine (sign_ok b4.drew b1 A c xs (HX.out.below B_b4d.out) (by omega)).mono ?_
             rw [HS1.out]
             rintro e_ ab4 ⟨rfl, hB⟩
             have V0_ab4 := Lib.hid (Vr.below' V0_b4d.out hB)
             have V0_ab4c0 := (V0_ab4.out).cell 0 rfl
             have V0_ab4c1 := (V0_ab4.out).cell 1 rfl
             have V1_ab4 := Lib.hid (Vr.below' V1_b4d.out hB)
             have V1_ab4c0 := (V1_ab4.out).cell 0 rfl
             have V1_ab4c1 := (V1_ab4.out).cell 1 rfl
             have V2_ab4 := Lib.hid (Vr.below' V2_b4d.out hB)
             have V2_ab4c0 := (V2_ab4.out).cell 0 rfl
             have V2_ab4c1 := (V2_ab4.out).cell 1 rfl
             have V2_ab4f0 := (V2_ab4.out).thaw 0
             have V2_ab4f1 := (V2_ab4.out).thaw 1
             have V3_ab4 := Lib.hid (Vr.below' V3_b4d.out hB)
             have V3_ab4c0 := (V3_ab4.out).cell 0 rfl
             have V3_ab4c1 := (V3_ab4.out).cell 1 rfl
             have V3_ab4f0 := (V3_ab4.out).thaw 0
             have V3_ab4f1 := (V3_ab4.out).thaw 1
             have Q_ab4 := Lib.hid (RN.below Q_b4d.out hB)
             have R_ab4 := Lib.hid (RN.below R_b4d.out hB)
             have B_ab4 := Lib.hid (below_on B_b4d.out hB)
             clear hB)
          | (go_at_call_of 56 B
             refine (sign_ok ab4 false B d ys (HY.out.below B_ab4.out) (by omega)).mono ?_
             rw [HS2.out]
             rintro e_ bb4 ⟨rfl, hB⟩
             have V0_bb4 := Lib.hid (Vr.below' V0_ab4.out hB)
             have V0_bb4c0 := (V0_bb4.out).cell 0 rfl
             have V0_bb4c1 := (V0_bb4.out).cell 1 rfl
             have V1_bb4 := Lib.hid (Vr.below' V1_ab4.out hB)
             have V1_bb4c0 := (V1_bb4.out).cell 0 rfl
             have V1_bb4c1 := (V1_bb4.out).cell 1 rfl
             have V2_bb4 := Lib.hid (Vr.below' V2_ab4.out hB)
             have V2_bb4c0 := (V2_bb4.out).cell 0 rfl
             have V2_bb4c1 := (V2_bb4.out).cell 1 rfl
             have V2_bb4f0 := (V2_bb4.out).thaw 0
             have V2_bb4f1 := (V2_bb4.out).thaw 1
             have V3_bb4 := Lib.hid (Vr.below' V3_ab4.out hB)
             have V3_bb4c0 := (V3_bb4.out).cell 0 rfl
             have V3_bb4c1 := (V3_bb4.out).cell 1 rfl
             have V3_bb4f0 := (V3_bb4.out).thaw 0
             have V3_bb4f1 := (V3_bb4.out).thaw 1
             have Q_bb4 := Lib.hid (RN.below Q_ab4.out hB)
             have R_bb4 := Lib.hid (RN.below R_ab4.out hB)
             have B_bb4 := Lib.hid (below_on B_ab4.out hB)
             clear hB)
          | (go_at_call_of 86 A1
             refine (make_ok bb4 true A1 c1 q Q_bb4.out (by have := HLQ.out; omega)).mono ?_
             rintro e_ cb4 ⟨b5, A5, c5, z5, rfl, HB5, HZ5, hz5, hB⟩
             have V0_cb4 := Lib.hid (Vr.below' V0_bb4.out hB)
             have V0_cb4c0 := (V0_cb4.out).cell 0 rfl
             have V0_cb4c1 := (V0_cb4.out).cell 1 rfl
             have V1_cb4 := Lib.hid (Vr.below' V1_bb4.out hB)
             have V1_cb4c0 := (V1_cb4.out).cell 0 rfl
             have V1_cb4c1 := (V1_cb4.out).cell 1 rfl
             have V2_cb4 := Lib.hid (Vr.below' V2_bb4.out hB)
             have V2_cb4c0 := (V2_cb4.out).cell 0 rfl
             have V2_cb4c1 := (V2_cb4.out).cell 1 rfl
             have V2_cb4f0 := (V2_cb4.out).thaw 0
             have V2_cb4f1 := (V2_cb4.out).thaw 1
             have V3_cb4 := Lib.hid (Vr.below' V3_bb4.out hB)
             have V3_cb4c0 := (V3_cb4.out).cell 0 rfl
             have V3_cb4c1 := (V3_cb4.out).cell 1 rfl
             have V3_cb4f0 := (V3_cb4.out).thaw 0
             have V3_cb4f1 := (V3_cb4.out).thaw 1
             have R_cb4 := Lib.hid (RN.below R_bb4.out hB)
             have B_cb4 := Lib.hid (below_on B_bb4.out hB)
             have Y_cb4 := Lib.hid hz5
             clear hB hz5)
          | (go_at_call_of 86 B1
             refine (make_ok cb4 false B1 d1 r R_cb4.out (by have := HLR.out; omega)).mono ?_
             rintro e_ db4 ⟨b6, A6, c6, z6, rfl, HB6, HZ6, hz6, hB⟩
             have V0_db4 := Lib.hid (Vr.below' V0_cb4.out hB)
             have V0_db4c0 := (V0_db4.out).cell 0 rfl
             have V0_db4c1 := (V0_db4.out).cell 1 rfl
             have V1_db4 := Lib.hid (Vr.below' V1_cb4.out hB)
             have V1_db4c0 := (V1_db4.out).cell 0 rfl
             have V1_db4c1 := (V1_db4.out).cell 1 rfl
             have V2_db4 := Lib.hid (Vr.below' V2_cb4.out hB)
             have V2_db4c0 := (V2_db4.out).cell 0 rfl
             have V2_db4c1 := (V2_db4.out).cell 1 rfl
             have V2_db4f0 := (V2_db4.out).thaw 0
             have V2_db4f1 := (V2_db4.out).thaw 1
             have V3_db4 := Lib.hid (Vr.below' V3_cb4.out hB)
             have V3_db4c0 := (V3_db4.out).cell 0 rfl
             have V3_db4c1 := (V3_db4.out).cell 1 rfl
             have V3_db4f0 := (V3_db4.out).thaw 0
             have V3_db4f1 := (V3_db4.out).thaw 1
             have R_db4 := Lib.hid (RN.below R_cb4.out hB)
             have Y_db4 := Lib.hid (RN.below Y_cb4.out hB)
             have B_db4 := Lib.hid (below_on B_cb4.out hB)
             have X_db4 := Lib.hid hz6
             clear hB hz6))
      | fail
      go_wp2_with fail
      have Y_y1 := (Y_db4.out).apart (V2_db4.out) (nd_int _ _ _ _) 0 (.bool b5)
      have X_y1 := (X_db4.out).apart (V2_db4.out) (nd_int _ _ _ _) 0 (.bool b5)
      have V2_y1 := (V2_db4.out).set 0 (.bool b5)
      have V3_y1 := (V3_db4.out).other (show gW3 ≠ gW2 by first | assumption | omega) 0 (.bool b5)
      have Y_y2 := (Y_y1).apart (V2_y1) (nd_int _ _ _ _) 1 (.slice A5 z5.length c5)
      have X_y2 := (X_y1).apart (V2_y1) (nd_int _ _ _ _) 1 (.slice A5 z5.length c5)
      have V2_y2 := (V2_y1).set 1 (.slice A5 z5.length c5)
      have V3_y2 := (V3_y1).other (show gW3 ≠ gW2 by first | assumption | omega) 1 (.slice A5 z5.length c5)
      have V2_yy : Vr ((db4.setCell ⟨gW2, 0, none⟩ (.bool b5)).setCell ⟨gW2, 1, none⟩ (.slice A5 z5.length c5)) gW2 26 #[.bool b5, .slice A5 z5.length c5] := V2_y2
      have Y_y3 := (Y_y2).apart (V3_y2) (nd_int _ _ _ _) 0 (.bool b6)
      have X_y3 := (X_y2).apart (V3_y2) (nd_int _ _ _ _) 0 (.bool b6)
      have V2_y3 := (V2_yy).other (show gW2 ≠ gW3 by first | assumption | omega) 0 (.bool b6)
      have V3_y3 := (V3_y2).set 0 (.bool b6)
      have Y_y4 := (Y_y3).apart (V3_y3) (nd_int _ _ _ _) 1 (.slice A6 z6.length c6)
      have X_y4 := (X_y3).apart (V3_y3) (nd_int _ _ _ _) 1 (.slice A6 z6.length c6)
      have V2_y4 := (V2_y3).other (show gW2 ≠ gW3 by first | assumption | omega) 1 (.slice A6 z6.length c6)
      have V3_y4 := (V3_y3).set 1 (.slice A6 z6.length c6)
      have V3_yy : Vr ((((db4.setCell ⟨gW2, 0, none⟩ (.bool b5)).setCell ⟨gW2, 1, none⟩ (.slice A5 z5.length c5)).setCell ⟨gW3, 0, none⟩ (.bool b6)).setCell ⟨gW3, 1, none⟩ (.slice A6 z6.length c6)) gW3 26 #[.bool b6, .slice A6 z6.length c6] := V3_y4
      refine bodyPost_ret (v := .tuple #[.agg #[.bool b5, .slice A5 z5.length c5], .agg #[.bool b6, .slice A6 z6.length c6], .bool true]) (by simp [results, Tryz.results59, go_sem, V2_y4.cell 0 rfl, V2_y4.cell 1 rfl, V3_yy.cell 0 rfl, V3_yy.cell 1 rfl]) rfl ?_
      exact ⟨b5, A5, c5, z5, b6, A6, c6, z6, rfl, by rw [← HE1.out]; exact HB5, by rw [← HE1.out]; exact HZ5, by rw [← HE2.out]; exact HB6, by rw [← HE2.out]; exact HZ6, Y_y4, X_y4, (below_set (below_set (below_set (below_set B_db4.out hgeW2 _) hgeW2 _) hgeW3 _) hgeW3 _)⟩
    · have hz1 : ((r.length : Int) == 0) = false := beq_eq_false_iff_ne.2 (by omega)
      have hz2 : (r.length == 0) = false := beq_eq_false_iff_ne.2 hr0
      have hvr : V xs % V ys ≠ 0 := by
        rw [← HVR.out]
        have h : Nf r := by rw [HR.out]; exact limbs_nf _
        have := h.V_pos (by omega)
        omega
      have HRL : Hid (V r ≤ V ys) := by show _ ≤ _; rw [HVR.out]; exact Int.le_of_lt (Int.emod_lt_of_pos _ HP.out)
      have HEQ := Lib.hid ((div_neg_parts HP.out).2 hvr)
      clear hr0 hvr
      have V0_w1c0 := (V0_w1.out).cell 0 rfl
      have V0_w1c1 := (V0_w1.out).cell 1 rfl
      have V1_w1c0 := (V1_w1.out).cell 0 rfl
      have V1_w1c1 := (V1_w1.out).cell 1 rfl
      have V0_w1d := Lib.hid V0_w1.out.drew
      have V1_w1d := Lib.hid V1_w1.out.drew
      have V2_w1d := Lib.hid V2_w1.out.drew
      have V3_w1d := Lib.hid V3_w1.out.drew
      have Q_w1d := Lib.hid (Q_w1.out.below (Below.refl _ _).drew)
      have R_w1d := Lib.hid (R_w1.out.below (Below.refl _ _).drew)
      have B_w1d := Lib.hid B_w1.out.drew
      first
      | go_region_held3 (fun w' => w'.cell? ⟨w.heap.size, 0, none⟩ = some (.bool b1) ∧ w'.cell? ⟨w.heap.size, 1, none⟩ = some (.slice A xs.length c) ∧ w'.cell? ⟨gW1, 0, none⟩ = some (.bool false) ∧ w'.cell? ⟨gW1, 1, none⟩ = some (.slice B ys.length d)) (go_keep)
         (first
          | (go_at_call_of 56 A
             refine (sign_ok w1.drew b1 A c xs (HX.out.below B_w1d.out) (by omega)).mono ?_
             rw [HS1.out]
             rintro e_ a4 ⟨rfl, hB⟩
             have V0_a4 := Lib.hid (Vr.below' V0_w1d.out hB)
             have V0_a4c0 := (V0_a4.out).cell 0 rfl
             have V0_a4c1 := (V0_a4.out).cell 1 rfl
             have V1_a4 := Lib.hid (Vr.below' V1_w1d.out hB)
             have V1_a4c0 := (V1_a4.out).cell 0 rfl
             have V1_a4c1 := (V1_a4.out).cell 1 rfl
             have V2_a4 := Lib.hid (Vr.below' V2_w1d.out hB)
             have V3_a4 := Lib.hid (Vr.below' V3_w1d.out hB)
             have Q_a4 := Lib.hid (RN.below Q_w1d.out hB)
             have R_a4 := Lib.hid (RN.below R_w1d.out hB)
             have B_a4 := Lib.hid (below_on B_w1d.out hB)
             clear hB)
          | (go_at_call_of 56 B
             refine (sign_ok a4 false B d ys (HY.out.below B_a4.out) (by omega)).mono ?_
             rw [HS2.out]
             rintro e_ b4 ⟨rfl, hB⟩
             have V0_b4 := Lib.hid (Vr.below' V0_a4.out hB)
             have V0_b4c0 := (V0_b4.out).cell 0 rfl
             have V0_b4c1 := (V0_b4.out).cell 1 rfl
             have V1_b4 := Lib.hid (Vr.below' V1_a4.out hB)
             have V1_b4c0 := (V1_b4.out).cell 0 rfl
             have V1_b4c1 := (V1_b4.out).cell 1 rfl
             have V2_b4 := Lib.hid (Vr.below' V2_a4.out hB)
             have V3_b4 := Lib.hid (Vr.below' V3_a4.out hB)
             have Q_b4 := Lib.hid (RN.below Q_a4.out hB)
             have R_b4 := Lib.hid (RN.below R_a4.out hB)
             have B_b4 := Lib.hid (below_on B_a4.out hB)
             clear hB))
      | fail
      go_upto_region 6 with fail
      go_wp2_with fail
      refine (sub_yes b4 B B1 d d1 ys r (HY.out.below B_b4.out) R_b4.out HRL.out (by omega)).mono ?_
      rintro e_ w6 ⟨A6, c6, s6, rfl, HS6, hs6, hB⟩
      have V0_w6 := Lib.hid (Vr.below' V0_b4.out hB)
      have V0_w6c0 := (V0_w6.out).cell 0 rfl
      have V0_w6c1 := (V0_w6.out).cell 1 rfl
      have V1_w6 := Lib.hid (Vr.below' V1_b4.out hB)
      have V1_w6c0 := (V1_w6.out).cell 0 rfl
      have V1_w6c1 := (V1_w6.out).cell 1 rfl
      have V2_w6 := Lib.hid (Vr.below' V2_b4.out hB)
      have V3_w6 := Lib.hid (Vr.below' V3_b4.out hB)
      have Q_w6 := Lib.hid (RN.below Q_b4.out hB)
      have R_w6 := Lib.hid (RN.below R_b4.out hB)
      have B_w6 := Lib.hid (below_on B_b4.out hB)
      have Z_w6 := Lib.hid hs6
      have HL6 : Hid (s6.length ≤ 35184372088800) := by show _ ≤ _; rw [HS6.out]; exact Nat.le_trans (limbs_le_len HY.out.2 (Nat.sub_le _ _)) (by omega)
      clear hB hs6
      go_upto_region 7 with fail
      have V0_w6c0 := (V0_w6.out).cell 0 rfl
      have V0_w6c1 := (V0_w6.out).cell 1 rfl
      have V1_w6c0 := (V1_w6.out).cell 0 rfl
      have V1_w6c1 := (V1_w6.out).cell 1 rfl
      have V0_w6d := Lib.hid V0_w6.out.drew
      have V1_w6d := Lib.hid V1_w6.out.drew
      have V2_w6d := Lib.hid V2_w6.out.drew
      have V3_w6d := Lib.hid V3_w6.out.drew
      have Q_w6d := Lib.hid (Q_w6.out.below (Below.refl _ _).drew)
      have Z_w6d := Lib.hid (Z_w6.out.below (Below.refl _ _).drew)
      have B_w6d := Lib.hid B_w6.out.drew
      first
      | go_region_held3 (fun w' => w'.cell? ⟨w.heap.size, 0, none⟩ = some (.bool b1) ∧ w'.cell? ⟨w.heap.size, 1, none⟩ = some (.slice A xs.length c) ∧ w'.cell? ⟨gW1, 0, none⟩ = some (.bool false) ∧ w'.cell? ⟨gW1, 1, none⟩ = some (.slice B ys.length d)) (go_keep)
         (first
          | (go_at_call 82
             refine (of_ok w6.drew 1 (by omega) (by omega)).mono ?_
             rintro e_ a7 ⟨A7, c7, o7, rfl, HO7, ho7, hB⟩
             have V0_a7 := Lib.hid (Vr.below' V0_w6d.out hB)
             have V0_a7c0 := (V0_a7.out).cell 0 rfl
             have V0_a7c1 := (V0_a7.out).cell 1 rfl
             have V1_a7 := Lib.hid (Vr.below' V1_w6d.out hB)
             have V1_a7c0 := (V1_a7.out).cell 0 rfl
             have V1_a7c1 := (V1_a7.out).cell 1 rfl
             have V2_a7 := Lib.hid (Vr.below' V2_w6d.out hB)
             have V2_a7c0 := (V2_a7.out).cell 0 rfl
             have V2_a7c1 := (V2_a7.out).cell 1 rfl
             have V2_a7f0 := (V2_a7.out).thaw 0
             have V2_a7f1 := (V2_a7.out).thaw 1
             have V3_a7 := Lib.hid (Vr.below' V3_w6d.out hB)
             have V3_a7c0 := (V3_a7.out).cell 0 rfl
             have V3_a7c1 := (V3_a7.out).cell 1 rfl
             have V3_a7f0 := (V3_a7.out).thaw 0
             have V3_a7f1 := (V3_a7.out).thaw 1
             have Q_a7 := Lib.hid (RN.below Q_w6d.out hB)
             have Z_a7 := Lib.hid (RN.below Z_w6d.out hB)
             have B_a7 := Lib.hid (below_on B_w6d.out hB)
             have O_a7 := Lib.hid ho7
             have HLO : Hid (o7.length ≤ 1) := by show _ ≤ _; rw [HO7.out]; exact limbs_len (m := 1) (by decide)
             clear hB ho7)
          | (go_at_call 87
             refine (add_ok a7 A1 A7 c1 c7 q o7 Q_a7.out O_a7.out (by have := HLQ.out; omega) (by have := HLO.out; omega)).mono ?_
             rintro e_ a8 ⟨A8, c8, p8, rfl, HP8, hp8, hB⟩
             have V0_a8 := Lib.hid (Vr.below' V0_a7.out hB)
             have V0_a8c0 := (V0_a8.out).cell 0 rfl
             have V0_a8c1 := (V0_a8.out).cell 1 rfl
             have V1_a8 := Lib.hid (Vr.below' V1_a7.out hB)
             have V1_a8c0 := (V1_a8.out).cell 0 rfl
             have V1_a8c1 := (V1_a8.out).cell 1 rfl
             have V2_a8 := Lib.hid (Vr.below' V2_a7.out hB)
             have V2_a8c0 := (V2_a8.out).cell 0 rfl
             have V2_a8c1 := (V2_a8.out).cell 1 rfl
             have V2_a8f0 := (V2_a8.out).thaw 0
             have V2_a8f1 := (V2_a8.out).thaw 1
             have V3_a8 := Lib.hid (Vr.below' V3_a7.out hB)
             have V3_a8c0 := (V3_a8.out).cell 0 rfl
             have V3_a8c1 := (V3_a8.out).cell 1 rfl
             have V3_a8f0 := (V3_a8.out).thaw 0
             have V3_a8f1 := (V3_a8.out).thaw 1
             have Q_a8 := Lib.hid (RN.below Q_a7.out hB)
             have Z_a8 := Lib.hid (RN.below Z_a7.out hB)
             have O_a8 := Lib.hid (RN.below O_a7.out hB)
             have B_a8 := Lib.hid (below_on B_a7.out hB)
             have P_a8 := Lib.hid hp8
             have HLP : Hid (p8.length ≤ 70368744177664) := by show _ ≤ _; rw [HP8.out]; exact Nat.le_trans (add_len Q_a8.out.2 O_a8.out.2) (by have := HLQ.out; have := HLO.out; omega)
             clear hB hp8)
          | (go_at_call_of 86 A8
             refine (make_ok a8 true A8 c8 p8 P_a8.out HLP.out).mono ?_
             rintro e_ a9 ⟨b9, A9, c9, z9, rfl, HB9, HZ9, hz9, hB⟩
             have V0_a9 := Lib.hid (Vr.below' V0_a8.out hB)
             have V0_a9c0 := (V0_a9.out).cell 0 rfl
             have V0_a9c1 := (V0_a9.out).cell 1 rfl
             have V1_a9 := Lib.hid (Vr.below' V1_a8.out hB)
             have V1_a9c0 := (V1_a9.out).cell 0 rfl
             have V1_a9c1 := (V1_a9.out).cell 1 rfl
             have V2_a9 := Lib.hid (Vr.below' V2_a8.out hB)
             have V2_a9c0 := (V2_a9.out).cell 0 rfl
             have V2_a9c1 := (V2_a9.out).cell 1 rfl
             have V2_a9f0 := (V2_a9.out).thaw 0
             have V2_a9f1 := (V2_a9.out).thaw 1
             have V3_a9 := Lib.hid (Vr.below' V3_a8.out hB)
             have V3_a9c0 := (V3_a9.out).cell 0 rfl
             have V3_a9c1 := (V3_a9.out).cell 1 rfl
             have V3_a9f0 := (V3_a9.out).thaw 0
             have V3_a9f1 := (V3_a9.out).thaw 1
             have Z_a9 := Lib.hid (RN.below Z_a8.out hB)
             have B_a9 := Lib.hid (below_on B_a8.out hB)
             have Y_a9 := Lib.hid hz9
             clear hB hz9)
          | (go_at_call_of 86 A6
             refine (make_ok a9 false A6 c6 s6 Z_a9.out (by have := HL6.out; omega)).mono ?_
             rintro e_ a0 ⟨b0, A0, c0, z0, rfl, HB0, HZ0, hz0, hB⟩
             have V0_a0 := Lib.hid (Vr.below' V0_a9.out hB)
             have V0_a0c0 := (V0_a0.out).cell 0 rfl
             have V0_a0c1 := (V0_a0.out).cell 1 rfl
             have V1_a0 := Lib.hid (Vr.below' V1_a9.out hB)
             have V1_a0c0 := (V1_a0.out).cell 0 rfl
             have V1_a0c1 := (V1_a0.out).cell 1 rfl
             have V2_a0 := Lib.hid (Vr.below' V2_a9.out hB)
             have V2_a0c0 := (V2_a0.out).cell 0 rfl
             have V2_a0c1 := (V2_a0.out).cell 1 rfl
             have V2_a0f0 := (V2_a0.out).thaw 0
             have V2_a0f1 := (V2_a0.out).thaw 1
             have V3_a0 := Lib.hid (Vr.below' V3_a9.out hB)
             have V3_a0c0 := (V3_a0.out).cell 0 rfl
             have V3_a0c1 := (V3_a0.out).cell 1 rfl
             have V3_a0f0 := (V3_a0.out).thaw 0
             have V3_a0f1 := (V3_a0.out).thaw 1
             have Z_a0 := Lib.hid (RN.below Z_a9.out hB)
             have Y_a0 := Lib.hid (RN.below Y_a9.out hB)
             have B_a0 := Lib.hid (below_on B_a9.out hB)
             have X_a0 := Lib.hid hz0
             clear hB hz0))
      | fail
      go_wp2_with fail
      have HE1 : Hid (zv true p8 = zv b1 xs / V ys) := by
        show _ = _
        have h1 : V o7 = 1 := by rw [HO7.out, V_limbs]; rfl
        have h2 : V p8 = V q + 1 := by
          have h3 := V_nonneg Q_a8.out.2
          rw [HP8.out, V_limbs, h1]
          omega
        rw [zv_t, h2, HVQ.out, HNV.out]
        exact HEQ.out.1.symm
      have HE2 : Hid (zv false s6 = zv b1 xs % V ys) := by
        show _ = _
        have h1 := V_nonneg HY.out.2
        have h2 := HRL.out
        have h4 := V_nonneg R_b4.out.2
        have h3 : V s6 = V ys - V r := by rw [HS6.out, V_limbs]; omega
        rw [zv_f, h3, HVR.out, HNV.out]
        exact HEQ.out.2.symm
      have Y_y1 := (Y_a0.out).apart (V2_a0.out) (nd_int _ _ _ _) 0 (.bool b9)
      have X_y1 := (X_a0.out).apart (V2_a0.out) (nd_int _ _ _ _) 0 (.bool b9)
      have V2_y1 := (V2_a0.out).set 0 (.bool b9)
      have V3_y1 := (V3_a0.out).other (show gW3 ≠ gW2 by first | assumption | omega) 0 (.bool b9)
      have Y_y2 := (Y_y1).apart (V2_y1) (nd_int _ _ _ _) 1 (.slice A9 z9.length c9)
      have X_y2 := (X_y1).apart (V2_y1) (nd_int _ _ _ _) 1 (.slice A9 z9.length c9)
      have V2_y2 := (V2_y1).set 1 (.slice A9 z9.length c9)
      have V3_y2 := (V3_y1).other (show gW3 ≠ gW2 by first | assumption | omega) 1 (.slice A9 z9.length c9)
      have V2_yy : Vr ((a0.setCell ⟨gW2, 0, none⟩ (.bool b9)).setCell ⟨gW2, 1, none⟩ (.slice A9 z9.length c9)) gW2 26 #[.bool b9, .slice A9 z9.length c9] := V2_y2
      have Y_y3 := (Y_y2).apart (V3_y2) (nd_int _ _ _ _) 0 (.bool b0)
      have X_y3 := (X_y2).apart (V3_y2) (nd_int _ _ _ _) 0 (.bool b0)
      have V2_y3 := (V2_yy).other (show gW2 ≠ gW3 by first | assumption | omega) 0 (.bool b0)
      have V3_y3 := (V3_y2).set 0 (.bool b0)
      have Y_y4 := (Y_y3).apart (V3_y3) (nd_int _ _ _ _) 1 (.slice A0 z0.length c0)
      have X_y4 := (X_y3).apart (V3_y3) (nd_int _ _ _ _) 1 (.slice A0 z0.length c0)
      have V2_y4 := (V2_y3).other (show gW2 ≠ gW3 by first | assumption | omega) 1 (.slice A0 z0.length c0)
      have V3_y4 := (V3_y3).set 1 (.slice A0 z0.length c0)
      have V3_yy : Vr ((((a0.setCell ⟨gW2, 0, none⟩ (.bool b9)).setCell ⟨gW2, 1, none⟩ (.slice A9 z9.length c9)).setCell ⟨gW3, 0, none⟩ (.bool b0)).setCell ⟨gW3, 1, none⟩ (.slice A0 z0.length c0)) gW3 26 #[.bool b0, .slice A0 z0.length c0] := V3_y4
      refine bodyPost_ret (v := .tuple #[.agg #[.bool b9, .slice A9 z9.length c9], .agg #[.bool b0, .slice A0 z0.length c0], .bool true]) (by simp [results, Tryz.results59, go_sem, V2_y4.cell 0 rfl, V2_y4.cell 1 rfl, V3_yy.cell 0 rfl, V3_yy.cell 1 rfl]) rfl ?_
      exact ⟨b9, A9, c9, z9, b0, A0, c0, z0, rfl, by rw [← HE1.out]; exact HB9, by rw [← HE1.out]; exact HZ9, by rw [← HE2.out]; exact HB0, by rw [← HE2.out]; exact HZ0, Y_y4, X_y4, (below_set (below_set (below_set (below_set B_a0.out hgeW2 _) hgeW2 _) hgeW3 _) hgeW3 _)⟩
  · have HS1 : Hid (cmpI (zv b1 xs) 0 = 0) := h3
    have HNV : Hid (zv b1 xs = V xs) := by show _ = _; omega
    have HE1 : Hid (zv false q = zv b1 xs / V ys) := by show _ = _; rw [zv_f, HVQ.out, HNV.out]
    have HE2 : Hid (zv false r = zv b1 xs % V ys) := by show _ = _; rw [zv_f, HVR.out, HNV.out]
    clear h1 h2 h3
    have V0_w1c0 := (V0_w1.out).cell 0 rfl
    have V0_w1c1 := (V0_w1.out).cell 1 rfl
    have V1_w1c0 := (V1_w1.out).cell 0 rfl
    have V1_w1c1 := (V1_w1.out).cell 1 rfl
    have V0_w1d := Lib.hid V0_w1.out.drew
    have V1_w1d := Lib.hid V1_w1.out.drew
    have V2_w1d := Lib.hid V2_w1.out.drew
    have V3_w1d := Lib.hid V3_w1.out.drew
    have Q_w1d := Lib.hid (Q_w1.out.below (Below.refl _ _).drew)
    have R_w1d := Lib.hid (R_w1.out.below (Below.refl _ _).drew)
    have B_w1d := Lib.hid B_w1.out.drew
    first
    | go_region_held (fun w' => w'.cell? ⟨w.heap.size, 0, none⟩ = some (.bool b1) ∧ w'.cell? ⟨w.heap.size, 1, none⟩ = some (.slice A xs.length c) ∧ w'.cell? ⟨gW1, 0, none⟩ = some (.bool false) ∧ w'.cell? ⟨gW1, 1, none⟩ = some (.slice B ys.length d)) (go_keep)
       (first
        | (go_at_call_of 56 A
           refine (sign_ok w1.drew b1 A c xs (HX.out.below B_w1d.out) (by omega)).mono ?_
           rw [HS1.out]
           rintro e_ a4 ⟨rfl, hB⟩
           have V0_a4 := Lib.hid (Vr.below' V0_w1d.out hB)
           have V0_a4c0 := (V0_a4.out).cell 0 rfl
           have V0_a4c1 := (V0_a4.out).cell 1 rfl
           have V1_a4 := Lib.hid (Vr.below' V1_w1d.out hB)
           have V1_a4c0 := (V1_a4.out).cell 0 rfl
           have V1_a4c1 := (V1_a4.out).cell 1 rfl
           have V2_a4 := Lib.hid (Vr.below' V2_w1d.out hB)
           have V3_a4 := Lib.hid (Vr.below' V3_w1d.out hB)
           have Q_a4 := Lib.hid (RN.below Q_w1d.out hB)
           have R_a4 := Lib.hid (RN.below R_w1d.out hB)
           have B_a4 := Lib.hid (below_on B_w1d.out hB)
           clear hB)
        | (go_at_call_of 56 B
           refine (sign_ok a4 false B d ys (HY.out.below B_a4.out) (by omega)).mono ?_
           rw [HS2.out]
           rintro e_ b4 ⟨rfl, hB⟩
           have V0_b4 := Lib.hid (Vr.below' V0_a4.out hB)
           have V0_b4c0 := (V0_b4.out).cell 0 rfl
           have V0_b4c1 := (V0_b4.out).cell 1 rfl
           have V1_b4 := Lib.hid (Vr.below' V1_a4.out hB)
           have V1_b4c0 := (V1_b4.out).cell 0 rfl
           have V1_b4c1 := (V1_b4.out).cell 1 rfl
           have V2_b4 := Lib.hid (Vr.below' V2_a4.out hB)
           have V3_b4 := Lib.hid (Vr.below' V3_a4.out hB)
           have Q_b4 := Lib.hid (RN.below Q_a4.out hB)
           have R_b4 := Lib.hid (RN.below R_a4.out hB)
           have B_b4 := Lib.hid (below_on B_a4.out hB)
           clear hB))
    | fail
    go_upto_region 5 with fail
    have V0_b4c0 := (V0_b4.out).cell 0 rfl
    have V0_b4c1 := (V0_b4.out).cell 1 rfl
    have V1_b4c0 := (V1_b4.out).cell 0 rfl
    have V1_b4c1 := (V1_b4.out).cell 1 rfl
    have V0_b4d := Lib.hid V0_b4.out.drew
    have V1_b4d := Lib.hid V1_b4.out.drew
    have V2_b4d := Lib.hid V2_b4.out.drew
    have V3_b4d := Lib.hid V3_b4.out.drew
    have Q_b4d := Lib.hid (Q_b4.out.below (Below.refl _ _).drew)
    have R_b4d := Lib.hid (R_b4.out.below (Below.refl _ _).drew)
    have B_b4d := Lib.hid B_b4.out.drew
    first
    | go_region_held3 (fun w' => w'.cell? ⟨w.heap.size, 0, none⟩ = some (.bool b1) ∧ w'.cell? ⟨w.heap.size, 1, none⟩ = some (.slice A xs.length c) ∧ w'.cell? ⟨gW1, 0, none⟩ = some (.bool false) ∧ w'.cell? ⟨gW1, 1, none⟩ = some (.slice B ys.length d)) (go_keep)
       (first
        | (go_at_call_of 56 A
           refine (sign_ok b4.drew b1 A c xs (HX.out.below B_b4d.out) (by omega)).mono ?_
           rw [HS1.out]
           rintro e_ ab4 ⟨rfl, hB⟩
           have V0_ab4 := Lib.hid (Vr.below' V0_b4d.out hB)
           have V0_ab4c0 := (V0_ab4.out).cell 0 rfl
           have V0_ab4c1 := (V0_ab4.out).cell 1 rfl
           have V1_ab4 := Lib.hid (Vr.below' V1_b4d.out hB)
           have V1_ab4c0 := (V1_ab4.out).cell 0 rfl
           have V1_ab4c1 := (V1_ab4.out).cell 1 rfl
           have V2_ab4 := Lib.hid (Vr.below' V2_b4d.out hB)
           have V2_ab4c0 := (V2_ab4.out).cell 0 rfl
           have V2_ab4c1 := (V2_ab4.out).cell 1 rfl
           have V2_ab4f0 := (V2_ab4.out).thaw 0
           have V2_ab4f1 := (V2_ab4.out).thaw 1
           have V3_ab4 := Lib.hid (Vr.below' V3_b4d.out hB)
           have V3_ab4c0 := (V3_ab4.out).cell 0 rfl
           have V3_ab4c1 := (V3_ab4.out).cell 1 rfl
           have V3_ab4f0 := (V3_ab4.out).thaw 0
           have V3_ab4f1 := (V3_ab4.out).thaw 1
           have Q_ab4 := Lib.hid (RN.below Q_b4d.out hB)
           have R_ab4 := Lib.hid (RN.below R_b4d.out hB)
           have B_ab4 := Lib.hid (below_on B_b4d.out hB)
           clear hB)
        | (go_at_call_of 56 B
           refine (sign_ok ab4 false B d ys (HY.out.below B_ab4.out) (by omega)).mono ?_
           rw [HS2.out]
           rintro e_ bb4 ⟨rfl, hB⟩
           have V0_bb4 := Lib.hid (Vr.below' V0_ab4.out hB)
           have V0_bb4c0 := (V0_bb4.out).cell 0 rfl
           have V0_bb4c1 := (V0_bb4.out).cell 1 rfl
           have V1_bb4 := Lib.hid (Vr.below' V1_ab4.out hB)
           have V1_bb4c0 := (V1_bb4.out).cell 0 rfl
           have V1_bb4c1 := (V1_bb4.out).cell 1 rfl
           have V2_bb4 := Lib.hid (Vr.below' V2_ab4.out hB)
           have V2_bb4c0 := (V2_bb4.out).cell 0 rfl
           have V2_bb4c1 := (V2_bb4.out).cell 1 rfl
           have V2_bb4f0 := (V2_bb4.out).thaw 0
           have V2_bb4f1 := (V2_bb4.out).thaw 1
           have V3_bb4 := Lib.hid (Vr.below' V3_ab4.out hB)
           have V3_bb4c0 := (V3_bb4.out).cell 0 rfl
           have V3_bb4c1 := (V3_bb4.out).cell 1 rfl
           have V3_bb4f0 := (V3_bb4.out).thaw 0
           have V3_bb4f1 := (V3_bb4.out).thaw 1
           have Q_bb4 := Lib.hid (RN.below Q_ab4.out hB)
           have R_bb4 := Lib.hid (RN.below R_ab4.out hB)
           have B_bb4 := Lib.hid (below_on B_ab4.out hB)
           clear hB)
        | (go_at_call_of 86 A1
           refine (make_ok bb4 false A1 c1 q Q_bb4.out (by have := HLQ.out; omega)).mono ?_
           rintro e_ cb4 ⟨b5, A5, c5, z5, rfl, HB5, HZ5, hz5, hB⟩
           have V0_cb4 := Lib.hid (Vr.below' V0_bb4.out hB)
           have V0_cb4c0 := (V0_cb4.out).cell 0 rfl
           have V0_cb4c1 := (V0_cb4.out).cell 1 rfl
           have V1_cb4 := Lib.hid (Vr.below' V1_bb4.out hB)
           have V1_cb4c0 := (V1_cb4.out).cell 0 rfl
           have V1_cb4c1 := (V1_cb4.out).cell 1 rfl
           have V2_cb4 := Lib.hid (Vr.below' V2_bb4.out hB)
           have V2_cb4c0 := (V2_cb4.out).cell 0 rfl
           have V2_cb4c1 := (V2_cb4.out).cell 1 rfl
           have V2_cb4f0 := (V2_cb4.out).thaw 0
           have V2_cb4f1 := (V2_cb4.out).thaw 1
           have V3_cb4 := Lib.hid (Vr.below' V3_bb4.out hB)
           have V3_cb4c0 := (V3_cb4.out).cell 0 rfl
           have V3_cb4c1 := (V3_cb4.out).cell 1 rfl
           have V3_cb4f0 := (V3_cb4.out).thaw 0
           have V3_cb4f1 := (V3_cb4.out).thaw 1
           have R_cb4 := Lib.hid (RN.below R_bb4.out hB)
           have B_cb4 := Lib.hid (below_on B_bb4.out hB)
           have Y_cb4 := Lib.hid hz5
           clear hB hz5)
        | (go_at_call_of 86 B1
           refine (make_ok cb4 false B1 d1 r R_cb4.out (by have := HLR.out; omega)).mono ?_
           rintro e_ db4 ⟨b6, A6, c6, z6, rfl, HB6, HZ6, hz6, hB⟩
           have V0_db4 := Lib.hid (Vr.below' V0_cb4.out hB)
           have V0_db4c0 := (V0_db4.out).cell 0 rfl
           have V0_db4c1 := (V0_db4.out).cell 1 rfl
           have V1_db4 := Lib.hid (Vr.below' V1_cb4.out hB)
           have V1_db4c0 := (V1_db4.out).cell 0 rfl
           have V1_db4c1 := (V1_db4.out).cell 1 rfl
           have V2_db4 := Lib.hid (Vr.below' V2_cb4.out hB)
           have V2_db4c0 := (V2_db4.out).cell 0 rfl
           have V2_db4c1 := (V2_db4.out).cell 1 rfl
           have V2_db4f0 := (V2_db4.out).thaw 0
           have V2_db4f1 := (V2_db4.out).thaw 1
           have V3_db4 := Lib.hid (Vr.below' V3_cb4.out hB)
           have V3_db4c0 := (V3_db4.out).cell 0 rfl
           have V3_db4c1 := (V3_db4.out).cell 1 rfl
           have V3_db4f0 := (V3_db4.out).thaw 0
           have V3_db4f1 := (V3_db4.out).thaw 1
           have R_db4 := Lib.hid (RN.below R_cb4.out hB)
           have Y_db4 := Lib.hid (RN.below Y_cb4.out hB)
           have B_db4 := Lib.hid (below_on B_cb4.out hB)
           have X_db4 := Lib.hid hz6
           clear hB hz6))
    | fail
    go_wp2_with fail
    have Y_y1 := (Y_db4.out).apart (V2_db4.out) (nd_int _ _ _ _) 0 (.bool b5)
    have X_y1 := (X_db4.out).apart (V2_db4.out) (nd_int _ _ _ _) 0 (.bool b5)
    have V2_y1 := (V2_db4.out).set 0 (.bool b5)
    have V3_y1 := (V3_db4.out).other (show gW3 ≠ gW2 by first | assumption | omega) 0 (.bool b5)
    have Y_y2 := (Y_y1).apart (V2_y1) (nd_int _ _ _ _) 1 (.slice A5 z5.length c5)
    have X_y2 := (X_y1).apart (V2_y1) (nd_int _ _ _ _) 1 (.slice A5 z5.length c5)
    have V2_y2 := (V2_y1).set 1 (.slice A5 z5.length c5)
    have V3_y2 := (V3_y1).other (show gW3 ≠ gW2 by first | assumption | omega) 1 (.slice A5 z5.length c5)
    have V2_yy : Vr ((db4.setCell ⟨gW2, 0, none⟩ (.bool b5)).setCell ⟨gW2, 1, none⟩ (.slice A5 z5.length c5)) gW2 26 #[.bool b5, .slice A5 z5.length c5] := V2_y2
    have Y_y3 := (Y_y2).apart (V3_y2) (nd_int _ _ _ _) 0 (.bool b6)
    have X_y3 := (X_y2).apart (V3_y2) (nd_int _ _ _ _) 0 (.bool b6)
    have V2_y3 := (V2_yy).other (show gW2 ≠ gW3 by first | assumption | omega) 0 (.bool b6)
    have V3_y3 := (V3_y2).set 0 (.bool b6)
    have Y_y4 := (Y_y3).apart (V3_y3) (nd_int _ _ _ _) 1 (.slice A6 z6.length c6)
    have X_y4 := (X_y3).apart (V3_y3) (nd_int _ _ _ _) 1 (.slice A6 z6.length c6)
    have V2_y4 := (V2_y3).other (show gW2 ≠ gW3 by first | assumption | omega) 1 (.slice A6 z6.length c6)
    have V3_y4 := (V3_y3).set 1 (.slice A6 z6.length c6)
    have V3_yy : Vr ((((db4.setCell ⟨gW2, 0, none⟩ (.bool b5)).setCell ⟨gW2, 1, none⟩ (.slice A5 z5.length c5)).setCell ⟨gW3, 0, none⟩ (.bool b6)).setCell ⟨gW3, 1, none⟩ (.slice A6 z6.length c6)) gW3 26 #[.bool b6, .slice A6 z6.length c6] := V3_y4
    refine bodyPost_ret (v := .tuple #[.agg #[.bool b5, .slice A5 z5.length c5], .agg #[.bool b6, .slice A6 z6.length c6], .bool true]) (by simp [results, Tryz.results59, go_sem, V2_y4.cell 0 rfl, V2_y4.cell 1 rfl, V3_yy.cell 0 rfl, V3_yy.cell 1 rfl]) rfl ?_
    exact ⟨b5, A5, c5, z5, b6, A6, c6, z6, rfl, by rw [← HE1.out]; exact HB5, by rw [← HE1.out]; exact HZ5, by rw [← HE2.out]; exact HB6, by rw [← HE2.out]; exact HZ6, Y_y4, X_y4, (below_set (below_set (below_set (below_set B_db4.out hgeW2 _) hgeW2 _) hgeW3 _) hgeW3 _)⟩
  · have HS1 : Hid (cmpI (zv b1 xs) 0 = 1) := h3
    have HNV : Hid (zv b1 xs = V xs) := by show _ = _; rw [h2]; rfl
    have HE1 : Hid (zv false q = zv b1 xs / V ys) := by show _ = _; rw [zv_f, HVQ.out, HNV.out]
    have HE2 : Hid (zv false r = zv b1 xs % V ys) := by show _ = _; rw [zv_f, HVR.out, HNV.out]
    clear h1 h2 h3
    have V0_w1c0 := (V0_w1.out).cell 0 rfl
    have V0_w1c1 := (V0_w1.out).cell 1 rfl
    have V1_w1c0 := (V1_w1.out).cell 0 rfl
    have V1_w1c1 := (V1_w1.out).cell 1 rfl
    have V0_w1d := Lib.hid V0_w1.out.drew
    have V1_w1d := Lib.hid V1_w1.out.drew
    have V2_w1d := Lib.hid V2_w1.out.drew
    have V3_w1d := Lib.hid V3_w1.out.drew
    have Q_w1d := Lib.hid (Q_w1.out.below (Below.refl _ _).drew)
    have R_w1d := Lib.hid (R_w1.out.below (Below.refl _ _).drew)
    have B_w1d := Lib.hid B_w1.out.drew
    first
    | go_region_held (fun w' => w'.cell? ⟨w.heap.size, 0, none⟩ = some (.bool b1) ∧ w'.cell? ⟨w.heap.size, 1, none⟩ = some (.slice A xs.length c) ∧ w'.cell? ⟨gW1, 0, none⟩ = some (.bool false) ∧ w'.cell? ⟨gW1, 1, none⟩ = some (.slice B ys.length d)) (go_keep)
       (first
        | (go_at_call_of 56 A
           refine (sign_ok w1.drew b1 A c xs (HX.out.below B_w1d.out) (by omega)).mono ?_
           rw [HS1.out]
           rintro e_ a4 ⟨rfl, hB⟩
           have V0_a4 := Lib.hid (Vr.below' V0_w1d.out hB)
           have V0_a4c0 := (V0_a4.out).cell 0 rfl
           have V0_a4c1 := (V0_a4.out).cell 1 rfl
           have V1_a4 := Lib.hid (Vr.below' V1_w1d.out hB)
           have V1_a4c0 := (V1_a4.out).cell 0 rfl
           have V1_a4c1 := (V1_a4.out).cell 1 rfl
           have V2_a4 := Lib.hid (Vr.below' V2_w1d.out hB)
           have V3_a4 := Lib.hid (Vr.below' V3_w1d.out hB)
           have Q_a4 := Lib.hid (RN.below Q_w1d.out hB)
           have R_a4 := Lib.hid (RN.below R_w1d.out hB)
           have B_a4 := Lib.hid (below_on B_w1d.out hB)
           clear hB)
        | (go_at_call_of 56 B
           refine (sign_ok a4 false B d ys (HY.out.below B_a4.out) (by omega)).mono ?_
           rw [HS2.out]
           rintro e_ b4 ⟨rfl, hB⟩
           have V0_b4 := Lib.hid (Vr.below' V0_a4.out hB)
           have V0_b4c0 := (V0_b4.out).cell 0 rfl
           have V0_b4c1 := (V0_b4.out).cell 1 rfl
           have V1_b4 := Lib.hid (Vr.below' V1_a4.out hB)
           have V1_b4c0 := (V1_b4.out).cell 0 rfl
           have V1_b4c1 := (V1_b4.out).cell 1 rfl
           have V2_b4 := Lib.hid (Vr.below' V2_a4.out hB)
           have V3_b4 := Lib.hid (Vr.below' V3_a4.out hB)
           have Q_b4 := Lib.hid (RN.below Q_a4.out hB)
           have R_b4 := Lib.hid (RN.below R_a4.out hB)
           have B_b4 := Lib.hid (below_on B_a4.out hB)
           clear hB))
    | fail
    go_upto_region 5 with fail
    have V0_b4c0 := (V0_b4.out).cell 0 rfl
    have V0_b4c1 := (V0_b4.out).cell 1 rfl
    have V1_b4c0 := (V1_b4.out).cell 0 rfl
    have V1_b4c1 := (V1_b4.out).cell 1 rfl
    have V0_b4d := Lib.hid V0_b4.out.drew
    have V1_b4d := Lib.hid V1_b4.out.drew
    have V2_b4d := Lib.hid V2_b4.out.drew
    have V3_b4d := Lib.hid V3_b4.out.drew
    have Q_b4d := Lib.hid (Q_b4.out.below (Below.refl _ _).drew)
    have R_b4d := Lib.hid (R_b4.out.below (Below.refl _ _).drew)
    have B_b4d := Lib.hid B_b4.out.drew
    first
    | go_region_held3 (fun w' => w'.cell? ⟨w.heap.size, 0, none⟩ = some (.bool b1) ∧ w'.cell? ⟨w.heap.size, 1, none⟩ = some (.slice A xs.length c) ∧ w'.cell? ⟨gW1, 0, none⟩ = some (.bool false) ∧ w'.cell? ⟨gW1, 1, none⟩ = some (.slice B ys.length d)) (go_keep)
       (first
        | (go_at_call_of 56 A
           refine (sign_ok b4.drew b1 A c xs (HX.out.below B_b4d.out) (by omega)).mono ?_
           rw [HS1.out]
           rintro e_ ab4 ⟨rfl, hB⟩
           have V0_ab4 := Lib.hid (Vr.below' V0_b4d.out hB)
           have V0_ab4c0 := (V0_ab4.out).cell 0 rfl
           have V0_ab4c1 := (V0_ab4.out).cell 1 rfl
           have V1_ab4 := Lib.hid (Vr.below' V1_b4d.out hB)
           have V1_ab4c0 := (V1_ab4.out).cell 0 rfl
           have V1_ab4c1 := (V1_ab4.out).cell 1 rfl
           have V2_ab4 := Lib.hid (Vr.below' V2_b4d.out hB)
           have V2_ab4c0 := (V2_ab4.out).cell 0 rfl
           have V2_ab4c1 := (V2_ab4.out).cell 1 rfl
           have V2_ab4f0 := (V2_ab4.out).thaw 0
           have V2_ab4f1 := (V2_ab4.out).thaw 1
           have V3_ab4 := Lib.hid (Vr.below' V3_b4d.out hB)
           have V3_ab4c0 := (V3_ab4.out).cell 0 rfl
           have V3_ab4c1 := (V3_ab4.out).cell 1 rfl
           have V3_ab4f0 := (V3_ab4.out).thaw 0
           have V3_ab4f1 := (V3_ab4.out).thaw 1
           have Q_ab4 := Lib.hid (RN.below Q_b4d.out hB)
           have R_ab4 := Lib.hid (RN.below R_b4d.out hB)
           have B_ab4 := Lib.hid (below_on B_b4d.out hB)
           clear hB)
        | (go_at_call_of 56 B
           refine (sign_ok ab4 false B d ys (HY.out.below B_ab4.out) (by omega)).mono ?_
           rw [HS2.out]
           rintro e_ bb4 ⟨rfl, hB⟩
           have V0_bb4 := Lib.hid (Vr.below' V0_ab4.out hB)
           have V0_bb4c0 := (V0_bb4.out).cell 0 rfl
           have V0_bb4c1 := (V0_bb4.out).cell 1 rfl
           have V1_bb4 := Lib.hid (Vr.below' V1_ab4.out hB)
           have V1_bb4c0 := (V1_bb4.out).cell 0 rfl
           have V1_bb4c1 := (V1_bb4.out).cell 1 rfl
           have V2_bb4 := Lib.hid (Vr.below' V2_ab4.out hB)
           have V2_bb4c0 := (V2_bb4.out).cell 0 rfl
           have V2_bb4c1 := (V2_bb4.out).cell 1 rfl
           have V2_bb4f0 := (V2_bb4.out).thaw 0
           have V2_bb4f1 := (V2_bb4.out).thaw 1
           have V3_bb4 := Lib.hid (Vr.below' V3_ab4.out hB)
           have V3_bb4c0 := (V3_bb4.out).cell 0 rfl
           have V3_bb4c1 := (V3_bb4.out).cell 1 rfl
           have V3_bb4f0 := (V3_bb4.out).thaw 0
           have V3_bb4f1 := (V3_bb4.out).thaw 1
           have Q_bb4 := Lib.hid (RN.below Q_ab4.out hB)
           have R_bb4 := Lib.hid (RN.below R_ab4.out hB)
           have B_bb4 := Lib.hid (below_on B_ab4.out hB)
           clear hB)
        | (go_at_call_of 86 A1
           refine (make_ok bb4 false A1 c1 q Q_bb4.out (by have := HLQ.out; omega)).mono ?_
           rintro e_ cb4 ⟨b5, A5, c5, z5, rfl, HB5, HZ5, hz5, hB⟩
           have V0_cb4 := Lib.hid (Vr.below' V0_bb4.out hB)
           have V0_cb4c0 := (V0_cb4.out).cell 0 rfl
           have V0_cb4c1 := (V0_cb4.out).cell 1 rfl
           have V1_cb4 := Lib.hid (Vr.below' V1_bb4.out hB)
           have V1_cb4c0 := (V1_cb4.out).cell 0 rfl
           have V1_cb4c1 := (V1_cb4.out).cell 1 rfl
           have V2_cb4 := Lib.hid (Vr.below' V2_bb4.out hB)
           have V2_cb4c0 := (V2_cb4.out).cell 0 rfl
           have V2_cb4c1 := (V2_cb4.out).cell 1 rfl
           have V2_cb4f0 := (V2_cb4.out).thaw 0
           have V2_cb4f1 := (V2_cb4.out).thaw 1
           have V3_cb4 := Lib.hid (Vr.below' V3_bb4.out hB)
           have V3_cb4c0 := (V3_cb4.out).cell 0 rfl
           have V3_cb4c1 := (V3_cb4.out).cell 1 rfl
           have V3_cb4f0 := (V3_cb4.out).thaw 0
           have V3_cb4f1 := (V3_cb4.out).thaw 1
           have R_cb4 := Lib.hid (RN.below R_bb4.out hB)
           have B_cb4 := Lib.hid (below_on B_bb4.out hB)
           have Y_cb4 := Lib.hid hz5
           clear hB hz5)
        | (go_at_call_of 86 B1
           refine (make_ok cb4 false B1 d1 r R_cb4.out (by have := HLR.out; omega)).mono ?_
           rintro e_ db4 ⟨b6, A6, c6, z6, rfl, HB6, HZ6, hz6, hB⟩
           have V0_db4 := Lib.hid (Vr.below' V0_cb4.out hB)
           have V0_db4c0 := (V0_db4.out).cell 0 rfl
           have V0_db4c1 := (V0_db4.out).cell 1 rfl
           have V1_db4 := Lib.hid (Vr.below' V1_cb4.out hB)
           have V1_db4c0 := (V1_db4.out).cell 0 rfl
           have V1_db4c1 := (V1_db4.out).cell 1 rfl
           have V2_db4 := Lib.hid (Vr.below' V2_cb4.out hB)
           have V2_db4c0 := (V2_db4.out).cell 0 rfl
           have V2_db4c1 := (V2_db4.out).cell 1 rfl
           have V2_db4f0 := (V2_db4.out).thaw 0
           have V2_db4f1 := (V2_db4.out).thaw 1
           have V3_db4 := Lib.hid (Vr.below' V3_cb4.out hB)
           have V3_db4c0 := (V3_db4.out).cell 0 rfl
           have V3_db4c1 := (V3_db4.out).cell 1 rfl
           have V3_db4f0 := (V3_db4.out).thaw 0
           have V3_db4f1 := (V3_db4.out).thaw 1
           have R_db4 := Lib.hid (RN.below R_cb4.out hB)
           have Y_db4 := Lib.hid (RN.below Y_cb4.out hB)
           have B_db4 := Lib.hid (below_on B_cb4.out hB)
           have X_db4 := Lib.hid hz6
           clear hB hz6))
    | fail
    go_wp2_with fail
    have Y_y1 := (Y_db4.out).apart (V2_db4.out) (nd_int _ _ _ _) 0 (.bool b5)
    have X_y1 := (X_db4.out).apart (V2_db4.out) (nd_int _ _ _ _) 0 (.bool b5)
    have V2_y1 := (V2_db4.out).set 0 (.bool b5)
    have V3_y1 := (V3_db4.out).other (show gW3 ≠ gW2 by first | assumption | omega) 0 (.bool b5)
    have Y_y2 := (Y_y1).apart (V2_y1) (nd_int _ _ _ _) 1 (.slice A5 z5.length c5)
    have X_y2 := (X_y1).apart (V2_y1) (nd_int _ _ _ _) 1 (.slice A5 z5.length c5)
    have V2_y2 := (V2_y1).set 1 (.slice A5 z5.length c5)
    have V3_y2 := (V3_y1).other (show gW3 ≠ gW2 by first | assumption | omega) 1 (.slice A5 z5.length c5)
    have V2_yy : Vr ((db4.setCell ⟨gW2, 0, none⟩ (.bool b5)).setCell ⟨gW2, 1, none⟩ (.slice A5 z5.length c5)) gW2 26 #[.bool b5, .slice A5 z5.length c5] := V2_y2
    have Y_y3 := (Y_y2).apart (V3_y2) (nd_int _ _ _ _) 0 (.bool b6)
    have X_y3 := (X_y2).apart (V3_y2) (nd_int _ _ _ _) 0 (.bool b6)
    have V2_y3 := (V2_yy).other (show gW2 ≠ gW3 by first | assumption | omega) 0 (.bool b6)
    have V3_y3 := (V3_y2).set 0 (.bool b6)
    have Y_y4 := (Y_y3).apart (V3_y3) (nd_int _ _ _ _) 1 (.slice A6 z6.length c6)
    have X_y4 := (X_y3).apart (V3_y3) (nd_int _ _ _ _) 1 (.slice A6 z6.length c6)
    have V2_y4 := (V2_y3).other (show gW2 ≠ gW3 by first | assumption | omega) 1 (.slice A6 z6.length c6)
    have V3_y4 := (V3_y3).set 1 (.slice A6 z6.length c6)
    have V3_yy : Vr ((((db4.setCell ⟨gW2, 0, none⟩ (.bool b5)).setCell ⟨gW2, 1, none⟩ (.slice A5 z5.length c5)).setCell ⟨gW3, 0, none⟩ (.bool b6)).setCell ⟨gW3, 1, none⟩ (.slice A6 z6.length c6)) gW3 26 #[.bool b6, .slice A6 z6.length c6] := V3_y4
    refine bodyPost_ret (v := .tuple #[.agg #[.bool b5, .slice A5 z5.length c5], .agg #[.bool b6, .slice A6 z6.length c6], .bool true]) (by simp [results, Tryz.results59, go_sem, V2_y4.cell 0 rfl, V2_y4.cell 1 rfl, V3_yy.cell 0 rfl, V3_yy.cell 1 rfl]) rfl ?_
    exact ⟨b5, A5, c5, z5, b6, A6, c6, z6, rfl, by rw [← HE1.out]; exact HB5, by rw [← HE1.out]; exact HZ5, by rw [← HE2.out]; exact HB6, by rw [← HE2.out]; exact HZ6, Y_y4, X_y4, (below_set (below_set (below_set (below_set B_db4.out hgeW2 _) hgeW2 _) hgeW3 _) hgeW3 _)⟩

end Go.Proofs.YtocpncjmcaecoaaGreat.M
namespace Go.Proofs.YtocpncjmcaecoaaGreat.M
set_option maxRecDepth 10000
open Go.RowKit
set_option linter.unusedVariables false
set_option linter.unusedSimpArgs false
theorem nf_one {x : List Int} (h : Nf x) (h1 : V x ≤ 4294967295) : x.length ≤ 1 := by
  rcases Nat.lt_or_ge 1 x.length with h2 | h2
  · have h3 := h.pos (by omega)
    have h4 := pw_le (show 1 ≤ x.length - 1 by omega)
    rw [pw_succ, pw_zero] at h4
    omega
  · exact h2

set_option maxHeartbeats 800000 in
theorem uint_ok (w : World) (A : Option Addr) (c : Nat) (xs : List Int) (hx : RN w A c xs) (hs : V xs ≤ 4294967295) :
    Calls Tryz.prog 58 #[.slice A xs.length c] w (fun e w' => e = .returned (.tuple #[.int .u64 (V xs), .bool true]) ∧ w' = w) := by
  have HX := Lib.hid hx
  clear hx
  go_enter Tryz.func58, Tryz.ntmps58
  have HVx := Lib.hid (V_nrm HX.out.2)
  go_wp2_with fail
  refine (trim_ok w A c xs HX.out).mono ?_
  rintro e_ w1 ⟨rfl, x, rfl, HXN, hx'⟩
  have NX : Nf x := by rw [HXN.out]; exact nrm_nf _
  have EX : V x = V xs := by rw [HXN.out]; exact HVx.out
  have hl1 : x.length ≤ 1 := nf_one NX (by rw [EX]; exact hs)
  have d1 : decide (2 < x.length) = false := decide_eq_false (by omega)
  have d1' : decide ((2 : Int) < (x.length : Int)) = false := decide_eq_false (by omega)
  have HEX := Lib.hid EX
  have RX := Lib.hid hx'
  clear NX EX hx'
  rcases (show x.length = 0 ∨ x.length = 1 by omega) with h0 | h0
  · have HV0 : Hid (V xs = 0) := by show _ = _; rw [← HEX.out, List.length_eq_zero_iff.1 h0]; rfl
    have e1 : decide ((0 : Int) < (x.length : Int)) = false := decide_eq_false (by omega)
    have e2 : decide (0 < x.length) = false := decide_eq_false (by omega)
    have H0 := Lib.hid h0
    clear h0
    go_wp2_with fail
    go_loopw [5, 15] (fun nv iv wr => nv = .int .u64 0 ∧ iv = .int .i64 0 ∧ wr = w) (fun _ iv _ => (intOf iv).toNat)
    case atStart => exact ⟨rfl, rfl, rfl⟩
    case round =>
      obtain ⟨rfl, rfl, rfl⟩ := hrel
      go_wp2_with fail
      go_ret2
      rw [HV0.out]
      exact ⟨rfl, rfl⟩
  · obtain ⟨ad, rfl, hc⟩ := RX.out.1.2.2 0 (by omega)
    have hc0 : w.cell? ad = some (.int .u32 (dg x 0)) := by
      have h : ad.add 0 = ad := by unfold Addr.add; split <;> simp_all
      rw [← h]
      exact hc
    clear hc
    have bx := RX.out.2 0
    have HV1 : Hid (V xs = dg x 0) := by
      show _ = _
      rw [← HEX.out]
      unfold V
      rw [h0, S_succ, S_zero, pw_zero]
      omega
    have e1 : decide ((0 : Int) < (x.length : Int)) = true := decide_eq_true (by omega)
    have e2 : decide (0 < x.length) = true := decide_eq_true (by omega)
    have e3 : decide ((1 : Int) < (x.length : Int)) = false := decide_eq_false (by omega)
    have e4 : decide (1 < x.length) = false := decide_eq_false (by omega)
    have hor : Go.bits .or .u64 0 (dg x 0) = dg x 0 := by
      have h := or32 0 (dg x 0) (by omega) bx.1 (by omega) (by omega) (by omega)
      simpa using h
    have hx1 : (x.length : Int) = 1 := by omega
    have H1 := Lib.hid h0
    clear h0
    go_wp2_with fail
    go_loopw [5, 15] (fun nv iv wr => (nv = .int .u64 0 ∧ iv = .int .i64 0 ∨ nv = .int .u64 (dg x 0) ∧ iv = .int .i64 1) ∧ wr = w) (fun _ iv _ => 1 - (intOf iv).toNat)
    case atStart => exact ⟨.inl ⟨rfl, rfl⟩, rfl⟩
    case round =>
      obtain ⟨⟨rfl, rfl⟩ | ⟨rfl, rfl⟩, rfl⟩ := hrel
      · go_wp2_with fail
        go_roundw
        case rel => exact ⟨.inr ⟨rfl, rfl⟩, by first | trivial | rfl⟩
        case measure => simp [intOf]
      · go_wp2_with fail
        go_ret2
        rw [HV1.out]
        exact ⟨rfl, rfl⟩

set_option maxHeartbeats 800000 in
theorem int64_ok (w : World) (b : Bool) (A : Option Addr) (c : Nat) (xs : List Int) (hx : RN w A c xs) (hs : V xs ≤ 4294967295) :
    Calls Tryz.prog 28 #[.agg #[.bool b, .slice A xs.length c]] w (fun e w' => e = .returned (.tuple #[.int .i64 (zv b xs), .bool true]) ∧ Below w.heap.size w w') := by
  have HX := Lib.hid hx
  clear hx
  go_enter Tryz.func28, Tryz.ntmps28
  have hvn := V_nonneg HX.out.2
  go_upto_region 1 with fail
  obtain ⟨W, hW⟩ : ∃ W, W = (w.alloc (.cells #[.bool b, .slice A xs.length c] 26)) := ⟨_, rfl⟩
  rw [← hW]
  have hBW : Below w.heap.size w W := by rw [hW]; exact ((Below.refl _ _).alloc (Nat.le_refl _) _)
  have vW0 : Vr W (w.heap.size) 26 #[.bool b, .slice A xs.length c] := by rw [hW]; exact (Vr.new' _ _ _ (by simp only [size_alloc]))
  clear hW
  have HVW0 := Lib.hid vW0
  have HBW := Lib.hid hBW
  clear hBW vW0
  have oc0 := (HVW0.out).cell 0 rfl
  have oc1 := (HVW0.out).cell 1 rfl
  go_wp2_with fail
  refine (uint_ok W A c xs (HX.out.below HBW.out) hs).mono ?_
  obtain ⟨v, hv⟩ : ∃ v, V xs = v := ⟨_, rfl⟩
  have HVV := Lib.hid hv
  rw [hv] at hs hvn ⊢
  clear hv
  rintro e_ W ⟨rfl, rfl⟩
  have d1 : decide ((9223372036854775808 : Int) < v) = false := decide_eq_false (by omega)
  have d2 : (v == 9223372036854775808) = false := beq_eq_false_iff_ne.2 (by omega)
  have e1 : IntKind.i64.wrap v = v := IntWalk.i64_in _ (by omega)
  have e2 : IntKind.i64.wrap (-v) = -v := IntWalk.i64_in _ (by omega)
  cases b
  · go_wp2_with fail
    go_ret2
    exact ⟨by rw [zv_f, HVV.out]; rfl, HBW.out⟩
  · go_wp2_with fail
    go_ret2
    exact ⟨by rw [zv_t, HVV.out]; rfl, HBW.out⟩

set_option maxHeartbeats 800000 in
theorem pow0_ok (w : World) (A : Option Addr) (c : Nat) (xs : List Int) (hx : RN w A c xs) (hs : xs.length ≤ 70368744177664) :
    Calls Tryz.prog 123 #[.slice A xs.length c, .int .i64 0] w (RetNB 1 true w) := by
  have HX := Lib.hid hx
  clear hx
  go_enter Tryz.func123, Tryz.ntmps123
  go_wp2_with fail
  refine (of_ok w 1 (by omega) (by omega)).mono ?_
  rintro e_ w1 ⟨A1, c1, z, rfl, HZ, hz, hB⟩
  have B_w1 := Lib.hid hB
  have R_w1 := Lib.hid hz
  have RX := Lib.hid (HX.out.below hB)
  clear hB hz
  go_wp2_with fail
  refine (norm_ok w1 A c xs RX.out (by omega)).mono ?_
  rintro e_ w2 ⟨A2, c2, y, rfl, HY, hy, hB⟩
  have B_w2 := Lib.hid (below_seq B_w1.out hB)
  have R_w2 := Lib.hid (R_w1.out.below hB)
  clear hB hy
  go_wp2_with fail
  go_loopw [6, 8] (fun pv iv wr => pv = .slice A1 z.length c1 ∧ iv = .int .i64 0 ∧ wr = w2) (fun _ iv _ => (intOf iv).toNat)
  case atStart => exact ⟨rfl, rfl, rfl⟩
  case round =>
    obtain ⟨rfl, rfl, rfl⟩ := hrel
    go_wp2_with fail
    go_ret2
    exact ⟨A1, c1, z, rfl, HZ, R_w2.out, B_w2.out⟩

end Go.Proofs.YtocpncjmcaecoaaGreat.M
