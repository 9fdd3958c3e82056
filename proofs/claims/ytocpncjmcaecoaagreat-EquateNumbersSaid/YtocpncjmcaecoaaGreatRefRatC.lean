/- Integers of the reference. Rational numbers of the reference: parts, lowest terms, making. Rational numbers of the reference: making, comparison, product. The product of two ratios of the reference; its chance. -/
import Derived.Test.YtocpncjmcaecoaaGreatRatC
namespace Go.Proofs.YtocpncjmcaecoaaGreat.M
set_option maxRecDepth 10000
open Go.RowKit
set_option linter.unusedVariables false
set_option linter.unusedSimpArgs false

set_option maxHeartbeats 800000 in
theorem rinorm_ok (w : World) (b : Bool) (A : Option Addr) (c : Nat) (xs : List Int) (hx : RN w A c xs) (hs : xs.length ≤ 70368744177664) :
    Calls Tryz.prog 78 #[.agg #[.bool b, .slice A xs.length c]] w (RetZI (zv b xs) w) := by
  have HX := Lib.hid hx
  clear hx
  go_enter Tryz.func78, Tryz.ntmps78
  go_wp2_with fail
  obtain ⟨W, hW⟩ : ∃ W, W = ((w.alloc (.cells #[.bool b, .slice A xs.length c] 26)).alloc (.cells #[.bool false, .slice none 0 0] 26)) := ⟨_, rfl⟩
  rw [← hW]
  have hBW : Below w.heap.size w W := by rw [hW]; exact (((Below.refl _ _).alloc (Nat.le_refl _) _).alloc (by simp only [size_alloc]; omega) _)
  have vW0 : Vr W (w.heap.size) 26 #[.bool b, .slice A xs.length c] := by rw [hW]; exact ((Vr.new' _ _ _ (by simp only [size_alloc])).alloc _)
  have vW1 : Vr W (w.heap.size + 1) 26 #[.bool false, .slice none 0 0] := by rw [hW]; exact (Vr.new' _ _ _ (by simp only [size_alloc]))
  clear hW
  obtain ⟨gW1, hgW1⟩ : ∃ g, w.heap.size + 1 = g := ⟨_, rfl⟩
  rw [hgW1] at vW1 ⊢
  have hneW01 : w.heap.size ≠ gW1 := by omega
  have hgeW1 : w.heap.size ≤ gW1 := by omega
  have hneW10 : gW1 ≠ w.heap.size := by omega
  have HVW0 := Lib.hid vW0
  have HVW1 := Lib.hid vW1
  have HBW := Lib.hid hBW
  clear hBW vW0 vW1 hgW1
  refine (rnorm_ok W A c xs (HX.out.below HBW.out) hs).mono ?_
  rintro e w1 ⟨A1, c1, z, rfl, HZ, hz, hB1⟩
  have oc0 := (HVW0.out.below' hB1).cell 0 rfl
  have oc1 := (HVW0.out.below' hB1).cell 1 rfl
  have dc0 := (HVW1.out.below' hB1).cell 0 rfl
  have dc1 := (HVW1.out.below' hB1).cell 1 rfl
  have df0 := (HVW1.out.below' hB1).thaw 0
  have df1 := (HVW1.out.below' hB1).thaw 1
  have HV1 := Lib.hid (HVW1.out.below' hB1)
  have HB1 := Lib.hid (HBW.out.trans (hB1.mono HBW.out.size))
  have HR := Lib.hid hz
  have H0 := Lib.hid (V_nonneg HX.out.2)
  have HN : Hid (V z = V xs) := by
    show _ = _
    rw [HZ.out, V_limbs, Int.toNat_of_nonneg H0.out]
  clear hB1 hz
  cases b
  · go_wp2_with fail
    have v3 : Vr ((w1.setCell ⟨gW1, 0, none⟩ (.bool false)).setCell ⟨gW1, 1, none⟩ (.slice A1 z.length c1)) gW1 26 #[.bool false, .slice A1 z.length c1] := ((HV1.out.set 0 _).set 1 _)
    have r0 := (HR.out).apart (HV1.out) (nd_int _ _ _ _) 0 (.bool false)
    have r1 := (r0).apart ((HV1.out).set 0 (.bool false)) (nd_int _ _ _ _) 1 (.slice A1 z.length c1)
    refine bodyPost_ret (v := .agg #[.bool false, .slice A1 z.length c1]) (by simp [results, Tryz.results78, go_sem, v3.cell 0 rfl, v3.cell 1 rfl]) rfl ?_
    exact ⟨_, A1, c1, z, rfl, by show false = _; rw [zv_f]; exact (decide_eq_false (by have := H0.out; omega)).symm, by show z = _; rw [zv_f, HZ.out]; congr 1; have := H0.out; omega, r1, (below_set (below_set HB1.out hgeW1 _) hgeW1 _)⟩
  · go_wp2_with fail
    have v3 : Vr ((w1.setCell ⟨gW1, 0, none⟩ (.bool (decide (0 < z.length)))).setCell ⟨gW1, 1, none⟩ (.slice A1 z.length c1)) gW1 26 #[.bool (decide (0 < z.length)), .slice A1 z.length c1] := ((HV1.out.set 0 _).set 1 _)
    have r0 := (HR.out).apart (HV1.out) (nd_int _ _ _ _) 0 (.bool (decide (0 < z.length)))
    have r1 := (r0).apart ((HV1.out).set 0 (.bool (decide (0 < z.length)))) (nd_int _ _ _ _) 1 (.slice A1 z.length c1)
    refine bodyPost_ret (v := .agg #[.bool (decide (0 < z.length)), .slice A1 z.length c1]) (by simp [results, Tryz.results78, go_sem, v3.cell 0 rfl, v3.cell 1 rfl]) rfl ?_
    exact ⟨_, A1, c1, z, rfl, by
      show decide (0 < z.length) = decide (zv true xs < 0)
      rw [zv_t, ← HN.out]
      by_cases h : 0 < z.length
      · have h2 : 0 < V z := by
          have h3 : Nf z := by rw [HZ.out]; exact limbs_nf _
          exact h3.V_pos h
        rw [decide_eq_true h, decide_eq_true (by omega)]
      · have h2 : V z = 0 := by rw [List.length_eq_zero_iff.1 (by omega : z.length = 0)]; rfl
        rw [decide_eq_false h, decide_eq_false (by omega)], by show z = _; rw [zv_t, HZ.out]; congr 1; have := H0.out; omega, r1, (below_set (below_set HB1.out hgeW1 _) hgeW1 _)⟩

set_option maxHeartbeats 800000 in
theorem rimake_ok (w : World) (b : Bool) (A : Option Addr) (c : Nat) (xs : List Int) (hx : RN w A c xs) (hs : xs.length ≤ 70368744177664) :
    Calls Tryz.prog 65 #[.bool b, .slice A xs.length c] w (RetZI (zv b xs) w) := by
  have HX := Lib.hid hx
  clear hx
  go_enter Tryz.func65, Tryz.ntmps65
  go_wp2_with fail
  obtain ⟨W, hW⟩ : ∃ W, W = (w.alloc (.cells #[.bool false, .slice none 0 0] 26)) := ⟨_, rfl⟩
  rw [← hW]
  have hBW : Below w.heap.size w W := by rw [hW]; exact ((Below.refl _ _).alloc (Nat.le_refl _) _)
  have vW0 : Vr W (w.heap.size) 26 #[.bool false, .slice none 0 0] := by rw [hW]; exact (Vr.new' _ _ _ (by simp only [size_alloc]))
  clear hW
  have HVW0 := Lib.hid vW0
  have HBW := Lib.hid hBW
  clear hBW vW0
  refine (rinorm_ok W b A c xs (HX.out.below HBW.out) hs).mono ?_
  rintro e w1 ⟨b1, A1, c1, z, rfl, HB1, HZ1, hz, hB1⟩
  have dc0 := (HVW0.out.below' hB1).cell 0 rfl
  have dc1 := (HVW0.out.below' hB1).cell 1 rfl
  have df0 := (HVW0.out.below' hB1).thaw 0
  have df1 := (HVW0.out.below' hB1).thaw 1
  have HV1 := Lib.hid (HVW0.out.below' hB1)
  have HBd := Lib.hid (HBW.out.trans (hB1.mono HBW.out.size))
  have HR := Lib.hid hz
  clear hB1 hz
  go_wp2_with fail
  have v3 : Vr ((w1.setCell ⟨w.heap.size, 0, none⟩ (.bool b1)).setCell ⟨w.heap.size, 1, none⟩ (.slice A1 z.length c1)) w.heap.size 26 #[.bool b1, .slice A1 z.length c1] := ((HV1.out.set 0 _).set 1 _)
  have r0 := (HR.out).apart (HV1.out) (nd_int _ _ _ _) 0 (.bool b1)
  have r1 := (r0).apart ((HV1.out).set 0 (.bool b1)) (nd_int _ _ _ _) 1 (.slice A1 z.length c1)
  refine bodyPost_ret (v := .agg #[.bool b1, .slice A1 z.length c1]) (by simp [results, Tryz.results65, go_sem, v3.cell 0 rfl, v3.cell 1 rfl]) rfl ?_
  exact ⟨_, A1, c1, z, rfl, HB1, HZ1, r1, (below_set (below_set HBd.out (Nat.le_refl _) _) (Nat.le_refl _) _)⟩

set_option maxHeartbeats 800000 in
theorem riof_ok (w : World) (n : Int) (h0 : -9223372036854775808 ≤ n) (h1 : n ≤ 9223372036854775807) :
    Calls Tryz.prog 48 #[.int .i64 n] w (RetZI n w) := by
  rcases Int.lt_or_le n 0 with hn | hn
  · have hlt : decide (n < 0) = true := decide_eq_true hn
    have e1 : IntKind.i64.wrap (n + 1) = n + 1 := IntWalk.i64_in _ (by omega)
    have e2 : IntKind.i64.wrap (-(n + 1)) = -(n + 1) := IntWalk.i64_in _ (by omega)
    have e3 : IntKind.u64.wrap (-(n + 1)) = -(n + 1) := IntWalk.u64_in _ (by omega)
    have e4 : IntKind.u64.wrap (-(n + 1) + 1) = -n := by rw [IntWalk.u64_in _ (by omega)]; omega
    go_enter Tryz.func48, Tryz.ntmps48
    go_wp2_with fail
    obtain ⟨W, hW⟩ : ∃ W, W = (w.alloc (.cells #[.bool false, .slice none 0 0] 26)) := ⟨_, rfl⟩
    rw [← hW]
    have hBW : Below w.heap.size w W := by rw [hW]; exact ((Below.refl _ _).alloc (Nat.le_refl _) _)
    have vW0 : Vr W (w.heap.size) 26 #[.bool false, .slice none 0 0] := by rw [hW]; exact (Vr.new' _ _ _ (by simp only [size_alloc]))
    clear hW
    have HVW0 := Lib.hid vW0
    have HBW := Lib.hid hBW
    clear hBW vW0
    refine (rof_ok W (-n) (by omega) (by omega)).mono ?_
    rintro e w0 ⟨A0, c0, z0, rfl, HZ0, hz0, hB0⟩
    have HV0 := Lib.hid (HVW0.out.below' hB0)
    have HB0 := Lib.hid (HBW.out.trans (hB0.mono HBW.out.size))
    have HR0 := Lib.hid hz0
    clear hB0 hz0
    have hl0 : z0.length ≤ 70368744177664 := by rw [HZ0.out]; exact Nat.le_trans (limbs_len (m := 2) (by rw [pw_succ, pw_succ, pw_zero]; omega)) (by omega)
    have hzv : zv true z0 = n := by rw [zv_t, HZ0.out, V_limbs]; omega
    go_wp2_with fail
    refine (rimake_ok w0 true A0 c0 z0 HR0.out hl0).mono ?_
    rw [hzv]
    clear hzv
    rintro e w1 ⟨b1, A1, c1, z, rfl, HB1, HZ1, hz, hB1⟩
    have dc0 := (HV0.out.below' hB1).cell 0 rfl
    have dc1 := (HV0.out.below' hB1).cell 1 rfl
    have df0 := (HV0.out.below' hB1).thaw 0
    have df1 := (HV0.out.below' hB1).thaw 1
    have HV1 := Lib.hid (HV0.out.below' hB1)
    have HBd := Lib.hid (HB0.out.trans (hB1.mono HB0.out.size))
    have HR := Lib.hid hz
    clear hB1 hz
    go_wp2_with fail
    have v3 : Vr ((w1.setCell ⟨w.heap.size, 0, none⟩ (.bool b1)).setCell ⟨w.heap.size, 1, none⟩ (.slice A1 z.length c1)) w.heap.size 26 #[.bool b1, .slice A1 z.length c1] := ((HV1.out.set 0 _).set 1 _)
    have r0 := (HR.out).apart (HV1.out) (nd_int _ _ _ _) 0 (.bool b1)
    have r1 := (r0).apart ((HV1.out).set 0 (.bool b1)) (nd_int _ _ _ _) 1 (.slice A1 z.length c1)
    refine bodyPost_ret (v := .agg #[.bool b1, .slice A1 z.length c1]) (by simp [results, Tryz.results48, go_sem, v3.cell 0 rfl, v3.cell 1 rfl]) rfl ?_
    exact ⟨_, A1, c1, z, rfl, HB1, HZ1, r1, (below_set (below_set HBd.out (Nat.le_refl _) _) (Nat.le_refl _) _)⟩
  · have hlt : decide (n < 0) = false := decide_eq_false (by omega)
    have e3 : IntKind.u64.wrap n = n := IntWalk.u64_in _ (by omega)
    go_enter Tryz.func48, Tryz.ntmps48
    go_wp2_with fail
    obtain ⟨W, hW⟩ : ∃ W, W = (w.alloc (.cells #[.bool false, .slice none 0 0] 26)) := ⟨_, rfl⟩
    rw [← hW]
    have hBW : Below w.heap.size w W := by rw [hW]; exact ((Below.refl _ _).alloc (Nat.le_refl _) _)
    have vW0 : Vr W (w.heap.size) 26 #[.bool false, .slice none 0 0] := by rw [hW]; exact (Vr.new' _ _ _ (by simp only [size_alloc]))
    clear hW
    have HVW0 := Lib.hid vW0
    have HBW := Lib.hid hBW
    clear hBW vW0
    refine (rof_ok W n (by omega) (by omega)).mono ?_
    rintro e w0 ⟨A0, c0, z0, rfl, HZ0, hz0, hB0⟩
    have HV0 := Lib.hid (HVW0.out.below' hB0)
    have HB0 := Lib.hid (HBW.out.trans (hB0.mono HBW.out.size))
    have HR0 := Lib.hid hz0
    clear hB0 hz0
    have hl0 : z0.length ≤ 70368744177664 := by rw [HZ0.out]; exact Nat.le_trans (limbs_len (m := 2) (by rw [pw_succ, pw_succ, pw_zero]; omega)) (by omega)
    have hzv : zv false z0 = n := by rw [zv_f, HZ0.out, V_limbs]; omega
    go_wp2_with fail
    refine (rimake_ok w0 false A0 c0 z0 HR0.out hl0).mono ?_
    rw [hzv]
    clear hzv
    rintro e w1 ⟨b1, A1, c1, z, rfl, HB1, HZ1, hz, hB1⟩
    have dc0 := (HV0.out.below' hB1).cell 0 rfl
    have dc1 := (HV0.out.below' hB1).cell 1 rfl
    have df0 := (HV0.out.below' hB1).thaw 0
    have df1 := (HV0.out.below' hB1).thaw 1
    have HV1 := Lib.hid (HV0.out.below' hB1)
    have HBd := Lib.hid (HB0.out.trans (hB1.mono HB0.out.size))
    have HR := Lib.hid hz
    clear hB1 hz
    go_wp2_with fail
    have v3 : Vr ((w1.setCell ⟨w.heap.size, 0, none⟩ (.bool b1)).setCell ⟨w.heap.size, 1, none⟩ (.slice A1 z.length c1)) w.heap.size 26 #[.bool b1, .slice A1 z.length c1] := ((HV1.out.set 0 _).set 1 _)
    have r0 := (HR.out).apart (HV1.out) (nd_int _ _ _ _) 0 (.bool b1)
    have r1 := (r0).apart ((HV1.out).set 0 (.bool b1)) (nd_int _ _ _ _) 1 (.slice A1 z.length c1)
    refine bodyPost_ret (v := .agg #[.bool b1, .slice A1 z.length c1]) (by simp [results, Tryz.results48, go_sem, v3.cell 0 rfl, v3.cell 1 rfl]) rfl ?_
    exact ⟨_, A1, c1, z, rfl, HB1, HZ1, r1, (below_set (below_set HBd.out (Nat.le_refl _) _) (Nat.le_refl _) _)⟩

set_option maxHeartbeats 800000 in
theorem risign_ok (w : World) (b : Bool) (A : Option Addr) (c : Nat) (xs : List Int) (hx : RN w A c xs) (hs : xs.length ≤ 70368744177664) :
    Calls Tryz.prog 71 #[.agg #[.bool b, .slice A xs.length c]] w (fun e w' => e = .returned (.int .i64 (cmpI (zv b xs) 0)) ∧ Below w.heap.size w w') := by
  have HX := Lib.hid hx
  clear hx
  go_enter Tryz.func71, Tryz.ntmps71
  go_wp2_with fail
  obtain ⟨W, hW⟩ : ∃ W, W = (w.alloc (.cells #[.bool b, .slice A xs.length c] 26)) := ⟨_, rfl⟩
  rw [← hW]
  have hBW : Below w.heap.size w W := by rw [hW]; exact ((Below.refl _ _).alloc (Nat.le_refl _) _)
  have vW0 : Vr W (w.heap.size) 26 #[.bool b, .slice A xs.length c] := by rw [hW]; exact (Vr.new' _ _ _ (by simp only [size_alloc]))
  clear hW
  have HVW0 := Lib.hid vW0
  have HBW := Lib.hid hBW
  clear hBW vW0
  refine (rinorm_ok W b A c xs (HX.out.below HBW.out) hs).mono ?_
  rintro e w1 ⟨b1, A1, c1, z, rfl, HB1, HZ1, hz, hB1⟩
  have HBd := Lib.hid (HBW.out.trans (hB1.mono HBW.out.size))
  clear hB1 hz
  go_upto_region 2 with fail
  obtain ⟨T, hT⟩ : ∃ T, T = (w1.alloc (.cells #[.bool b1, .slice A1 z.length c1] 26)) := ⟨_, rfl⟩
  rw [← hT]
  have hBT : Below w1.heap.size w1 T := by rw [hT]; exact ((Below.refl _ _).alloc (Nat.le_refl _) _)
  have vT0 : Vr T (w1.heap.size) 26 #[.bool b1, .slice A1 z.length c1] := by rw [hT]; exact (Vr.new' _ _ _ (by simp only [size_alloc]))
  clear hT
  have HVT0 := Lib.hid vT0
  have HBT := Lib.hid hBT
  clear hBT vT0
  have HBt := Lib.hid (HBd.out.trans (HBT.out.mono HBd.out.size))
  have tc0 := (HVT0.out).cell 0 rfl
  have tc1 := (HVT0.out).cell 1 rfl
  by_cases hz : z.length = 0
  · have e1 : ((z.length : Int) == 0) = true := beq_iff_eq.2 (by omega)
    have e2 : (z.length == 0) = true := beq_iff_eq.2 hz
    have HZ0 : Hid (zv b xs = 0) := by
      have h := HZ1.out
      rw [List.length_eq_zero_iff.1 hz] at h
      have h2 := limbs_eq_nil.1 h.symm
      show _ = _
      omega
    have HH := Lib.hid hz
    clear hz
    go_wp2_with fail
    go_ret
    exact ⟨by rw [cmpI_eq HZ0.out]; rfl, HBt.out⟩
  · have e1 : ((z.length : Int) == 0) = false := beq_eq_false_iff_ne.2 (by omega)
    have e2 : (z.length == 0) = false := beq_eq_false_iff_ne.2 hz
    have HZ0 : Hid (zv b xs ≠ 0) := by
      intro h
      have h2 := HZ1.out
      rw [h] at h2
      exact hz (by rw [h2]; rfl)
    clear hz
    by_cases hn : zv b xs < 0
    · obtain rfl : b1 = true := by rw [HB1.out]; exact decide_eq_true hn
      have HH := Lib.hid hn
      clear hn
      go_wp2_with fail
      go_ret
      exact ⟨by rw [cmpI_lt HH.out]; rfl, HBt.out⟩
    · obtain rfl : b1 = false := by rw [HB1.out]; exact decide_eq_false hn
      have HH := Lib.hid hn
      clear hn
      go_wp2_with fail
      go_ret
      exact ⟨by rw [cmpI_gt (by have := HH.out; have := HZ0.out; omega)]; rfl, HBt.out⟩
theorem zv_not (b : Bool) (xs : List Int) : zv (!b) xs = -zv b xs := by
  cases b <;> simp [zv]

set_option maxHeartbeats 800000 in
theorem rineg_ok (w : World) (b : Bool) (A : Option Addr) (c : Nat) (xs : List Int) (hx : RN w A c xs) (hs : xs.length ≤ 70368744177664) :
    Calls Tryz.prog 98 #[.agg #[.bool b, .slice A xs.length c]] w (RetZI (-zv b xs) w) := by
  have HX := Lib.hid hx
  clear hx
  go_enter Tryz.func98, Tryz.ntmps98
  go_wp2_with fail
  obtain ⟨W, hW⟩ : ∃ W, W = ((w.alloc (.cells #[.bool b, .slice A xs.length c] 26)).alloc (.cells #[.bool false, .slice none 0 0] 26)) := ⟨_, rfl⟩
  rw [← hW]
  have hBW : Below w.heap.size w W := by rw [hW]; exact (((Below.refl _ _).alloc (Nat.le_refl _) _).alloc (by simp only [size_alloc]; omega) _)
  have vW0 : Vr W (w.heap.size) 26 #[.bool b, .slice A xs.length c] := by rw [hW]; exact ((Vr.new' _ _ _ (by simp only [size_alloc])).alloc _)
  have vW1 : Vr W (w.heap.size + 1) 26 #[.bool false, .slice none 0 0] := by rw [hW]; exact (Vr.new' _ _ _ (by simp only [size_alloc]))
  clear hW
  obtain ⟨gW1, hgW1⟩ : ∃ g, w.heap.size + 1 = g := ⟨_, rfl⟩
  rw [hgW1] at vW1 ⊢
  have hneW01 : w.heap.size ≠ gW1 := by omega
  have hgeW1 : w.heap.size ≤ gW1 := by omega
  have hneW10 : gW1 ≠ w.heap.size := by omega
  have HVW0 := Lib.hid vW0
  have HVW1 := Lib.hid vW1
  have HBW := Lib.hid hBW
  clear hBW vW0 vW1 hgW1
  refine (rimake_ok W (!b) A c xs (HX.out.below HBW.out) hs).mono ?_
  rintro e w1 ⟨b1, A1, c1, z, rfl, HB1, HZ1, hz, hB1⟩
  have dc0 := (HVW1.out.below' hB1).cell 0 rfl
  have dc1 := (HVW1.out.below' hB1).cell 1 rfl
  have df0 := (HVW1.out.below' hB1).thaw 0
  have df1 := (HVW1.out.below' hB1).thaw 1
  have HV1 := Lib.hid (HVW1.out.below' hB1)
  have HBd := Lib.hid (HBW.out.trans (hB1.mono HBW.out.size))
  have HR := Lib.hid hz
  clear hB1 hz
  go_wp2_with fail
  have v3 : Vr ((w1.setCell ⟨gW1, 0, none⟩ (.bool b1)).setCell ⟨gW1, 1, none⟩ (.slice A1 z.length c1)) gW1 26 #[.bool b1, .slice A1 z.length c1] := ((HV1.out.set 0 _).set 1 _)
  have r0 := (HR.out).apart (HV1.out) (nd_int _ _ _ _) 0 (.bool b1)
  have r1 := (r0).apart ((HV1.out).set 0 (.bool b1)) (nd_int _ _ _ _) 1 (.slice A1 z.length c1)
  refine bodyPost_ret (v := .agg #[.bool b1, .slice A1 z.length c1]) (by simp [results, Tryz.results98, go_sem, v3.cell 0 rfl, v3.cell 1 rfl]) rfl ?_
  exact ⟨_, A1, c1, z, rfl, by rw [zv_not] at HB1; exact HB1, by rw [zv_not] at HZ1; exact HZ1, r1, (below_set (below_set HBd.out hgeW1 _) hgeW1 _)⟩

set_option maxHeartbeats 1600000 in
theorem ricmp_ok (w : World) (b1 b2 : Bool) (A B : Option Addr) (c d : Nat) (xs ys : List Int) (hx : RN w A c xs) (hy : RN w B d ys) (hsx : xs.length ≤ 70368744177664) (hsy : ys.length ≤ 70368744177664) :
    Calls Tryz.prog 47 #[.agg #[.bool b1, .slice A xs.length c], .agg #[.bool b2, .slice B ys.length d]] w (fun e w' => e = .returned (.int .i64 (cmpI (zv b1 xs) (zv b2 ys))) ∧ Below w.heap.size w w') := by
  have HX := Lib.hid hx
  have HY := Lib.hid hy
  clear hx hy
  go_enter Tryz.func47, Tryz.ntmps47
  go_wp2_with fail
  obtain ⟨W, hW⟩ : ∃ W, W = ((w.alloc (.cells #[.bool b1, .slice A xs.length c] 26)).alloc (.cells #[.bool b2, .slice B ys.length d] 26)) := ⟨_, rfl⟩
  rw [← hW]
  have hBW : Below w.heap.size w W := by rw [hW]; exact (((Below.refl _ _).alloc (Nat.le_refl _) _).alloc (by simp only [size_alloc]; omega) _)
  have vW0 : Vr W (w.heap.size) 26 #[.bool b1, .slice A xs.length c] := by rw [hW]; exact ((Vr.new' _ _ _ (by simp only [size_alloc])).alloc _)
  have vW1 : Vr W (w.heap.size + 1) 26 #[.bool b2, .slice B ys.length d] := by rw [hW]; exact (Vr.new' _ _ _ (by simp only [size_alloc]))
  clear hW
  obtain ⟨gW1, hgW1⟩ : ∃ g, w.heap.size + 1 = g := ⟨_, rfl⟩
  rw [hgW1] at vW1 ⊢
  have hneW01 : w.heap.size ≠ gW1 := by omega
  have hgeW1 : w.heap.size ≤ gW1 := by omega
  have hneW10 : gW1 ≠ w.heap.size := by omega
  have HVW0 := Lib.hid vW0
  have HVW1 := Lib.hid vW1
  have HBW := Lib.hid hBW
  clear hBW vW0 vW1 hgW1
  refine (risign_ok W b1 A c xs (HX.out.below HBW.out) hsx).mono ?_
  rintro e w1 ⟨rfl, hB1⟩
  have HVW0ac0 := (HVW0.out.below' hB1).cell 0 rfl
  have HVW0ac1 := (HVW0.out.below' hB1).cell 1 rfl
  have HVW0a := Lib.hid (HVW0.out.below' hB1)
  have HVW1ac0 := (HVW1.out.below' hB1).cell 0 rfl
  have HVW1ac1 := (HVW1.out.below' hB1).cell 1 rfl
  have HVW1a := Lib.hid (HVW1.out.below' hB1)
  have HBa := Lib.hid (HBW.out.trans (hB1.mono HBW.out.size))
  clear hB1
  go_wp2_with fail
  refine (risign_ok w1 b2 B d ys (HY.out.below HBa.out) hsy).mono ?_
  rintro e w2 ⟨rfl, hB2⟩
  have HVW0abc0 := (HVW0a.out.below' hB2).cell 0 rfl
  have HVW0abc1 := (HVW0a.out.below' hB2).cell 1 rfl
  have HVW0ab := Lib.hid (HVW0a.out.below' hB2)
  have HVW1abc0 := (HVW1a.out.below' hB2).cell 0 rfl
  have HVW1abc1 := (HVW1a.out.below' hB2).cell 1 rfl
  have HVW1ab := Lib.hid (HVW1a.out.below' hB2)
  have HBe := Lib.hid (HBa.out.trans (hB2.mono HBa.out.size))
  have HX2 := Lib.hid (HX.out.below HBe.out)
  have HY2 := Lib.hid (HY.out.below HBe.out)
  clear hB2
  rcases zv_sign (b := b1) HX.out.2 with ⟨h1, h2, h3⟩ | ⟨h1, h2, h3⟩ | ⟨h1, h2, h3⟩
  all_goals rcases zv_sign (b := b2) HY.out.2 with ⟨k1, k2, k3⟩ | ⟨k1, k2, k3⟩ | ⟨k1, k2, k3⟩
  all_goals rw [h3, k3]
  all_goals have HH1 := Lib.hid h1
  all_goals have HH2 := Lib.hid h2
  all_goals have HK1 := Lib.hid k1
  all_goals have HK2 := Lib.hid k2
  all_goals clear h1 h2 h3 k1 k2 k3
  all_goals go_wp2_with fail
  all_goals first | (go_ret; exact ⟨by first | rw [cmpI_lt (by have := HH1.out; have := HK1.out; omega)]; rfl | rw [cmpI_gt (by have := HH1.out; have := HK1.out; omega)]; rfl, HBe.out⟩) | skip
  · refine (rcmp_ok _ B A _ _ ys xs HY2.out HX2.out).mono ?_
    rintro e w3 ⟨n, rfl, rfl⟩
    go_wp2_with fail
    go_ret
    exact ⟨by rw [HH2.out, HK2.out, zv_t, zv_t, cmpI_neg]; rfl, below_drewN HBe.out n⟩
  · refine (rcmp_ok _ A B _ _ xs ys HX2.out HY2.out).mono ?_
    rintro e w3 ⟨n, rfl, rfl⟩
    go_wp2_with fail
    go_ret
    exact ⟨by rw [HH1.out, HK1.out, HH2.out, HK2.out]; rfl, below_drewN HBe.out n⟩
  · refine (rcmp_ok _ A B _ _ xs ys HX2.out HY2.out).mono ?_
    rintro e w3 ⟨n, rfl, rfl⟩
    go_wp2_with fail
    go_ret
    exact ⟨by rw [HH2.out, HK2.out, zv_f, zv_f]; rfl, below_drewN HBe.out n⟩

set_option maxHeartbeats 1600000 in
theorem rimul_ok (w : World) (b1 b2 : Bool) (A B : Option Addr) (c d : Nat) (xs ys : List Int) (hx : RN w A c xs) (hy : RN w B d ys) (hs : xs.length + ys.length ≤ 70368744177664) :
    Calls Tryz.prog 63 #[.agg #[.bool b1, .slice A xs.length c], .agg #[.bool b2, .slice B ys.length d]] w (RetZI (zv b1 xs * zv b2 ys) w) := by
  have HX := Lib.hid hx
  have HY := Lib.hid hy
  clear hx hy
  go_enter Tryz.func63, Tryz.ntmps63
  go_wp2_with fail
  obtain ⟨W, hW⟩ : ∃ W, W = ((w.alloc (.cells #[.bool b1, .slice A xs.length c] 26)).alloc (.cells #[.bool b2, .slice B ys.length d] 26)).alloc (.cells #[.bool false, .slice none 0 0] 26) := ⟨_, rfl⟩
  rw [← hW]
  have hB : Below w.heap.size w W := by rw [hW]; exact (((Below.refl _ _).alloc (Nat.le_refl _) _).alloc (by rw [size_alloc]; omega) _).alloc (by rw [size_alloc, size_alloc]; omega) _
  have v0 : Vr W w.heap.size 26 #[.bool b1, .slice A xs.length c] := by rw [hW]; exact ((Vr.new _ _ _).alloc _).alloc _
  have v1 : Vr W (w.heap.size + 1) 26 #[.bool b2, .slice B ys.length d] := by rw [hW, ← size_alloc w (.cells #[.bool b1, .slice A xs.length c] 26)]; exact (Vr.new _ _ _).alloc _
  have v2 : Vr W (w.heap.size + 1 + 1) 26 #[.bool false, .slice none 0 0] := by rw [hW, ← size_alloc w (.cells #[.bool b1, .slice A xs.length c] 26), ← size_alloc (w.alloc (.cells #[.bool b1, .slice A xs.length c] 26)) (.cells #[.bool b2, .slice B ys.length d] 26)]; exact Vr.new _ _ _
  clear hW
  have c00 := v0.cell 0 rfl
  have c01 := v0.cell 1 rfl
  have c10 := v1.cell 0 rfl
  have c11 := v1.cell 1 rfl
  have HV2 := Lib.hid v2
  have HV0 := Lib.hid v0
  have HV1 := Lib.hid v1
  have HB := Lib.hid hB
  have HS := Lib.hid hs
  clear v0 v1 v2 hB hs
  obtain ⟨g2, hg2⟩ : ∃ g2, w.heap.size + 1 + 1 = g2 := ⟨_, rfl⟩
  rw [hg2] at HV2 ⊢
  have hne2 : g2 ≠ w.heap.size := by omega
  have hne3 : g2 ≠ w.heap.size + 1 := by omega
  have hle2 : w.heap.size ≤ g2 := by omega
  clear hg2
  go_region_held3 (fun w' => w'.cell? ⟨w.heap.size, 0, none⟩ = some (.bool b1) ∧ w'.cell? ⟨w.heap.size, 1, none⟩ = some (.slice A xs.length c) ∧ w'.cell? ⟨w.heap.size + 1, 0, none⟩ = some (.bool b2) ∧ w'.cell? ⟨w.heap.size + 1, 1, none⟩ = some (.slice B ys.length d)) (go_keep)
    (first
      | (go_at_call 68
         refine (rmul_ok W.drew A B c d xs ys (HX.out.below HB.out.drew) (HY.out.below HB.out.drew) HS.out).mono ?_
         rintro e w1 ⟨A1, c1, z, rfl, HZ, hz, hB1⟩
         have d00 := (HV0.out.drew.below' hB1).cell 0 rfl
         have d01 := (HV0.out.drew.below' hB1).cell 1 rfl
         have d10 := (HV1.out.drew.below' hB1).cell 0 rfl
         have d11 := (HV1.out.drew.below' hB1).cell 1 rfl
         have HVd := Lib.hid (HV2.out.drew.below' hB1)
         have HV0d := Lib.hid (HV0.out.drew.below' hB1)
         have HV1d := Lib.hid (HV1.out.drew.below' hB1)
         have HBd := Lib.hid (HB.out.drew.trans (hB1.mono HB.out.drew.size))
         have HZd := Lib.hid hz
         clear hB1 hz)
      | (go_at_call 65
         refine (rimake_ok w1 (b1 != b2) A1 c1 z HZd.out (by rw [HZ.out]; exact Nat.le_trans (mul_len HX.out.2 HY.out.2) HS.out)).mono ?_
         rintro e w2 ⟨b3, A3, c3, z3, rfl, HB3, HZ3, hz3, hB3⟩
         have e00 := (HV0d.out.below' hB3).cell 0 rfl
         have e01 := (HV0d.out.below' hB3).cell 1 rfl
         have e10 := (HV1d.out.below' hB3).cell 0 rfl
         have e11 := (HV1d.out.below' hB3).cell 1 rfl
         have d20 := (HVd.out.below' hB3).cell 0 rfl
         have d21 := (HVd.out.below' hB3).cell 1 rfl
         have f20 := (HVd.out.below' hB3).thaw 0
         have f21 := (HVd.out.below' hB3).thaw 1
         have HVe := Lib.hid (HVd.out.below' hB3)
         have HBe := Lib.hid (HBd.out.trans (hB3.mono HBd.out.size))
         have HZe := Lib.hid hz3
         clear hB3 hz3))
  go_wp2_with fail
  have r1 : RN (w2.setCell ⟨g2, 0, none⟩ (.bool b3)) A3 c3 z3 := HZe.out.apart HVe.out (nd_int _ _ _ _) 0 (.bool b3)
  have v1 := HVe.out.set 0 (.bool b3)
  have r2 := r1.apart v1 (nd_int _ _ _ _) 1 (.slice A3 z3.length c3)
  have v2 : Vr ((w2.setCell ⟨g2, 0, none⟩ (.bool b3)).setCell ⟨g2, 1, none⟩ (.slice A3 z3.length c3)) g2 26 #[.bool b3, .slice A3 z3.length c3] := v1.set 1 _
  refine bodyPost_ret (v := .agg #[.bool b3, .slice A3 z3.length c3]) (by simp [results, Tryz.results63, go_sem, v2.cell 0 rfl, v2.cell 1 rfl]) rfl ?_
  have ez : zv (b1 != b2) z = zv b1 xs * zv b2 ys := by
    rw [← zv_mul]
    have e : V z = V xs * V ys := by
      rw [HZ.out, V_limbs, Int.natCast_mul, Int.toNat_of_nonneg (V_nonneg HX.out.2), Int.toNat_of_nonneg (V_nonneg HY.out.2)]
    unfold zv
    rw [e]
    split
    · rw [Int.neg_mul]
    · rfl
  exact ⟨b3, A3, c3, z3, rfl, by show b3 = _; rw [← ez]; exact HB3.out, by show z3 = _; rw [← ez]; exact HZ3.out, r2, below_set (below_set HBe.out hle2 _) hle2 _⟩


end Go.Proofs.YtocpncjmcaecoaaGreat.M
namespace Go.Proofs.YtocpncjmcaecoaaGreat.M
set_option maxRecDepth 10000
open Go.RowKit
set_option linter.unusedVariables false
set_option linter.unusedSimpArgs false
theorem BL_zero {N b : Nat} (h : BL N b) : b = 0 ↔ N = 0 := by
  rcases h with ⟨h1, h2⟩ | ⟨h1, h2, h3⟩
  · omega
  · have := Nat.two_pow_pos (b - 1)
    omega

set_option maxHeartbeats 1600000 in
theorem top_ok (w : World) (b : Bool) (A B : Option Addr) (c d : Nat) (xs ys : List Int) (hx : RN w A c xs) (hy : RN w B d ys) (hsx : xs.length ≤ 35184372088800) (hsy : ys.length ≤ 35184372088800) :
    Calls Tryz.prog 64 #[.agg #[.bool b, .slice A xs.length c, .slice B ys.length d]] w (RetZI (qn b xs ys) w) := by
  have HX := Lib.hid hx
  have HY := Lib.hid hy
  clear hx hy
  go_enter Tryz.func64, Tryz.ntmps64
  go_wp2_with fail
  obtain ⟨W, hW⟩ : ∃ W, W = ((w.alloc (.cells #[.bool b, .slice A xs.length c, .slice B ys.length d] 28)).alloc (.cells #[.bool false, .slice none 0 0] 26)) := ⟨_, rfl⟩
  rw [← hW]
  have hBW : Below w.heap.size w W := by rw [hW]; exact (((Below.refl _ _).alloc (Nat.le_refl _) _).alloc (by simp only [size_alloc]; omega) _)
  have vW0 : Vr W (w.heap.size) 28 #[.bool b, .slice A xs.length c, .slice B ys.length d] := by rw [hW]; exact ((Vr.new' _ _ _ (by simp only [size_alloc])).alloc _)
  have vW1 : Vr W (w.heap.size + 1) 26 #[.bool false, .slice none 0 0] := by rw [hW]; exact (Vr.new' _ _ _ (by simp only [size_alloc]))
  clear hW
  obtain ⟨gW1, hgW1⟩ : ∃ g, w.heap.size + 1 = g := ⟨_, rfl⟩
  rw [hgW1] at vW1 ⊢
  have hneW01 : w.heap.size ≠ gW1 := by omega
  have hgeW1 : w.heap.size ≤ gW1 := by omega
  have hneW10 : gW1 ≠ w.heap.size := by omega
  have HVW0 := Lib.hid vW0
  have HVW1 := Lib.hid vW1
  have HBW := Lib.hid hBW
  clear hBW vW0 vW1 hgW1
  have oc0 := (HVW0.out).cell 0 rfl
  have oc1 := (HVW0.out).cell 1 rfl
  have oc2 := (HVW0.out).cell 2 rfl
  have RX := Lib.hid (HX.out.below HBW.out)
  refine (rbits_ok W B d ys (HY.out.below HBW.out) (by omega)).mono ?_
  rintro e wa ⟨va, rfl, HBLa, _, hB⟩
  have HVW0ac0 := (HVW0.out.below' hB).cell 0 rfl
  have HVW0ac1 := (HVW0.out.below' hB).cell 1 rfl
  have HVW0ac2 := (HVW0.out.below' hB).cell 2 rfl
  have HVW0a := Lib.hid (HVW0.out.below' hB)
  have HVW1ac0 := (HVW1.out.below' hB).cell 0 rfl
  have HVW1ac1 := (HVW1.out.below' hB).cell 1 rfl
  have HVW1af0 := (HVW1.out.below' hB).thaw 0
  have HVW1af1 := (HVW1.out.below' hB).thaw 1
  have HVW1a := Lib.hid (HVW1.out.below' hB)
  have RXa := Lib.hid (RX.out.below hB)
  have Ba := Lib.hid (HBW.out.trans (hB.mono HBW.out.size))
  clear hB
  have h0 := V_nonneg HY.out.2
  by_cases hz : V ys = 0
  · obtain rfl : va = 0 := (BL_zero HBLa.out).2 (by omega)
    have HZ := Lib.hid hz
    clear hz h0
    go_wp2_with fail
    refine (riof_ok wa 0 (by omega) (by omega)).mono ?_
    rintro e w1 ⟨b1, A1, c1, z, rfl, HB1, HZ1, hz, hB1⟩
    have dc0 := (HVW1a.out.below' hB1).cell 0 rfl
    have dc1 := (HVW1a.out.below' hB1).cell 1 rfl
    have df0 := (HVW1a.out.below' hB1).thaw 0
    have df1 := (HVW1a.out.below' hB1).thaw 1
    have HV1 := Lib.hid (HVW1a.out.below' hB1)
    have HBd := Lib.hid (Ba.out.trans (hB1.mono Ba.out.size))
    have HR := Lib.hid hz
    have EQ : Hid (qn b xs ys = 0) := by show _ = _; unfold qn; rw [if_pos HZ.out]
    clear hB1 hz
    go_wp2_with fail
    have v3 : Vr ((w1.setCell ⟨gW1, 0, none⟩ (.bool b1)).setCell ⟨gW1, 1, none⟩ (.slice A1 z.length c1)) gW1 26 #[.bool b1, .slice A1 z.length c1] := ((HV1.out.set 0 _).set 1 _)
    have r0 := (HR.out).apart (HV1.out) (nd_int _ _ _ _) 0 (.bool b1)
    have r1 := (r0).apart ((HV1.out).set 0 (.bool b1)) (nd_int _ _ _ _) 1 (.slice A1 z.length c1)
    refine bodyPost_ret (v := .agg #[.bool b1, .slice A1 z.length c1]) (by simp [results, Tryz.results64, go_sem, v3.cell 0 rfl, v3.cell 1 rfl]) rfl ?_
    exact ⟨_, A1, c1, z, rfl, by rw [EQ.out]; exact HB1, by rw [EQ.out]; exact HZ1, r1, (below_set (below_set HBd.out hgeW1 _) hgeW1 _)⟩
  · have hv : ((va : Int) == 0) = false := beq_eq_false_iff_ne.2 (fun h => hz (by have := (BL_zero HBLa.out).1 (by omega); omega))
    have EQ : Hid (qn b xs ys = zv b xs) := by show _ = _; unfold qn; rw [if_neg hz]
    clear hz h0
    go_wp2_with fail
    refine (rinorm_ok wa b A c xs RXa.out (by omega)).mono ?_
    rintro e w1 ⟨b1, A1, c1, z, rfl, HB1, HZ1, hz, hB1⟩
    have dc0 := (HVW1a.out.below' hB1).cell 0 rfl
    have dc1 := (HVW1a.out.below' hB1).cell 1 rfl
    have df0 := (HVW1a.out.below' hB1).thaw 0
    have df1 := (HVW1a.out.below' hB1).thaw 1
    have HV1 := Lib.hid (HVW1a.out.below' hB1)
    have HBd := Lib.hid (Ba.out.trans (hB1.mono Ba.out.size))
    have HR := Lib.hid hz
    clear hB1 hz
    go_wp2_with fail
    have v3 : Vr ((w1.setCell ⟨gW1, 0, none⟩ (.bool b1)).setCell ⟨gW1, 1, none⟩ (.slice A1 z.length c1)) gW1 26 #[.bool b1, .slice A1 z.length c1] := ((HV1.out.set 0 _).set 1 _)
    have r0 := (HR.out).apart (HV1.out) (nd_int _ _ _ _) 0 (.bool b1)
    have r1 := (r0).apart ((HV1.out).set 0 (.bool b1)) (nd_int _ _ _ _) 1 (.slice A1 z.length c1)
    refine bodyPost_ret (v := .agg #[.bool b1, .slice A1 z.length c1]) (by simp [results, Tryz.results64, go_sem, v3.cell 0 rfl, v3.cell 1 rfl]) rfl ?_
    exact ⟨_, A1, c1, z, rfl, by rw [EQ.out]; exact HB1, by rw [EQ.out]; exact HZ1, r1, (below_set (below_set HBd.out hgeW1 _) hgeW1 _)⟩

set_option maxHeartbeats 1600000 in
theorem low_ok (w : World) (b : Bool) (A B : Option Addr) (c d : Nat) (xs ys : List Int) (hx : RN w A c xs) (hy : RN w B d ys) (hsx : xs.length ≤ 35184372088800) (hsy : ys.length ≤ 35184372088800) :
    Calls Tryz.prog 66 #[.agg #[.bool b, .slice A xs.length c, .slice B ys.length d]] w (RetN (qd ys).toNat w) := by
  have HX := Lib.hid hx
  have HY := Lib.hid hy
  clear hx hy
  go_enter Tryz.func66, Tryz.ntmps66
  go_wp2_with fail
  obtain ⟨W, hW⟩ : ∃ W, W = (w.alloc (.cells #[.bool b, .slice A xs.length c, .slice B ys.length d] 28)) := ⟨_, rfl⟩
  rw [← hW]
  have hBW : Below w.heap.size w W := by rw [hW]; exact ((Below.refl _ _).alloc (Nat.le_refl _) _)
  have vW0 : Vr W (w.heap.size) 28 #[.bool b, .slice A xs.length c, .slice B ys.length d] := by rw [hW]; exact (Vr.new' _ _ _ (by simp only [size_alloc]))
  clear hW
  have HVW0 := Lib.hid vW0
  have HBW := Lib.hid hBW
  clear hBW vW0
  have oc0 := (HVW0.out).cell 0 rfl
  have oc1 := (HVW0.out).cell 1 rfl
  have oc2 := (HVW0.out).cell 2 rfl
  have RY := Lib.hid (HY.out.below HBW.out)
  refine (rbits_ok W B d ys RY.out (by omega)).mono ?_
  rintro e wa ⟨va, rfl, HBLa, _, hB⟩
  have HVW0ac0 := (HVW0.out.below' hB).cell 0 rfl
  have HVW0ac1 := (HVW0.out.below' hB).cell 1 rfl
  have HVW0ac2 := (HVW0.out.below' hB).cell 2 rfl
  have HVW0a := Lib.hid (HVW0.out.below' hB)
  have RYa := Lib.hid (RY.out.below hB)
  have Ba := Lib.hid (HBW.out.trans (hB.mono HBW.out.size))
  clear hB
  have h0 := V_nonneg HY.out.2
  by_cases hz : V ys = 0
  · obtain rfl : va = 0 := (BL_zero HBLa.out).2 (by omega)
    have EQ : Hid (qd ys = 1) := by show _ = _; unfold qd; rw [if_pos hz]
    clear hz h0
    go_wp2_with fail
    refine (rof_ok wa 1 (by omega) (by omega)).mono ?_
    rintro e w1 ⟨A1, c1, z, rfl, HZ1, hz, hB1⟩
    have HBd := Lib.hid (Ba.out.trans (hB1.mono Ba.out.size))
    have HR := Lib.hid hz
    clear hB1 hz
    go_wp2_with fail
    go_ret
    exact ⟨A1, c1, z, rfl, by rw [EQ.out]; exact HZ1, HR.out, HBd.out⟩
  · have hv : ((va : Int) == 0) = false := beq_eq_false_iff_ne.2 (fun h => hz (by have := (BL_zero HBLa.out).1 (by omega); omega))
    have EQ : Hid (qd ys = V ys) := by show _ = _; unfold qd; rw [if_neg hz]
    clear hz h0
    go_wp2_with fail
    refine (rnorm_ok wa B d ys RYa.out (by omega)).mono ?_
    rintro e w1 ⟨A1, c1, z, rfl, HZ1, hz, hB1⟩
    have HBd := Lib.hid (Ba.out.trans (hB1.mono Ba.out.size))
    have HR := Lib.hid hz
    clear hB1 hz
    go_wp2_with fail
    go_ret
    exact ⟨A1, c1, z, rfl, by rw [EQ.out]; exact HZ1, HR.out, HBd.out⟩

set_option maxHeartbeats 800000 in
theorem rzero_ok (w : World)  :
    Calls Tryz.prog 95 #[] w (RetQ 0 w) := by
  go_enter Tryz.func95, Tryz.ntmps95
  go_wp2_with fail
  obtain ⟨W, hW⟩ : ∃ W, W = (w.alloc (.cells #[.bool false, .slice none 0 0, .slice none 0 0] 28)) := ⟨_, rfl⟩
  rw [← hW]
  have hBW : Below w.heap.size w W := by rw [hW]; exact ((Below.refl _ _).alloc (Nat.le_refl _) _)
  have vW0 : Vr W (w.heap.size) 28 #[.bool false, .slice none 0 0, .slice none 0 0] := by rw [hW]; exact (Vr.new' _ _ _ (by simp only [size_alloc]))
  clear hW
  have HVW0 := Lib.hid vW0
  have HBW := Lib.hid hBW
  clear hBW vW0
  refine (rof_ok W 1 (by omega) (by omega)).mono ?_
  rintro e w1 ⟨A1, c1, z, rfl, HZ1, hz, hB1⟩
  have dc0 := (HVW0.out.below' hB1).cell 0 rfl
  have dc1 := (HVW0.out.below' hB1).cell 1 rfl
  have dc2 := (HVW0.out.below' hB1).cell 2 rfl
  have df0 := (HVW0.out.below' hB1).thaw 0
  have df1 := (HVW0.out.below' hB1).thaw 1
  have df2 := (HVW0.out.below' hB1).thaw 2
  have HV1 := Lib.hid (HVW0.out.below' hB1)
  have HBd := Lib.hid (HBW.out.trans (hB1.mono HBW.out.size))
  have HR := Lib.hid hz
  clear hB1 hz
  go_wp2_with fail
  have v3 : Vr (((w1.setCell ⟨w.heap.size, 0, none⟩ (.bool false)).setCell ⟨w.heap.size, 1, none⟩ (.slice none 0 0)).setCell ⟨w.heap.size, 2, none⟩ (.slice A1 z.length c1)) w.heap.size 28 #[.bool false, .slice none 0 0, .slice A1 z.length c1] := (((HV1.out.set 0 _).set 1 _).set 2 _)
  have r0 := (HR.out).apart (HV1.out) (nd_rat _ _ _ _ _ _ _) 0 (.bool false)
  have r1 := (r0).apart ((HV1.out).set 0 (.bool false)) (nd_rat _ _ _ _ _ _ _) 1 (.slice none 0 0)
  have r2 := (r1).apart (((HV1.out).set 0 (.bool false)).set 1 (.slice none 0 0)) (nd_rat _ _ _ _ _ _ _) 2 (.slice A1 z.length c1)
  refine bodyPost_ret (v := .agg #[.bool false, .slice none 0 0, .slice A1 z.length c1]) (by simp [results, Tryz.results95, go_sem, v3.cell 0 rfl, v3.cell 1 rfl, v3.cell 2 rfl]) rfl ?_
  exact ⟨false, none, 0, [], A1, c1, z, rfl, rfl, rfl, HZ1, RN.nil _, r2, (below_set (below_set (below_set HBd.out (Nat.le_refl _) _) (Nat.le_refl _) _) (Nat.le_refl _) _)⟩

set_option maxHeartbeats 3200000 in
theorem reduce_ok (w : World) (b : Bool) (A B : Option Addr) (c d : Nat) (xs ys : List Int) (hx : RN w A c xs) (hy : RN w B d ys) (hsx : xs.length ≤ 35184372088800) (hsy : ys.length ≤ 35184372088800) (hny : V ys ≠ 0) :
    Calls Tryz.prog 67 #[.agg #[.bool b, .slice A xs.length c], .slice B ys.length d] w (RetQ (qv b xs ys) w) := by
  have HX := Lib.hid hx
  have HY := Lib.hid hy
  clear hx hy
  have HNY := Lib.hid hny
  clear hny
  go_enter Tryz.func67, Tryz.ntmps67
  go_wp2_with fail
  obtain ⟨W, hW⟩ : ∃ W, W = ((w.alloc (.cells #[.bool b, .slice A xs.length c] 26)).alloc (.cells #[.bool false, .slice none 0 0, .slice none 0 0] 28)) := ⟨_, rfl⟩
  rw [← hW]
  have hBW : Below w.heap.size w W := by rw [hW]; exact (((Below.refl _ _).alloc (Nat.le_refl _) _).alloc (by simp only [size_alloc]; omega) _)
  have vW0 : Vr W (w.heap.size) 26 #[.bool b, .slice A xs.length c] := by rw [hW]; exact ((Vr.new' _ _ _ (by simp only [size_alloc])).alloc _)
  have vW1 : Vr W (w.heap.size + 1) 28 #[.bool false, .slice none 0 0, .slice none 0 0] := by rw [hW]; exact (Vr.new' _ _ _ (by simp only [size_alloc]))
  clear hW
  obtain ⟨gW1, hgW1⟩ : ∃ g, w.heap.size + 1 = g := ⟨_, rfl⟩
  rw [hgW1] at vW1 ⊢
  have hneW01 : w.heap.size ≠ gW1 := by omega
  have hgeW1 : w.heap.size ≤ gW1 := by omega
  have hneW10 : gW1 ≠ w.heap.size := by omega
  have HVW0 := Lib.hid vW0
  have HVW1 := Lib.hid vW1
  have HBW := Lib.hid hBW
  clear hBW vW0 vW1 hgW1
  have oc0 := (HVW0.out).cell 0 rfl
  have oc1 := (HVW0.out).cell 1 rfl
  go_upto_region 1 with fail
  go_wp2_with fail
  refine (rinorm_ok W b A c xs (HX.out.below HBW.out) (by omega)).mono ?_
  rintro e w1 ⟨b1, A1, c1, x, rfl, HB1, HX1, hx1, hB1⟩
  have HV1 := Lib.hid (HVW1.out.below' hB1)
  have HBa := Lib.hid (HBW.out.trans (hB1.mono HBW.out.size))
  have RX1 := Lib.hid hx1
  clear hB1 hx1
  go_upto_region 2 with fail
  obtain ⟨T, hT⟩ : ∃ T, T = (w1.alloc (.cells #[.bool b1, .slice A1 x.length c1] 26)) := ⟨_, rfl⟩
  rw [← hT]
  have hBT : Below w1.heap.size w1 T := by rw [hT]; exact ((Below.refl _ _).alloc (Nat.le_refl _) _)
  have vT0 : Vr T (w1.heap.size) 26 #[.bool b1, .slice A1 x.length c1] := by rw [hT]; exact (Vr.new' _ _ _ (by simp only [size_alloc]))
  clear hT
  have HVT0 := Lib.hid vT0
  have HBT := Lib.hid hBT
  clear hBT vT0
  have HV2 := Lib.hid (HV1.out.below' HBT.out)
  have HBt := Lib.hid (HBa.out.trans (HBT.out.mono HBa.out.size))
  have RX2 := Lib.hid (RX1.out.below HBT.out)
  have RY2 := Lib.hid (HY.out.below HBt.out)
  have HVX : Hid (V x = (((zv b xs).natAbs : Nat) : Int)) := by show _ = _; rw [HX1.out, V_limbs]
  have hlx : x.length ≤ 35184372088800 := by
    rw [HX1.out, zv_abs b HX.out.2]
    have h := limbs_div_len HX.out.2 1
    rw [Nat.div_one] at h
    omega
  have HEB : Hid (zv b1 x = zv b xs) := by show _ = _; rw [HB1.out, HX1.out]; exact zv_norm _
  have tc0 := (HVT0.out).cell 0 rfl
  have tc1 := (HVT0.out).cell 1 rfl
  go_wp2_with fail
  refine (rbits_ok T A1 c1 x RX2.out (by omega)).mono ?_
  rintro e wa ⟨va, rfl, HBLa, _, hB⟩
  have HVT0ac0 := (HVT0.out.below' hB).cell 0 rfl
  have HVT0ac1 := (HVT0.out.below' hB).cell 1 rfl
  have HVT0a := Lib.hid (HVT0.out.below' hB)
  have HV2ac0 := (HV2.out.below' hB).cell 0 rfl
  have HV2ac1 := (HV2.out.below' hB).cell 1 rfl
  have HV2ac2 := (HV2.out.below' hB).cell 2 rfl
  have HV2af0 := (HV2.out.below' hB).thaw 0
  have HV2af1 := (HV2.out.below' hB).thaw 1
  have HV2af2 := (HV2.out.below' hB).thaw 2
  have HV2a := Lib.hid (HV2.out.below' hB)
  have RX2a := Lib.hid (RX2.out.below hB)
  have RY2a := Lib.hid (RY2.out.below hB)
  have Ba := Lib.hid (HBt.out.trans (hB.mono HBt.out.size))
  clear hB
  by_cases hz : V x = 0
  · obtain rfl : va = 0 := (BL_zero HBLa.out).2 (by omega)
    have HZ : Hid (qv b xs ys = 0) := by
      show _ = _
      have h1 : zv b xs = 0 := by have := HVX.out; omega
      unfold qv
      rw [h1]
      exact Rat.zero_mkRat _
    clear hz
    go_wp2_with fail
    refine (rzero_ok wa).mono ?_
    rintro e w2 ⟨b2, A2, c2, x2, B2, d2, y2, rfl, HQ1, HQ2, HQ3, hr1, hr2, hB2⟩
    have kc0 := (HV2a.out.below' hB2).cell 0 rfl
    have kc1 := (HV2a.out.below' hB2).cell 1 rfl
    have kc2 := (HV2a.out.below' hB2).cell 2 rfl
    have kf0 := (HV2a.out.below' hB2).thaw 0
    have kf1 := (HV2a.out.below' hB2).thaw 1
    have kf2 := (HV2a.out.below' hB2).thaw 2
    have HV3 := Lib.hid (HV2a.out.below' hB2)
    have HB2 := Lib.hid (Ba.out.trans (hB2.mono Ba.out.size))
    have HR1 := Lib.hid hr1
    have HR2 := Lib.hid hr2
    clear hB2 hr1 hr2
    go_wp2_with fail
    have v3 : Vr (((w2.setCell ⟨gW1, 0, none⟩ (.bool b2)).setCell ⟨gW1, 1, none⟩ (.slice A2 x2.length c2)).setCell ⟨gW1, 2, none⟩ (.slice B2 y2.length d2)) gW1 28 #[.bool b2, .slice A2 x2.length c2, .slice B2 y2.length d2] := (((HV3.out.set 0 _).set 1 _).set 2 _)
    have r0 := (HR1.out).apart (HV3.out) (nd_rat _ _ _ _ _ _ _) 0 (.bool b2)
    have r1 := (r0).apart ((HV3.out).set 0 (.bool b2)) (nd_rat _ _ _ _ _ _ _) 1 (.slice A2 x2.length c2)
    have r2 := (r1).apart (((HV3.out).set 0 (.bool b2)).set 1 (.slice A2 x2.length c2)) (nd_rat _ _ _ _ _ _ _) 2 (.slice B2 y2.length d2)
    have s0 := (HR2.out).apart (HV3.out) (nd_rat _ _ _ _ _ _ _) 0 (.bool b2)
    have s1 := (s0).apart ((HV3.out).set 0 (.bool b2)) (nd_rat _ _ _ _ _ _ _) 1 (.slice A2 x2.length c2)
    have s2 := (s1).apart (((HV3.out).set 0 (.bool b2)).set 1 (.slice A2 x2.length c2)) (nd_rat _ _ _ _ _ _ _) 2 (.slice B2 y2.length d2)
    refine bodyPost_ret (v := .agg #[.bool b2, .slice A2 x2.length c2, .slice B2 y2.length d2]) (by simp [results, Tryz.results67, go_sem, v3.cell 0 rfl, v3.cell 1 rfl, v3.cell 2 rfl]) rfl ?_
    exact ⟨b2, A2, c2, x2, B2, d2, y2, rfl, by rw [HZ.out]; exact HQ1, by rw [HZ.out]; exact HQ2, by rw [HZ.out]; exact HQ3, r2, s2, (below_set (below_set (below_set HB2.out hgeW1 _) hgeW1 _) hgeW1 _)⟩
  · have hv : ((va : Int) == 0) = false := beq_eq_false_iff_ne.2 (fun h => hz (by have := (BL_zero HBLa.out).1 (by omega); have := V_nonneg RX2.out.2; omega))
    have HNX := Lib.hid hz
    clear hz
    go_wp2_with fail
    refine (rgcd_ok wa A1 B c1 d x ys RX2a.out RY2a.out hlx hsy).mono ?_
    rintro e w2 ⟨A2, c2, g, rfl, HG, hg, hB2⟩
    have HVT0abc0 := (HVT0a.out.below' hB2).cell 0 rfl
    have HVT0abc1 := (HVT0a.out.below' hB2).cell 1 rfl
    have HVT0ab := Lib.hid (HVT0a.out.below' hB2)
    have HV2b := Lib.hid (HV2a.out.below' hB2)
    have RX2b := Lib.hid (RX2a.out.below hB2)
    have RY2b := Lib.hid (RY2a.out.below hB2)
    have RG := Lib.hid hg
    have Bb := Lib.hid (Ba.out.trans (hB2.mono Ba.out.size))
    clear hB2 hg
    have HVg : Hid (V g = ((Nat.gcd (V x).toNat (V ys).toNat : Nat) : Int)) := by show _ = _; rw [HG.out, V_limbs]
    have HG0 : Hid (0 < V g) := by
      show _ < _
      rw [HVg.out]
      have h1 := V_nonneg RX2.out.2
      have h2 := HNX.out
      have h3 := Nat.gcd_pos_of_pos_left (m := (V x).toNat) (V ys).toNat (by omega)
      omega
    have hlg : g.length ≤ 35184372088800 := by
      rw [HG.out]
      refine Nat.le_trans (limbs_len (m := x.length) ?_) hlx
      have h1 := V_lt RX2.out.2
      have h2 := V_nonneg RX2.out.2
      have h4 := HNX.out
      have h3 := Nat.gcd_le_left (V ys).toNat (show 0 < (V x).toNat by omega)
      omega
    go_wp2_with fail
    refine (rdivMod_ok w2 A1 A2 c1 c2 x g RX2b.out RG.out HG0.out (by omega)).mono ?_
    rintro e w3 ⟨A3, c3, q2, R3, e3, r3, rfl, HQ2, _, hq2, _, hB3⟩
    have HVT0abcc0 := (HVT0ab.out.below' hB3).cell 0 rfl
    have HVT0abcc1 := (HVT0ab.out.below' hB3).cell 1 rfl
    have HVT0abc := Lib.hid (HVT0ab.out.below' hB3)
    have HV2c := Lib.hid (HV2b.out.below' hB3)
    have RY2c := Lib.hid (RY2b.out.below hB3)
    have RGc := Lib.hid (RG.out.below hB3)
    have RQ2 := Lib.hid hq2
    have Bc := Lib.hid (Bb.out.trans (hB3.mono Bb.out.size))
    clear hB3 hq2
    go_wp2_with fail
    refine (rdivMod_ok w3 B A2 d c2 ys g RY2c.out RGc.out HG0.out (by omega)).mono ?_
    rintro e w4 ⟨A4, c4, q3, R4, e4, r4, rfl, HQ3, _, hq3, _, hB4⟩
    have HVT0abcdc0 := (HVT0abc.out.below' hB4).cell 0 rfl
    have HVT0abcdc1 := (HVT0abc.out.below' hB4).cell 1 rfl
    have HVT0abcd := Lib.hid (HVT0abc.out.below' hB4)
    have HV2d := Lib.hid (HV2c.out.below' hB4)
    have RQ2d := Lib.hid (RQ2.out.below hB4)
    have RQ3 := Lib.hid hq3
    have Bd := Lib.hid (Bc.out.trans (hB4.mono Bc.out.size))
    clear hB4 hq3
    rw [HVg.out, Int.toNat_natCast] at HQ2 HQ3
    have hlq : q2.length ≤ 70368744177664 := by
      rw [HQ2.out]
      exact Nat.le_trans (limbs_div_len RX2.out.2 _) (by omega)
    go_wp2_with fail
    refine (rimake_ok w4 b1 A3 c3 q2 RQ2d.out hlq).mono ?_
    rintro e w5 ⟨b5, A5, c5, z5, rfl, HB5, HZ5, hz5, hB5⟩
    have nc0 := (HV2d.out.below' hB5).cell 0 rfl
    have nc1 := (HV2d.out.below' hB5).cell 1 rfl
    have nc2 := (HV2d.out.below' hB5).cell 2 rfl
    have nf0 := (HV2d.out.below' hB5).thaw 0
    have nf1 := (HV2d.out.below' hB5).thaw 1
    have nf2 := (HV2d.out.below' hB5).thaw 2
    have HV2e := Lib.hid (HV2d.out.below' hB5)
    have RZ5 := Lib.hid hz5
    have RQ5 := Lib.hid (RQ3.out.below hB5)
    have Be := Lib.hid (Bd.out.trans (hB5.mono Bd.out.size))
    clear hB5 hz5
    have hlp := low_parts (b := b1) RX2.out.2 HY.out.2 HNY.out (q1 := q2) (by rw [HQ2.out, V_limbs])
    have hqq : qv b1 x ys = qv b xs ys := by unfold qv; rw [HEB.out]
    rw [hqq] at hlp
    have HLP := Lib.hid hlp
    clear hlp hqq
    go_wp2_with fail
    have v3 : Vr (((w5.setCell ⟨gW1, 0, none⟩ (.bool b5)).setCell ⟨gW1, 1, none⟩ (.slice A5 z5.length c5)).setCell ⟨gW1, 2, none⟩ (.slice A4 q3.length c4)) gW1 28 #[.bool b5, .slice A5 z5.length c5, .slice A4 q3.length c4] := (((HV2e.out.set 0 _).set 1 _).set 2 _)
    have r0 := (RZ5.out).apart (HV2e.out) (nd_rat _ _ _ _ _ _ _) 0 (.bool b5)
    have r1 := (r0).apart ((HV2e.out).set 0 (.bool b5)) (nd_rat _ _ _ _ _ _ _) 1 (.slice A5 z5.length c5)
    have r2 := (r1).apart (((HV2e.out).set 0 (.bool b5)).set 1 (.slice A5 z5.length c5)) (nd_rat _ _ _ _ _ _ _) 2 (.slice A4 q3.length c4)
    have s0 := (RQ5.out).apart (HV2e.out) (nd_rat _ _ _ _ _ _ _) 0 (.bool b5)
    have s1 := (s0).apart ((HV2e.out).set 0 (.bool b5)) (nd_rat _ _ _ _ _ _ _) 1 (.slice A5 z5.length c5)
    have s2 := (s1).apart (((HV2e.out).set 0 (.bool b5)).set 1 (.slice A5 z5.length c5)) (nd_rat _ _ _ _ _ _ _) 2 (.slice A4 q3.length c4)
    refine bodyPost_ret (v := .agg #[.bool b5, .slice A5 z5.length c5, .slice A4 q3.length c4]) (by simp [results, Tryz.results67, go_sem, v3.cell 0 rfl, v3.cell 1 rfl, v3.cell 2 rfl]) rfl ?_
    exact ⟨b5, A5, c5, z5, A4, c4, q3, rfl, by rw [← HLP.out.1]; exact HB5, by rw [← HLP.out.1]; exact HZ5, by rw [← HLP.out.2]; exact HQ3, r2, s2, (below_set (below_set (below_set Be.out hgeW1 _) hgeW1 _) hgeW1 _)⟩

end Go.Proofs.YtocpncjmcaecoaaGreat.M
namespace Go.Proofs.YtocpncjmcaecoaaGreat.M
set_option maxRecDepth 10000
open Go.RowKit
set_option linter.unusedVariables false
set_option linter.unusedSimpArgs false
set_option maxHeartbeats 3200000 in
theorem rqmake_ok (w : World) (b1 b2 : Bool) (A B : Option Addr) (c d : Nat) (xs ys : List Int) (hx : RN w A c xs) (hy : RN w B d ys) (hsx : xs.length ≤ 35184372088800) (hsy : ys.length ≤ 35184372088800) (hp : 0 < zv b2 ys) :
    Calls Tryz.prog 92 #[.agg #[.bool b1, .slice A xs.length c], .agg #[.bool b2, .slice B ys.length d]] w (RetQB (mkRat (zv b1 xs) (zv b2 ys).toNat) true w) := by
  have HX := Lib.hid hx
  have HY := Lib.hid hy
  clear hx hy
  have HP := Lib.hid hp
  clear hp
  go_enter Tryz.func92, Tryz.ntmps92
  go_wp2_with fail
  obtain ⟨W, hW⟩ : ∃ W, W = (((w.alloc (.cells #[.bool b1, .slice A xs.length c] 26)).alloc (.cells #[.bool b2, .slice B ys.length d] 26)).alloc (.cells #[.bool false, .slice none 0 0, .slice none 0 0] 28)) := ⟨_, rfl⟩
  rw [← hW]
  have hBW : Below w.heap.size w W := by rw [hW]; exact ((((Below.refl _ _).alloc (Nat.le_refl _) _).alloc (by simp only [size_alloc]; omega) _).alloc (by simp only [size_alloc]; omega) _)
  have vW0 : Vr W (w.heap.size) 26 #[.bool b1, .slice A xs.length c] := by rw [hW]; exact (((Vr.new' _ _ _ (by simp only [size_alloc])).alloc _).alloc _)
  have vW1 : Vr W (w.heap.size + 1) 26 #[.bool b2, .slice B ys.length d] := by rw [hW]; exact ((Vr.new' _ _ _ (by simp only [size_alloc])).alloc _)
  have vW2 : Vr W (w.heap.size + 1 + 1) 28 #[.bool false, .slice none 0 0, .slice none 0 0] := by rw [hW]; exact (Vr.new' _ _ _ (by simp only [size_alloc]))
  clear hW
  obtain ⟨gW2, hgW2⟩ : ∃ g, w.heap.size + 1 + 1 = g := ⟨_, rfl⟩
  rw [hgW2] at vW2 ⊢
  obtain ⟨gW1, hgW1⟩ : ∃ g, w.heap.size + 1 = g := ⟨_, rfl⟩
  rw [hgW1] at vW1 ⊢
  have hneW01 : w.heap.size ≠ gW1 := by omega
  have hneW02 : w.heap.size ≠ gW2 := by omega
  have hgeW1 : w.heap.size ≤ gW1 := by omega
  have hneW10 : gW1 ≠ w.heap.size := by omega
  have hneW12 : gW1 ≠ gW2 := by omega
  have hgeW2 : w.heap.size ≤ gW2 := by omega
  have hneW20 : gW2 ≠ w.heap.size := by omega
  have hneW21 : gW2 ≠ gW1 := by omega
  have HVW0 := Lib.hid vW0
  have HVW1 := Lib.hid vW1
  have HVW2 := Lib.hid vW2
  have HBW := Lib.hid hBW
  clear hBW vW0 vW1 vW2 hgW1 hgW2
  have oc0 := (HVW0.out).cell 0 rfl
  have oc1 := (HVW0.out).cell 1 rfl
  have pc0 := (HVW1.out).cell 0 rfl
  have pc1 := (HVW1.out).cell 1 rfl
  go_upto_region 1 with fail
  go_wp2_with fail
  refine (rinorm_ok W b2 B d ys (HY.out.below HBW.out) (by omega)).mono ?_
  rintro e w1 ⟨b3, A3, c3, y, rfl, HB3, HY3, hy3, hB1⟩
  have HV0a := Lib.hid (HVW0.out.below' hB1)
  have HV2a := Lib.hid (HVW2.out.below' hB1)
  have HBa := Lib.hid (HBW.out.trans (hB1.mono HBW.out.size))
  have RY1 := Lib.hid hy3
  have HVY : Hid (V y = zv b2 ys) := by show _ = _; rw [HY3.out, V_limbs]; have := HP.out; omega
  obtain rfl : b3 = false := by rw [HB3.out]; exact decide_eq_false (by have := HP.out; omega)
  have hly : y.length ≤ 35184372088800 := by
    rw [HY3.out, zv_abs b2 HY.out.2]
    have h := limbs_div_len HY.out.2 1
    rw [Nat.div_one] at h
    omega
  clear hB1 hy3 oc0 oc1 pc0 pc1
  go_upto_region 2 with fail
  obtain ⟨T, hT⟩ : ∃ T, T = (w1.alloc (.cells #[.bool false, .slice A3 y.length c3] 26)) := ⟨_, rfl⟩
  rw [← hT]
  have hBT : Below w1.heap.size w1 T := by rw [hT]; exact ((Below.refl _ _).alloc (Nat.le_refl _) _)
  have vT0 : Vr T (w1.heap.size) 26 #[.bool false, .slice A3 y.length c3] := by rw [hT]; exact (Vr.new' _ _ _ (by simp only [size_alloc]))
  clear hT
  have HVT0 := Lib.hid vT0
  have HBT := Lib.hid hBT
  clear hBT vT0
  have HV0b := Lib.hid (HV0a.out.below' HBT.out)
  have HV2b := Lib.hid (HV2a.out.below' HBT.out)
  have HBt := Lib.hid (HBa.out.trans (HBT.out.mono HBa.out.size))
  have RYb := Lib.hid (RY1.out.below HBT.out)
  have tc0 := (HVT0.out).cell 0 rfl
  have tc1 := (HVT0.out).cell 1 rfl
  go_wp2_with fail
  refine (rbits_ok T A3 c3 y RYb.out (by omega)).mono ?_
  rintro e wa ⟨va, rfl, HBLa, _, hB⟩
  have HVT0ac0 := (HVT0.out.below' hB).cell 0 rfl
  have HVT0ac1 := (HVT0.out.below' hB).cell 1 rfl
  have HVT0a := Lib.hid (HVT0.out.below' hB)
  have HV0bac0 := (HV0b.out.below' hB).cell 0 rfl
  have HV0bac1 := (HV0b.out.below' hB).cell 1 rfl
  have HV2ba := Lib.hid (HV2b.out.below' hB)
  have HV0ba := Lib.hid (HV0b.out.below' hB)
  have RYba := Lib.hid (RYb.out.below hB)
  have Ba := Lib.hid (HBt.out.trans (hB.mono HBt.out.size))
  clear hB
  have HV2c := HV2ba
  have hv : ((va : Int) == 0) = false := beq_eq_false_iff_ne.2 (fun h => by have := (BL_zero HBLa.out).1 (by omega); have := HVY.out; have := HP.out; omega)
  go_upto_region 4 with fail
  go_wp2_with fail
  refine (rinorm_ok wa b1 A c xs (HX.out.below Ba.out) (by omega)).mono ?_
  rintro e w2 ⟨b4, A4, c4, x, rfl, HB4, HX4, hx4, hB2⟩
  have HT2 := Lib.hid (HVT0a.out.below' hB2)
  have HV2d := Lib.hid (HV2c.out.below' hB2)
  have HBb := Lib.hid (Ba.out.trans (hB2.mono Ba.out.size))
  have RYc := Lib.hid (RYba.out.below hB2)
  have RX2 := Lib.hid hx4
  have HVX : Hid (zv b4 x = zv b1 xs) := by show _ = _; rw [HB4.out, HX4.out]; exact zv_norm _
  have hlx : x.length ≤ 35184372088800 := by
    rw [HX4.out, zv_abs b1 HX.out.2]
    have h := limbs_div_len HX.out.2 1
    rw [Nat.div_one] at h
    omega
  clear hB2 hx4
  go_upto_region 5 with fail
  obtain ⟨Z, hZ⟩ : ∃ Z, Z = (w2.alloc (.cells #[.bool b4, .slice A4 x.length c4] 26)) := ⟨_, rfl⟩
  rw [← hZ]
  have hBZ : Below w2.heap.size w2 Z := by rw [hZ]; exact ((Below.refl _ _).alloc (Nat.le_refl _) _)
  have vZ0 : Vr Z (w2.heap.size) 26 #[.bool b4, .slice A4 x.length c4] := by rw [hZ]; exact (Vr.new' _ _ _ (by simp only [size_alloc]))
  clear hZ
  have HVZ0 := Lib.hid vZ0
  have HBZ := Lib.hid hBZ
  clear hBZ vZ0
  have HT3 := Lib.hid (HT2.out.below' HBZ.out)
  have HV2e := Lib.hid (HV2d.out.below' HBZ.out)
  have HBc := Lib.hid (HBb.out.trans (HBZ.out.mono HBb.out.size))
  have RYd := Lib.hid (RYc.out.below HBZ.out)
  have RXd := Lib.hid (RX2.out.below HBZ.out)
  have mc0 := (HT3.out).cell 0 rfl
  have mc1 := (HT3.out).cell 1 rfl
  have nc0 := (HVZ0.out).cell 0 rfl
  have nc1 := (HVZ0.out).cell 1 rfl
  go_wp2_with fail
  refine (reduce_ok Z b4 A4 A3 c4 c3 x y RXd.out RYd.out hlx hly (by have := HVY.out; have := HP.out; omega)).mono ?_
  have hq : qv b4 x y = mkRat (zv b1 xs) (zv b2 ys).toNat := by unfold qv; rw [HVX.out, HVY.out]
  rw [hq]
  clear hq
  rintro e w3 ⟨b5, A5, c5, x5, B5, d5, y5, rfl, HQ1, HQ2, HQ3, hr1, hr2, hB3⟩
  have kc0 := (HV2e.out.below' hB3).cell 0 rfl
  have kc1 := (HV2e.out.below' hB3).cell 1 rfl
  have kc2 := (HV2e.out.below' hB3).cell 2 rfl
  have kf0 := (HV2e.out.below' hB3).thaw 0
  have kf1 := (HV2e.out.below' hB3).thaw 1
  have kf2 := (HV2e.out.below' hB3).thaw 2
  have HV3 := Lib.hid (HV2e.out.below' hB3)
  have HB3' := Lib.hid (HBc.out.trans (hB3.mono HBc.out.size))
  have HR1 := Lib.hid hr1
  have HR2 := Lib.hid hr2
  clear hB3 hr1 hr2
  go_wp2_with fail
  have v3 : Vr (((w3.setCell ⟨gW2, 0, none⟩ (.bool b5)).setCell ⟨gW2, 1, none⟩ (.slice A5 x5.length c5)).setCell ⟨gW2, 2, none⟩ (.slice B5 y5.length d5)) gW2 28 #[.bool b5, .slice A5 x5.length c5, .slice B5 y5.length d5] := (((HV3.out.set 0 _).set 1 _).set 2 _)
  have r0 := (HR1.out).apart (HV3.out) (nd_rat _ _ _ _ _ _ _) 0 (.bool b5)
  have r1 := (r0).apart ((HV3.out).set 0 (.bool b5)) (nd_rat _ _ _ _ _ _ _) 1 (.slice A5 x5.length c5)
  have r2 := (r1).apart (((HV3.out).set 0 (.bool b5)).set 1 (.slice A5 x5.length c5)) (nd_rat _ _ _ _ _ _ _) 2 (.slice B5 y5.length d5)
  have s0 := (HR2.out).apart (HV3.out) (nd_rat _ _ _ _ _ _ _) 0 (.bool b5)
  have s1 := (s0).apart ((HV3.out).set 0 (.bool b5)) (nd_rat _ _ _ _ _ _ _) 1 (.slice A5 x5.length c5)
  have s2 := (s1).apart (((HV3.out).set 0 (.bool b5)).set 1 (.slice A5 x5.length c5)) (nd_rat _ _ _ _ _ _ _) 2 (.slice B5 y5.length d5)
  refine bodyPost_ret (v := .tuple #[.agg #[.bool b5, .slice A5 x5.length c5, .slice B5 y5.length d5], .bool true]) (by simp [results, Tryz.results92, go_sem, v3.cell 0 rfl, v3.cell 1 rfl, v3.cell 2 rfl]) rfl ?_
  exact ⟨b5, A5, c5, x5, B5, d5, y5, rfl, HQ1, HQ2, HQ3, r2, s2, (below_set (below_set (below_set HB3'.out hgeW2 _) hgeW2 _) hgeW2 _)⟩
set_option maxHeartbeats 1600000 in
theorem rqof_ok (w : World) (n m : Int) (hn0 : -9223372036854775808 ≤ n) (hn1 : n ≤ 9223372036854775807) (hm0 : 0 < m) (hm1 : m ≤ 9223372036854775807) :
    Calls Tryz.prog 62 #[.int .i64 n, .int .i64 m] w (RetQB (mkRat n m.toNat) true w) := by
  go_enter Tryz.func62, Tryz.ntmps62
  go_wp2_with fail
  obtain ⟨W, hW⟩ : ∃ W, W = (w.alloc (.cells #[.bool false, .slice none 0 0, .slice none 0 0] 28)) := ⟨_, rfl⟩
  rw [← hW]
  have hBW : Below w.heap.size w W := by rw [hW]; exact ((Below.refl _ _).alloc (Nat.le_refl _) _)
  have vW0 : Vr W (w.heap.size) 28 #[.bool false, .slice none 0 0, .slice none 0 0] := by rw [hW]; exact (Vr.new' _ _ _ (by simp only [size_alloc]))
  clear hW
  have HVW0 := Lib.hid vW0
  have HBW := Lib.hid hBW
  clear hBW vW0
  refine (riof_ok W n hn0 hn1).mono ?_
  rintro e w1 ⟨b1, A1, c1, x, rfl, HB1, HX1, hx1, hB1⟩
  have HV1 := Lib.hid (HVW0.out.below' hB1)
  have HBd := Lib.hid (HBW.out.trans (hB1.mono HBW.out.size))
  have RX := Lib.hid hx1
  clear hB1 hx1
  go_wp2_with fail
  refine (riof_ok w1 m (by omega) hm1).mono ?_
  rintro e w2 ⟨b2, A2, c2, y, rfl, HB2, HY2, hy2, hB2⟩
  have HV2 := Lib.hid (HV1.out.below' hB2)
  have HBe := Lib.hid (HBd.out.trans (hB2.mono HBd.out.size))
  have RX2 := Lib.hid (RX.out.below hB2)
  have RY2 := Lib.hid hy2
  have HZM : Hid (zv b2 y = m) := by show _ = _; rw [HB2.out, HY2.out]; exact zv_norm _
  have HZN : Hid (zv b1 x = n) := by show _ = _; rw [HB1.out, HX1.out]; exact zv_norm _
  clear hB2 hy2
  go_wp2_with fail
  refine (rqmake_ok w2 b1 b2 A1 A2 c1 c2 x y RX2.out RY2.out (by rw [HX1.out]; exact Nat.le_trans (limbs_len (m := 2) (by rw [pw_succ, pw_succ, pw_zero]; omega)) (by omega)) (by rw [HY2.out]; exact Nat.le_trans (limbs_len (m := 2) (by rw [pw_succ, pw_succ, pw_zero]; omega)) (by omega)) (by rw [HZM.out]; exact hm0)).mono ?_
  rw [HZM.out, HZN.out]
  rintro e w3 ⟨b3, A3, c3, x3, B3, d3, y3, rfl, HQ1, HQ2, HQ3, hr1, hr2, hB3⟩
  have kc0 := (HV2.out.below' hB3).cell 0 rfl
  have kc1 := (HV2.out.below' hB3).cell 1 rfl
  have kc2 := (HV2.out.below' hB3).cell 2 rfl
  have kf0 := (HV2.out.below' hB3).thaw 0
  have kf1 := (HV2.out.below' hB3).thaw 1
  have kf2 := (HV2.out.below' hB3).thaw 2
  have HV3 := Lib.hid (HV2.out.below' hB3)
  have HB3 := Lib.hid (HBe.out.trans (hB3.mono HBe.out.size))
  have HR1 := Lib.hid hr1
  have HR2 := Lib.hid hr2
  clear hB3 hr1 hr2
  go_wp2_with fail
  have v3 : Vr (((w3.setCell ⟨w.heap.size, 0, none⟩ (.bool b3)).setCell ⟨w.heap.size, 1, none⟩ (.slice A3 x3.length c3)).setCell ⟨w.heap.size, 2, none⟩ (.slice B3 y3.length d3)) w.heap.size 28 #[.bool b3, .slice A3 x3.length c3, .slice B3 y3.length d3] := (((HV3.out.set 0 _).set 1 _).set 2 _)
  have r0 := (HR1.out).apart (HV3.out) (nd_rat _ _ _ _ _ _ _) 0 (.bool b3)
  have r1 := (r0).apart ((HV3.out).set 0 (.bool b3)) (nd_rat _ _ _ _ _ _ _) 1 (.slice A3 x3.length c3)
  have r2 := (r1).apart (((HV3.out).set 0 (.bool b3)).set 1 (.slice A3 x3.length c3)) (nd_rat _ _ _ _ _ _ _) 2 (.slice B3 y3.length d3)
  have s0 := (HR2.out).apart (HV3.out) (nd_rat _ _ _ _ _ _ _) 0 (.bool b3)
  have s1 := (s0).apart ((HV3.out).set 0 (.bool b3)) (nd_rat _ _ _ _ _ _ _) 1 (.slice A3 x3.length c3)
  have s2 := (s1).apart (((HV3.out).set 0 (.bool b3)).set 1 (.slice A3 x3.length c3)) (nd_rat _ _ _ _ _ _ _) 2 (.slice B3 y3.length d3)
  refine bodyPost_ret (v := .tuple #[.agg #[.bool b3, .slice A3 x3.length c3, .slice B3 y3.length d3], .bool true]) (by simp [results, Tryz.results62, go_sem, v3.cell 0 rfl, v3.cell 1 rfl, v3.cell 2 rfl]) rfl ?_
  exact ⟨b3, A3, c3, x3, B3, d3, y3, rfl, HQ1, HQ2, HQ3, r2, s2, (below_set (below_set (below_set HB3.out (Nat.le_refl _) _) (Nat.le_refl _) _) (Nat.le_refl _) _)⟩
theorem qn_len {b : Bool} {xs ys : List Int} (h : Lim xs) : (limbs (qn b xs ys).natAbs).length ≤ xs.length := by
  unfold qn
  split
  · exact Nat.zero_le _
  · rw [zv_abs b h]
    have h1 := limbs_div_len h 1
    rwa [Nat.div_one] at h1
theorem qd_len {ys : List Int} (h : Lim ys) : (limbs (qd ys).toNat).length ≤ ys.length + 1 := by
  unfold qd
  split
  · exact Nat.le_trans (limbs_len (m := 1) (by decide)) (by omega)
  · have h1 := limbs_div_len h 1
    rw [Nat.div_one] at h1
    omega
theorem below_on {w W1 w2 : World} {B : Nat} (h : Below B w W1) (hB : Below W1.heap.size W1 w2) (hs : B ≤ w.heap.size := by exact Nat.le_refl _) : Below B w w2 := h.trans (hB.mono (Nat.le_trans hs h.size))

set_option maxHeartbeats 6400000 in
theorem rqcmp_ok (w : World) (p q : Bool) (P P2 Q Q2 : Option Addr) (cp cp2 cq cq2 : Nat) (xs ys us vs : List Int) (hx : RN w P cp xs) (hy : RN w P2 cp2 ys) (hu : RN w Q cq us) (hw : RN w Q2 cq2 vs) (hsxs : xs.length ≤ 35184372088800) (hsys : ys.length ≤ 35184372088800) (hsus : us.length ≤ 35184372088800) (hsvs : vs.length ≤ 35184372088800) :
    Calls Tryz.prog 36 #[.agg #[.bool p, .slice P xs.length cp, .slice P2 ys.length cp2], .agg #[.bool q, .slice Q us.length cq, .slice Q2 vs.length cq2]] w (fun e w' => e = .returned (.int .i64 (cmpQ (qv p xs ys) (qv q us vs))) ∧ Below w.heap.size w w') := by
  have HX := Lib.hid hx
  have HY := Lib.hid hy
  have HU := Lib.hid hu
  have HW := Lib.hid hw
  clear hx hy hu hw
  go_enter Tryz.func36, Tryz.ntmps36
  go_wp2_with fail
  obtain ⟨W, hW⟩ : ∃ W, W = ((w.alloc (.cells #[.bool p, .slice P xs.length cp, .slice P2 ys.length cp2] 28)).alloc (.cells #[.bool q, .slice Q us.length cq, .slice Q2 vs.length cq2] 28)) := ⟨_, rfl⟩
  rw [← hW]
  have hBW : Below w.heap.size w W := by rw [hW]; exact (((Below.refl _ _).alloc (Nat.le_refl _) _).alloc (by simp only [size_alloc]; omega) _)
  have vW0 : Vr W (w.heap.size) 28 #[.bool p, .slice P xs.length cp, .slice P2 ys.length cp2] := by rw [hW]; exact ((Vr.new' _ _ _ (by simp only [size_alloc])).alloc _)
  have vW1 : Vr W (w.heap.size + 1) 28 #[.bool q, .slice Q us.length cq, .slice Q2 vs.length cq2] := by rw [hW]; exact (Vr.new' _ _ _ (by simp only [size_alloc]))
  clear hW
  obtain ⟨gW1, hgW1⟩ : ∃ g, w.heap.size + 1 = g := ⟨_, rfl⟩
  rw [hgW1] at vW1 ⊢
  have hneW01 : w.heap.size ≠ gW1 := by omega
  have hgeW1 : w.heap.size ≤ gW1 := by omega
  have hneW10 : gW1 ≠ w.heap.size := by omega
  have HVW0 := Lib.hid vW0
  have HVW1 := Lib.hid vW1
  have HBW := Lib.hid hBW
  clear hBW vW0 vW1 hgW1
  have V0_W := HVW0
  have V1_W := HVW1
  have B_W := HBW
  go_upto_region 1 with fail
  go_cut [5] (fun sv wc => ∃ (g : Nat) (bz : Bool) (G : Option Addr) (cz : Nat) (z : List Int), sv = .pointer (some ⟨g, 0, none⟩) ∧ Hid (Vr wc g 26 #[.bool bz, .slice G z.length cz]) ∧ Hid (zv bz z = qn p xs ys * qd vs) ∧ Hid (z.length ≤ xs.length + vs.length + 1) ∧ Hid (RN wc G cz z) ∧ Hid (Below W.heap.size W wc))
  case first =>
    have o1c0 := (V0_W.out).cell 0 rfl
    have o1c1 := (V0_W.out).cell 1 rfl
    have o1c2 := (V0_W.out).cell 2 rfl
    have q1c0 := (V1_W.out).cell 0 rfl
    have q1c1 := (V1_W.out).cell 1 rfl
    have q1c2 := (V1_W.out).cell 2 rfl
    have V0_Wd := Lib.hid V0_W.out.drew
    have V1_Wd := Lib.hid V1_W.out.drew
    have B_Wd := Lib.hid B_W.out.drew
    have C_Wd : Hid (Below W.heap.size W W.drew) := (Below.refl _ _).drew
    have neV0_Wd : W.heap.size ≠ w.heap.size := Nat.ne_of_gt V0_W.out.lt
    have neV1_Wd : W.heap.size ≠ gW1 := Nat.ne_of_gt V1_W.out.lt
    go_region_held3 (fun w' => w'.cell? ⟨w.heap.size, 0, none⟩ = some (.bool p) ∧ w'.cell? ⟨w.heap.size, 1, none⟩ = some (.slice P xs.length cp) ∧ w'.cell? ⟨w.heap.size, 2, none⟩ = some (.slice P2 ys.length cp2) ∧ w'.cell? ⟨gW1, 0, none⟩ = some (.bool q) ∧ w'.cell? ⟨gW1, 1, none⟩ = some (.slice Q us.length cq) ∧ w'.cell? ⟨gW1, 2, none⟩ = some (.slice Q2 vs.length cq2)) (go_keep)
      (first
        | (go_at_call_of 64 P
           refine (top_ok _ p P P2 cp cp2 xs ys (HX.out.below (by first | exact B_Wd.out | exact B_Wd.out.alloc B_Wd.out.size _)) (HY.out.below (by first | exact B_Wd.out | exact B_Wd.out.alloc B_Wd.out.size _)) hsxs hsys).mono ?_
           rintro e a1 ⟨b1, A1, c1, z1, rfl, HB1, HZ1, hz1, hB⟩
           have V0_a1 := Lib.hid (Vr.below' (by first | exact V0_Wd.out | exact V0_Wd.out.alloc _) hB)
           have V0_a1c0 := (V0_a1.out).cell 0 rfl
           have V0_a1c1 := (V0_a1.out).cell 1 rfl
           have V0_a1c2 := (V0_a1.out).cell 2 rfl
           have V1_a1 := Lib.hid (Vr.below' (by first | exact V1_Wd.out | exact V1_Wd.out.alloc _) hB)
           have V1_a1c0 := (V1_a1.out).cell 0 rfl
           have V1_a1c1 := (V1_a1.out).cell 1 rfl
           have V1_a1c2 := (V1_a1.out).cell 2 rfl
           try have VN_a1 : Hid (Vr a1 W.heap.size 26 #[.bool false, .slice none 0 0]) := Vr.below' (Vr.new W.drew _ _) hB
           have B_a1 := Lib.hid (below_on (by first | exact B_Wd.out | exact B_Wd.out.alloc B_Wd.out.size _) hB)
           have neV0_a1 : a1.heap.size ≠ w.heap.size := Nat.ne_of_gt V0_a1.out.lt
           have neV1_a1 : a1.heap.size ≠ gW1 := Nat.ne_of_gt V1_a1.out.lt
           have Z_a1 := Lib.hid hz1
           have C_a1 := Lib.hid (below_on (by first | exact C_Wd.out | exact C_Wd.out.alloc C_Wd.out.size _) hB)
           clear hz1
           clear hB)
        | (go_at_call_of 66 Q
           refine (low_ok _ q Q Q2 cq cq2 us vs (HU.out.below (by first | exact B_a1.out | exact B_a1.out.alloc B_a1.out.size _)) (HW.out.below (by first | exact B_a1.out | exact B_a1.out.alloc B_a1.out.size _)) hsus hsvs).mono ?_
           rintro e e1 ⟨D1, d1, y1, rfl, HY1, hy1, hB⟩
           have V0_e1 := Lib.hid (Vr.below' (by first | exact V0_a1.out | exact V0_a1.out.alloc _) hB)
           have V0_e1c0 := (V0_e1.out).cell 0 rfl
           have V0_e1c1 := (V0_e1.out).cell 1 rfl
           have V0_e1c2 := (V0_e1.out).cell 2 rfl
           have V1_e1 := Lib.hid (Vr.below' (by first | exact V1_a1.out | exact V1_a1.out.alloc _) hB)
           have V1_e1c0 := (V1_e1.out).cell 0 rfl
           have V1_e1c1 := (V1_e1.out).cell 1 rfl
           have V1_e1c2 := (V1_e1.out).cell 2 rfl
           have Z_e1 := Lib.hid (RN.below (by first | exact Z_a1.out | exact Z_a1.out.below ((Below.refl _ _).alloc (Nat.le_refl _) _)) hB)
           try have VN_e1 := Lib.hid (Vr.below' VN_a1.out hB)
           try have VN_e1 := Lib.hid (Vr.below' (Vr.new _ _ _) hB)
           have B_e1 := Lib.hid (below_on (by first | exact B_a1.out | exact B_a1.out.alloc B_a1.out.size _) hB)
           have neV0_e1 : e1.heap.size ≠ w.heap.size := Nat.ne_of_gt V0_e1.out.lt
           have neV1_e1 : e1.heap.size ≠ gW1 := Nat.ne_of_gt V1_e1.out.lt
           have Y_e1 := Lib.hid hy1
           have C_e1 := Lib.hid (below_on (by first | exact C_a1.out | exact C_a1.out.alloc C_a1.out.size _) hB)
           clear hy1
           clear hB)
        | (go_at_call 65
           refine (rimake_ok _ false D1 d1 y1 (by first | exact Y_e1.out | exact Y_e1.out.below ((Below.refl _ _).alloc (Nat.le_refl _) _)) (by rw [HY1.out]; exact Nat.le_trans (qd_len HW.out.2) (by omega))).mono ?_
           rintro e f1 ⟨bb1, E1, ee1, m1, rfl, HBM1, HM1, hm1, hB⟩
           have V0_f1 := Lib.hid (Vr.below' (by first | exact V0_e1.out | exact V0_e1.out.alloc _) hB)
           have V0_f1c0 := (V0_f1.out).cell 0 rfl
           have V0_f1c1 := (V0_f1.out).cell 1 rfl
           have V0_f1c2 := (V0_f1.out).cell 2 rfl
           have V1_f1 := Lib.hid (Vr.below' (by first | exact V1_e1.out | exact V1_e1.out.alloc _) hB)
           have V1_f1c0 := (V1_f1.out).cell 0 rfl
           have V1_f1c1 := (V1_f1.out).cell 1 rfl
           have V1_f1c2 := (V1_f1.out).cell 2 rfl
           have Z_f1 := Lib.hid (RN.below (by first | exact Z_e1.out | exact Z_e1.out.below ((Below.refl _ _).alloc (Nat.le_refl _) _)) hB)
           try have VN_f1 := Lib.hid (Vr.below' VN_e1.out hB)
           try have VN_f1 := Lib.hid (Vr.below' (Vr.new _ _ _) hB)
           have B_f1 := Lib.hid (below_on (by first | exact B_e1.out | exact B_e1.out.alloc B_e1.out.size _) hB)
           have neV0_f1 : f1.heap.size ≠ w.heap.size := Nat.ne_of_gt V0_f1.out.lt
           have neV1_f1 : f1.heap.size ≠ gW1 := Nat.ne_of_gt V1_f1.out.lt
           have M_f1 := Lib.hid hm1
           have C_f1 := Lib.hid (below_on (by first | exact C_e1.out | exact C_e1.out.alloc C_e1.out.size _) hB)
           clear hm1
           clear hB)
        | (go_at_call 63
           refine (rimul_ok _ b1 bb1 A1 E1 c1 ee1 z1 m1 (by first | exact Z_f1.out | exact Z_f1.out.below ((Below.refl _ _).alloc (Nat.le_refl _) _)) (by first | exact M_f1.out | exact M_f1.out.below ((Below.refl _ _).alloc (Nat.le_refl _) _)) (by rw [HZ1.out, HM1.out]; have h1 := qn_len (b := p) (ys := ys) HX.out.2; have h2 := qd_len HW.out.2; rw [zv_f, HY1.out, V_limbs, Int.natAbs_natCast]; omega)).mono ?_
           rintro e h1 ⟨bp1, G1, g1, p1, rfl, HBP1, HP1, hp1, hB⟩
           have V0_h1 := Lib.hid (Vr.below' (by first | exact V0_f1.out | exact V0_f1.out.alloc _) hB)
           have V0_h1c0 := (V0_h1.out).cell 0 rfl
           have V0_h1c1 := (V0_h1.out).cell 1 rfl
           have V0_h1c2 := (V0_h1.out).cell 2 rfl
           have V1_h1 := Lib.hid (Vr.below' (by first | exact V1_f1.out | exact V1_f1.out.alloc _) hB)
           have V1_h1c0 := (V1_h1.out).cell 0 rfl
           have V1_h1c1 := (V1_h1.out).cell 1 rfl
           have V1_h1c2 := (V1_h1.out).cell 2 rfl
           try have VN_h1 := Lib.hid (Vr.below' VN_f1.out hB)
           try have VN_h1 := Lib.hid (Vr.below' (Vr.new _ _ _) hB)
           have B_h1 := Lib.hid (below_on (by first | exact B_f1.out | exact B_f1.out.alloc B_f1.out.size _) hB)
           have neV0_h1 : h1.heap.size ≠ w.heap.size := Nat.ne_of_gt V0_h1.out.lt
           have neV1_h1 : h1.heap.size ≠ gW1 := Nat.ne_of_gt V1_h1.out.lt
           have P_h1 := Lib.hid hp1
           have C_h1 := Lib.hid (below_on (by first | exact C_f1.out | exact C_f1.out.alloc C_f1.out.size _) hB)
           try have vn0 := VN_h1.out.cell 0 rfl
           try have vn1 := VN_h1.out.cell 1 rfl
           try have vf0 := VN_h1.out.thaw 0
           try have vf1 := VN_h1.out.thaw 1
           clear hp1
           clear hB))
    all_goals
      (have ez : zv b1 z1 * zv bb1 m1 = qn p xs ys * qd vs := by
         have h := qd_pos HW.out.2
         rw [HB1.out, HZ1.out, zv_norm, HBM1.out, HM1.out, zv_norm, zv_f, HY1.out, V_limbs, Int.toNat_of_nonneg (by omega)]
       have hpz : zv bp1 p1 = qn p xs ys * qd vs := by
         rw [HBP1.out, HP1.out, zv_norm]
         exact ez
       have hpl : p1.length ≤ xs.length + vs.length + 1 := by
         have h1 := zmul_len (b := b1) (b' := bb1) Z_f1.out.2 M_f1.out.2
         have h2 := qn_len (b := p) (ys := ys) HX.out.2
         have h3 := qd_len HW.out.2
         rw [← HP1.out] at h1
         have h4 : z1.length ≤ xs.length := by rw [HZ1.out]; exact h2
         have h5 : m1.length ≤ vs.length + 1 := by
           rw [HM1.out, zv_f, HY1.out, V_limbs, Int.natAbs_natCast]
           exact h3
         omega
       have HPZ := Lib.hid hpz
       have HPL := Lib.hid hpl
       clear ez hpz hpl
       go_wp2_with fail
       go_meet
       first
         | exact ⟨_, bp1, G1, g1, p1, rfl, Vr.new _ _ _, HPZ, HPL, P_h1.out.below ((Below.refl _ _).alloc (Nat.le_refl _) _), C_h1.out.alloc C_h1.out.size _⟩
         | exact ⟨_, bp1, G1, g1, p1, rfl, (VN_h1.out.set 0 _).set 1 _, HPZ, HPL, (P_h1.out.apart VN_h1.out (nd_int _ _ _ _) 0 _).apart (VN_h1.out.set 0 _) (nd_int _ _ _ _) 1 _, below_set (below_set C_h1.out (by first | exact Nat.le_refl _ | exact C_a1.out.size | exact C_e1.out.size | exact C_f1.out.size | exact C_h1.out.size) _) (by first | exact Nat.le_refl _ | exact C_a1.out.size | exact C_e1.out.size | exact C_f1.out.size | exact C_h1.out.size) _⟩)
  case rest =>
    obtain ⟨gc1, bz1, GZ1, cz1, z1, rfl, VZ1, EZ1, LZ1, PZ1, CZ1⟩ := hcut
    obtain ⟨T, rfl⟩ : ∃ T, T = wc := ⟨_, rfl⟩
    have V0_T := Lib.hid (V0_W.out.below' CZ1.out)
    have V1_T := Lib.hid (V1_W.out.below' CZ1.out)
    have B_T := Lib.hid (B_W.out.trans (CZ1.out.mono B_W.out.size))
    go_upto_region 2 with fail
    go_cut [6] (fun sv wc => ∃ (g : Nat) (bz : Bool) (G : Option Addr) (cz : Nat) (z : List Int), sv = .pointer (some ⟨g, 0, none⟩) ∧ Hid (Vr wc g 26 #[.bool bz, .slice G z.length cz]) ∧ Hid (zv bz z = qn q us vs * qd ys) ∧ Hid (z.length ≤ us.length + ys.length + 1) ∧ Hid (RN wc G cz z) ∧ Hid (Below T.heap.size T wc))
    case first =>
      have o2c0 := (V0_T.out).cell 0 rfl
      have o2c1 := (V0_T.out).cell 1 rfl
      have o2c2 := (V0_T.out).cell 2 rfl
      have q2c0 := (V1_T.out).cell 0 rfl
      have q2c1 := (V1_T.out).cell 1 rfl
      have q2c2 := (V1_T.out).cell 2 rfl
      have V0_Td := Lib.hid V0_T.out.drew
      have V1_Td := Lib.hid V1_T.out.drew
      have B_Td := Lib.hid B_T.out.drew
      have C_Td : Hid (Below T.heap.size T T.drew) := (Below.refl _ _).drew
      have neV0_Td : T.heap.size ≠ w.heap.size := Nat.ne_of_gt V0_T.out.lt
      have neV1_Td : T.heap.size ≠ gW1 := Nat.ne_of_gt V1_T.out.lt
      go_region_held3 (fun w' => w'.cell? ⟨w.heap.size, 0, none⟩ = some (.bool p) ∧ w'.cell? ⟨w.heap.size, 1, none⟩ = some (.slice P xs.length cp) ∧ w'.cell? ⟨w.heap.size, 2, none⟩ = some (.slice P2 ys.length cp2) ∧ w'.cell? ⟨gW1, 0, none⟩ = some (.bool q) ∧ w'.cell? ⟨gW1, 1, none⟩ = some (.slice Q us.length cq) ∧ w'.cell? ⟨gW1, 2, none⟩ = some (.slice Q2 vs.length cq2)) (go_keep)
        (first
          | (go_at_call_of 64 Q
             refine (top_ok _ q Q Q2 cq cq2 us vs (HU.out.below (by first | exact B_Td.out | exact B_Td.out.alloc B_Td.out.size _)) (HW.out.below (by first | exact B_Td.out | exact B_Td.out.alloc B_Td.out.size _)) hsus hsvs).mono ?_
             rintro e a2 ⟨b2, A2, c2, z2, rfl, HB2, HZ2, hz2, hB⟩
             have V0_a2 := Lib.hid (Vr.below' (by first | exact V0_Td.out | exact V0_Td.out.alloc _) hB)
             have V0_a2c0 := (V0_a2.out).cell 0 rfl
             have V0_a2c1 := (V0_a2.out).cell 1 rfl
             have V0_a2c2 := (V0_a2.out).cell 2 rfl
             have V1_a2 := Lib.hid (Vr.below' (by first | exact V1_Td.out | exact V1_Td.out.alloc _) hB)
             have V1_a2c0 := (V1_a2.out).cell 0 rfl
             have V1_a2c1 := (V1_a2.out).cell 1 rfl
             have V1_a2c2 := (V1_a2.out).cell 2 rfl
             try have VN_a2 : Hid (Vr a2 T.heap.size 26 #[.bool false, .slice none 0 0]) := Vr.below' (Vr.new T.drew _ _) hB
             have B_a2 := Lib.hid (below_on (by first | exact B_Td.out | exact B_Td.out.alloc B_Td.out.size _) hB)
             have neV0_a2 : a2.heap.size ≠ w.heap.size := Nat.ne_of_gt V0_a2.out.lt
             have neV1_a2 : a2.heap.size ≠ gW1 := Nat.ne_of_gt V1_a2.out.lt
             have Z_a2 := Lib.hid hz2
             have C_a2 := Lib.hid (below_on (by first | exact C_Td.out | exact C_Td.out.alloc C_Td.out.size _) hB)
             clear hz2
             clear hB)
          | (go_at_call_of 66 P
             refine (low_ok _ p P P2 cp cp2 xs ys (HX.out.below (by first | exact B_a2.out | exact B_a2.out.alloc B_a2.out.size _)) (HY.out.below (by first | exact B_a2.out | exact B_a2.out.alloc B_a2.out.size _)) hsxs hsys).mono ?_
             rintro e e2 ⟨D2, d2, y2, rfl, HY2, hy2, hB⟩
             have V0_e2 := Lib.hid (Vr.below' (by first | exact V0_a2.out | exact V0_a2.out.alloc _) hB)
             have V0_e2c0 := (V0_e2.out).cell 0 rfl
             have V0_e2c1 := (V0_e2.out).cell 1 rfl
             have V0_e2c2 := (V0_e2.out).cell 2 rfl
             have V1_e2 := Lib.hid (Vr.below' (by first | exact V1_a2.out | exact V1_a2.out.alloc _) hB)
             have V1_e2c0 := (V1_e2.out).cell 0 rfl
             have V1_e2c1 := (V1_e2.out).cell 1 rfl
             have V1_e2c2 := (V1_e2.out).cell 2 rfl
             have Z_e2 := Lib.hid (RN.below (by first | exact Z_a2.out | exact Z_a2.out.below ((Below.refl _ _).alloc (Nat.le_refl _) _)) hB)
             try have VN_e2 := Lib.hid (Vr.below' VN_a2.out hB)
             try have VN_e2 := Lib.hid (Vr.below' (Vr.new _ _ _) hB)
             have B_e2 := Lib.hid (below_on (by first | exact B_a2.out | exact B_a2.out.alloc B_a2.out.size _) hB)
             have neV0_e2 : e2.heap.size ≠ w.heap.size := Nat.ne_of_gt V0_e2.out.lt
             have neV1_e2 : e2.heap.size ≠ gW1 := Nat.ne_of_gt V1_e2.out.lt
             have Y_e2 := Lib.hid hy2
             have C_e2 := Lib.hid (below_on (by first | exact C_a2.out | exact C_a2.out.alloc C_a2.out.size _) hB)
             clear hy2
             clear hB)
          | (go_at_call 65
             refine (rimake_ok _ false D2 d2 y2 (by first | exact Y_e2.out | exact Y_e2.out.below ((Below.refl _ _).alloc (Nat.le_refl _) _)) (by rw [HY2.out]; exact Nat.le_trans (qd_len HY.out.2) (by omega))).mono ?_
             rintro e f2 ⟨bb2, E2, ee2, m2, rfl, HBM2, HM2, hm2, hB⟩
             have V0_f2 := Lib.hid (Vr.below' (by first | exact V0_e2.out | exact V0_e2.out.alloc _) hB)
             have V0_f2c0 := (V0_f2.out).cell 0 rfl
             have V0_f2c1 := (V0_f2.out).cell 1 rfl
             have V0_f2c2 := (V0_f2.out).cell 2 rfl
             have V1_f2 := Lib.hid (Vr.below' (by first | exact V1_e2.out | exact V1_e2.out.alloc _) hB)
             have V1_f2c0 := (V1_f2.out).cell 0 rfl
             have V1_f2c1 := (V1_f2.out).cell 1 rfl
             have V1_f2c2 := (V1_f2.out).cell 2 rfl
             have Z_f2 := Lib.hid (RN.below (by first | exact Z_e2.out | exact Z_e2.out.below ((Below.refl _ _).alloc (Nat.le_refl _) _)) hB)
             try have VN_f2 := Lib.hid (Vr.below' VN_e2.out hB)
             try have VN_f2 := Lib.hid (Vr.below' (Vr.new _ _ _) hB)
             have B_f2 := Lib.hid (below_on (by first | exact B_e2.out | exact B_e2.out.alloc B_e2.out.size _) hB)
             have neV0_f2 : f2.heap.size ≠ w.heap.size := Nat.ne_of_gt V0_f2.out.lt
             have neV1_f2 : f2.heap.size ≠ gW1 := Nat.ne_of_gt V1_f2.out.lt
             have M_f2 := Lib.hid hm2
             have C_f2 := Lib.hid (below_on (by first | exact C_e2.out | exact C_e2.out.alloc C_e2.out.size _) hB)
             clear hm2
             clear hB)
          | (go_at_call 63
             refine (rimul_ok _ b2 bb2 A2 E2 c2 ee2 z2 m2 (by first | exact Z_f2.out | exact Z_f2.out.below ((Below.refl _ _).alloc (Nat.le_refl _) _)) (by first | exact M_f2.out | exact M_f2.out.below ((Below.refl _ _).alloc (Nat.le_refl _) _)) (by rw [HZ2.out, HM2.out]; have h1 := qn_len (b := q) (ys := vs) HU.out.2; have h2 := qd_len HY.out.2; rw [zv_f, HY2.out, V_limbs, Int.natAbs_natCast]; omega)).mono ?_
             rintro e h2 ⟨bp2, G2, g2, p2, rfl, HBP2, HP2, hp2, hB⟩
             have V0_h2 := Lib.hid (Vr.below' (by first | exact V0_f2.out | exact V0_f2.out.alloc _) hB)
             have V0_h2c0 := (V0_h2.out).cell 0 rfl
             have V0_h2c1 := (V0_h2.out).cell 1 rfl
             have V0_h2c2 := (V0_h2.out).cell 2 rfl
             have V1_h2 := Lib.hid (Vr.below' (by first | exact V1_f2.out | exact V1_f2.out.alloc _) hB)
             have V1_h2c0 := (V1_h2.out).cell 0 rfl
             have V1_h2c1 := (V1_h2.out).cell 1 rfl
             have V1_h2c2 := (V1_h2.out).cell 2 rfl
             try have VN_h2 := Lib.hid (Vr.below' VN_f2.out hB)
             try have VN_h2 := Lib.hid (Vr.below' (Vr.new _ _ _) hB)
             have B_h2 := Lib.hid (below_on (by first | exact B_f2.out | exact B_f2.out.alloc B_f2.out.size _) hB)
             have neV0_h2 : h2.heap.size ≠ w.heap.size := Nat.ne_of_gt V0_h2.out.lt
             have neV1_h2 : h2.heap.size ≠ gW1 := Nat.ne_of_gt V1_h2.out.lt
             have P_h2 := Lib.hid hp2
             have C_h2 := Lib.hid (below_on (by first | exact C_f2.out | exact C_f2.out.alloc C_f2.out.size _) hB)
             try have vn0 := VN_h2.out.cell 0 rfl
             try have vn1 := VN_h2.out.cell 1 rfl
             try have vf0 := VN_h2.out.thaw 0
             try have vf1 := VN_h2.out.thaw 1
             clear hp2
             clear hB))
      all_goals
        (have ez : zv b2 z2 * zv bb2 m2 = qn q us vs * qd ys := by
           have h := qd_pos HY.out.2
           rw [HB2.out, HZ2.out, zv_norm, HBM2.out, HM2.out, zv_norm, zv_f, HY2.out, V_limbs, Int.toNat_of_nonneg (by omega)]
         have hpz : zv bp2 p2 = qn q us vs * qd ys := by
           rw [HBP2.out, HP2.out, zv_norm]
           exact ez
         have hpl : p2.length ≤ us.length + ys.length + 1 := by
           have h1 := zmul_len (b := b2) (b' := bb2) Z_f2.out.2 M_f2.out.2
           have h2 := qn_len (b := q) (ys := vs) HU.out.2
           have h3 := qd_len HY.out.2
           rw [← HP2.out] at h1
           have h4 : z2.length ≤ us.length := by rw [HZ2.out]; exact h2
           have h5 : m2.length ≤ ys.length + 1 := by
             rw [HM2.out, zv_f, HY2.out, V_limbs, Int.natAbs_natCast]
             exact h3
           omega
         have HPZ := Lib.hid hpz
         have HPL := Lib.hid hpl
         clear ez hpz hpl
         go_wp2_with fail
         go_meet
         first
           | exact ⟨_, bp2, G2, g2, p2, rfl, Vr.new _ _ _, HPZ, HPL, P_h2.out.below ((Below.refl _ _).alloc (Nat.le_refl _) _), C_h2.out.alloc C_h2.out.size _⟩
           | exact ⟨_, bp2, G2, g2, p2, rfl, (VN_h2.out.set 0 _).set 1 _, HPZ, HPL, (P_h2.out.apart VN_h2.out (nd_int _ _ _ _) 0 _).apart (VN_h2.out.set 0 _) (nd_int _ _ _ _) 1 _, below_set (below_set C_h2.out (by first | exact Nat.le_refl _ | exact C_a2.out.size | exact C_e2.out.size | exact C_f2.out.size | exact C_h2.out.size) _) (by first | exact Nat.le_refl _ | exact C_a2.out.size | exact C_e2.out.size | exact C_f2.out.size | exact C_h2.out.size) _⟩)
    case rest =>
      obtain ⟨gc2, bz2, GZ2, cz2, z2, rfl, VZ2, EZ2, LZ2, PZ2, CZ2⟩ := hcut
      have VZ1b := Lib.hid (VZ1.out.below' CZ2.out)
      have PZ1b := Lib.hid (PZ1.out.below CZ2.out)
      have B_Z := Lib.hid (B_T.out.trans (CZ2.out.mono B_T.out.size))
      have rc0 := (VZ1b.out).cell 0 rfl
      have rc1 := (VZ1b.out).cell 1 rfl
      have sc0 := (VZ2.out).cell 0 rfl
      have sc1 := (VZ2.out).cell 1 rfl
      go_wp2_with fail
      refine (ricmp_ok wc bz1 bz2 GZ1 GZ2 cz1 cz2 z1 z2 PZ1b.out PZ2.out (by have := LZ1.out; omega) (by have := LZ2.out; omega)).mono ?_
      rintro e w9 ⟨rfl, hB9⟩
      have HB9 := Lib.hid (B_Z.out.trans (hB9.mono B_Z.out.size))
      clear hB9
      go_wp2_with fail
      go_ret
      refine ⟨?_, HB9.out⟩
      rw [EZ1.out, EZ2.out, cmp_qv HY.out.2 HW.out.2]
      rfl

end Go.Proofs.YtocpncjmcaecoaaGreat.M
namespace Go.Proofs.YtocpncjmcaecoaaGreat.M
set_option maxRecDepth 10000
open Go.RowKit
set_option linter.unusedVariables false
set_option linter.unusedSimpArgs false

set_option maxHeartbeats 6400000 in
theorem rqmul_ok (w : World) (p q : Bool) (P P2 Q Q2 : Option Addr) (cp cp2 cq cq2 : Nat) (xs ys us vs : List Int) (hx : RN w P cp xs) (hy : RN w P2 cp2 ys) (hu : RN w Q cq us) (hw : RN w Q2 cq2 vs) (hsxs : xs.length ≤ 35184372088800) (hsys : ys.length ≤ 35184372088800) (hsus : us.length ≤ 35184372088800) (hsvs : vs.length ≤ 35184372088800) (hsn : xs.length + us.length ≤ 35184372088800) (hsd : ys.length + vs.length + 2 ≤ 35184372088800) :
    Calls Tryz.prog 37 #[.agg #[.bool p, .slice P xs.length cp, .slice P2 ys.length cp2], .agg #[.bool q, .slice Q us.length cq, .slice Q2 vs.length cq2]] w (RetQ (qv p xs ys * qv q us vs) w) := by
  have HX := Lib.hid hx
  have HY := Lib.hid hy
  have HU := Lib.hid hu
  have HW := Lib.hid hw
  clear hx hy hu hw
  go_enter Tryz.func37, Tryz.ntmps37
  go_wp2_with fail
  obtain ⟨W, hW⟩ : ∃ W, W = (((w.alloc (.cells #[.bool p, .slice P xs.length cp, .slice P2 ys.length cp2] 28)).alloc (.cells #[.bool q, .slice Q us.length cq, .slice Q2 vs.length cq2] 28)).alloc (.cells #[.bool false, .slice none 0 0, .slice none 0 0] 28)) := ⟨_, rfl⟩
  rw [← hW]
  have hBW : Below w.heap.size w W := by rw [hW]; exact ((((Below.refl _ _).alloc (Nat.le_refl _) _).alloc (by simp only [size_alloc]; omega) _).alloc (by simp only [size_alloc]; omega) _)
  have vW0 : Vr W (w.heap.size) 28 #[.bool p, .slice P xs.length cp, .slice P2 ys.length cp2] := by rw [hW]; exact (((Vr.new' _ _ _ (by simp only [size_alloc])).alloc _).alloc _)
  have vW1 : Vr W (w.heap.size + 1) 28 #[.bool q, .slice Q us.length cq, .slice Q2 vs.length cq2] := by rw [hW]; exact ((Vr.new' _ _ _ (by simp only [size_alloc])).alloc _)
  have vW2 : Vr W (w.heap.size + 1 + 1) 28 #[.bool false, .slice none 0 0, .slice none 0 0] := by rw [hW]; exact (Vr.new' _ _ _ (by simp only [size_alloc]))
  clear hW
  obtain ⟨gW2, hgW2⟩ : ∃ g, w.heap.size + 1 + 1 = g := ⟨_, rfl⟩
  rw [hgW2] at vW2 ⊢
  obtain ⟨gW1, hgW1⟩ : ∃ g, w.heap.size + 1 = g := ⟨_, rfl⟩
  rw [hgW1] at vW1 ⊢
  have hneW01 : w.heap.size ≠ gW1 := by omega
  have hneW02 : w.heap.size ≠ gW2 := by omega
  have hgeW1 : w.heap.size ≤ gW1 := by omega
  have hneW10 : gW1 ≠ w.heap.size := by omega
  have hneW12 : gW1 ≠ gW2 := by omega
  have hgeW2 : w.heap.size ≤ gW2 := by omega
  have hneW20 : gW2 ≠ w.heap.size := by omega
  have hneW21 : gW2 ≠ gW1 := by omega
  have HVW0 := Lib.hid vW0
  have HVW1 := Lib.hid vW1
  have HVW2 := Lib.hid vW2
  have HBW := Lib.hid hBW
  clear hBW vW0 vW1 vW2 hgW1 hgW2
  have oc0 := (HVW0.out).cell 0 rfl
  have oc1 := (HVW0.out).cell 1 rfl
  have oc2 := (HVW0.out).cell 2 rfl
  have qc0 := (HVW1.out).cell 0 rfl
  have qc1 := (HVW1.out).cell 1 rfl
  have qc2 := (HVW1.out).cell 2 rfl
  have V0_Wd := Lib.hid HVW0.out.drew
  have V1_Wd := Lib.hid HVW1.out.drew
  have V2_Wd := Lib.hid HVW2.out.drew
  have B_Wd := Lib.hid HBW.out.drew
  go_region_held3 (fun w' => w'.cell? ⟨w.heap.size, 0, none⟩ = some (.bool p) ∧ w'.cell? ⟨w.heap.size, 1, none⟩ = some (.slice P xs.length cp) ∧ w'.cell? ⟨w.heap.size, 2, none⟩ = some (.slice P2 ys.length cp2) ∧ w'.cell? ⟨gW1, 0, none⟩ = some (.bool q) ∧ w'.cell? ⟨gW1, 1, none⟩ = some (.slice Q us.length cq) ∧ w'.cell? ⟨gW1, 2, none⟩ = some (.slice Q2 vs.length cq2)) (go_keep)
    (first
      | (go_at_call_of 64 P
         refine (top_ok _ p P P2 cp cp2 xs ys (HX.out.below (by first | exact B_Wd.out | exact B_Wd.out.alloc B_Wd.out.size _)) (HY.out.below (by first | exact B_Wd.out | exact B_Wd.out.alloc B_Wd.out.size _)) hsxs hsys).mono ?_
         rintro e a1 ⟨b1, A1, c1, z1, rfl, HB1, HZ1, hz1, hB⟩
         have V0_a1 := Lib.hid (Vr.below' (by first | exact V0_Wd.out | exact V0_Wd.out.alloc _) hB)
         have V0_a1c0 := (V0_a1.out).cell 0 rfl
         have V0_a1c1 := (V0_a1.out).cell 1 rfl
         have V0_a1c2 := (V0_a1.out).cell 2 rfl
         have V1_a1 := Lib.hid (Vr.below' (by first | exact V1_Wd.out | exact V1_Wd.out.alloc _) hB)
         have V1_a1c0 := (V1_a1.out).cell 0 rfl
         have V1_a1c1 := (V1_a1.out).cell 1 rfl
         have V1_a1c2 := (V1_a1.out).cell 2 rfl
         have B_a1 := Lib.hid (below_on (by first | exact B_Wd.out | exact B_Wd.out.alloc B_Wd.out.size _) hB)
         have neV0_a1 : a1.heap.size ≠ w.heap.size := Nat.ne_of_gt V0_a1.out.lt
         have neV1_a1 : a1.heap.size ≠ gW1 := Nat.ne_of_gt V1_a1.out.lt
         have Z_a1 := Lib.hid hz1
         have V2_a1 := Lib.hid (V2_Wd.out.below' hB)
         clear hz1
         clear hB)
      | (go_at_call_of 64 Q
         refine (top_ok _ q Q Q2 cq cq2 us vs (HU.out.below (by first | exact B_a1.out | exact B_a1.out.alloc B_a1.out.size _)) (HW.out.below (by first | exact B_a1.out | exact B_a1.out.alloc B_a1.out.size _)) hsus hsvs).mono ?_
         rintro e a2 ⟨b2, A2, c2, z2, rfl, HB2, HZ2, hz2, hB⟩
         have V0_a2 := Lib.hid (Vr.below' (by first | exact V0_a1.out | exact V0_a1.out.alloc _) hB)
         have V0_a2c0 := (V0_a2.out).cell 0 rfl
         have V0_a2c1 := (V0_a2.out).cell 1 rfl
         have V0_a2c2 := (V0_a2.out).cell 2 rfl
         have V1_a2 := Lib.hid (Vr.below' (by first | exact V1_a1.out | exact V1_a1.out.alloc _) hB)
         have V1_a2c0 := (V1_a2.out).cell 0 rfl
         have V1_a2c1 := (V1_a2.out).cell 1 rfl
         have V1_a2c2 := (V1_a2.out).cell 2 rfl
         have Z_a2 := Lib.hid (RN.below (by first | exact Z_a1.out | exact Z_a1.out.below ((Below.refl _ _).alloc (Nat.le_refl _) _)) hB)
         have B_a2 := Lib.hid (below_on (by first | exact B_a1.out | exact B_a1.out.alloc B_a1.out.size _) hB)
         have neV0_a2 : a2.heap.size ≠ w.heap.size := Nat.ne_of_gt V0_a2.out.lt
         have neV1_a2 : a2.heap.size ≠ gW1 := Nat.ne_of_gt V1_a2.out.lt
         have Y_a2 := Lib.hid hz2
         have V2_a2 := Lib.hid (V2_a1.out.below' hB)
         clear hz2
         clear hB)
      | (go_at_call 63
         refine (rimul_ok _ b1 b2 A1 A2 c1 c2 z1 z2 (by first | exact Z_a2.out | exact Z_a2.out.below ((Below.refl _ _).alloc (Nat.le_refl _) _)) (by first | exact Y_a2.out | exact Y_a2.out.below ((Below.refl _ _).alloc (Nat.le_refl _) _)) (by rw [HZ1.out, HZ2.out]; have h1 := qn_len (b := p) (ys := ys) HX.out.2; have h2 := qn_len (b := q) (ys := vs) HU.out.2; omega)).mono ?_
         rintro e a3 ⟨b3, A3, c3, z3, rfl, HB3, HZ3, hz3, hB⟩
         have V0_a3 := Lib.hid (Vr.below' (by first | exact V0_a2.out | exact V0_a2.out.alloc _) hB)
         have V0_a3c0 := (V0_a3.out).cell 0 rfl
         have V0_a3c1 := (V0_a3.out).cell 1 rfl
         have V0_a3c2 := (V0_a3.out).cell 2 rfl
         have V1_a3 := Lib.hid (Vr.below' (by first | exact V1_a2.out | exact V1_a2.out.alloc _) hB)
         have V1_a3c0 := (V1_a3.out).cell 0 rfl
         have V1_a3c1 := (V1_a3.out).cell 1 rfl
         have V1_a3c2 := (V1_a3.out).cell 2 rfl
         have B_a3 := Lib.hid (below_on (by first | exact B_a2.out | exact B_a2.out.alloc B_a2.out.size _) hB)
         have neV0_a3 : a3.heap.size ≠ w.heap.size := Nat.ne_of_gt V0_a3.out.lt
         have neV1_a3 : a3.heap.size ≠ gW1 := Nat.ne_of_gt V1_a3.out.lt
         have P_a3 := Lib.hid hz3
         have V2_a3 := Lib.hid (V2_a2.out.below' hB)
         clear hz3
         clear hB)
      | (go_at_call_of 66 P
         refine (low_ok _ p P P2 cp cp2 xs ys (HX.out.below (by first | exact B_a3.out | exact B_a3.out.alloc B_a3.out.size _)) (HY.out.below (by first | exact B_a3.out | exact B_a3.out.alloc B_a3.out.size _)) hsxs hsys).mono ?_
         rintro e a4 ⟨D4, d4, y4, rfl, HY4, hy4, hB⟩
         have V0_a4 := Lib.hid (Vr.below' (by first | exact V0_a3.out | exact V0_a3.out.alloc _) hB)
         have V0_a4c0 := (V0_a4.out).cell 0 rfl
         have V0_a4c1 := (V0_a4.out).cell 1 rfl
         have V0_a4c2 := (V0_a4.out).cell 2 rfl
         have V1_a4 := Lib.hid (Vr.below' (by first | exact V1_a3.out | exact V1_a3.out.alloc _) hB)
         have V1_a4c0 := (V1_a4.out).cell 0 rfl
         have V1_a4c1 := (V1_a4.out).cell 1 rfl
         have V1_a4c2 := (V1_a4.out).cell 2 rfl
         have P_a4 := Lib.hid (RN.below (by first | exact P_a3.out | exact P_a3.out.below ((Below.refl _ _).alloc (Nat.le_refl _) _)) hB)
         have B_a4 := Lib.hid (below_on (by first | exact B_a3.out | exact B_a3.out.alloc B_a3.out.size _) hB)
         have neV0_a4 : a4.heap.size ≠ w.heap.size := Nat.ne_of_gt V0_a4.out.lt
         have neV1_a4 : a4.heap.size ≠ gW1 := Nat.ne_of_gt V1_a4.out.lt
         have L_a4 := Lib.hid hy4
         have V2_a4 := Lib.hid (V2_a3.out.below' hB)
         clear hy4
         clear hB)
      | (go_at_call_of 66 Q
         refine (low_ok _ q Q Q2 cq cq2 us vs (HU.out.below (by first | exact B_a4.out | exact B_a4.out.alloc B_a4.out.size _)) (HW.out.below (by first | exact B_a4.out | exact B_a4.out.alloc B_a4.out.size _)) hsus hsvs).mono ?_
         rintro e a5 ⟨D5, d5, y5, rfl, HY5, hy5, hB⟩
         have V0_a5 := Lib.hid (Vr.below' (by first | exact V0_a4.out | exact V0_a4.out.alloc _) hB)
         have V0_a5c0 := (V0_a5.out).cell 0 rfl
         have V0_a5c1 := (V0_a5.out).cell 1 rfl
         have V0_a5c2 := (V0_a5.out).cell 2 rfl
         have V1_a5 := Lib.hid (Vr.below' (by first | exact V1_a4.out | exact V1_a4.out.alloc _) hB)
         have V1_a5c0 := (V1_a5.out).cell 0 rfl
         have V1_a5c1 := (V1_a5.out).cell 1 rfl
         have V1_a5c2 := (V1_a5.out).cell 2 rfl
         have P_a5 := Lib.hid (RN.below (by first | exact P_a4.out | exact P_a4.out.below ((Below.refl _ _).alloc (Nat.le_refl _) _)) hB)
         have L_a5 := Lib.hid (RN.below (by first | exact L_a4.out | exact L_a4.out.below ((Below.refl _ _).alloc (Nat.le_refl _) _)) hB)
         have B_a5 := Lib.hid (below_on (by first | exact B_a4.out | exact B_a4.out.alloc B_a4.out.size _) hB)
         have neV0_a5 : a5.heap.size ≠ w.heap.size := Nat.ne_of_gt V0_a5.out.lt
         have neV1_a5 : a5.heap.size ≠ gW1 := Nat.ne_of_gt V1_a5.out.lt
         have K_a5 := Lib.hid hy5
         have V2_a5 := Lib.hid (V2_a4.out.below' hB)
         clear hy5
         clear hB)
      | (go_at_call 68
         refine (rmul_ok _ D4 D5 d4 d5 y4 y5 (by first | exact L_a5.out | exact L_a5.out.below ((Below.refl _ _).alloc (Nat.le_refl _) _)) (by first | exact K_a5.out | exact K_a5.out.below ((Below.refl _ _).alloc (Nat.le_refl _) _)) (by rw [HY4.out, HY5.out]; have h1 := qd_len HY.out.2; have h2 := qd_len HW.out.2; omega)).mono ?_
         rintro e a6 ⟨D6, d6, y6, rfl, HY6, hy6, hB⟩
         have V0_a6 := Lib.hid (Vr.below' (by first | exact V0_a5.out | exact V0_a5.out.alloc _) hB)
         have V0_a6c0 := (V0_a6.out).cell 0 rfl
         have V0_a6c1 := (V0_a6.out).cell 1 rfl
         have V0_a6c2 := (V0_a6.out).cell 2 rfl
         have V1_a6 := Lib.hid (Vr.below' (by first | exact V1_a5.out | exact V1_a5.out.alloc _) hB)
         have V1_a6c0 := (V1_a6.out).cell 0 rfl
         have V1_a6c1 := (V1_a6.out).cell 1 rfl
         have V1_a6c2 := (V1_a6.out).cell 2 rfl
         have P_a6 := Lib.hid (RN.below (by first | exact P_a5.out | exact P_a5.out.below ((Below.refl _ _).alloc (Nat.le_refl _) _)) hB)
         have B_a6 := Lib.hid (below_on (by first | exact B_a5.out | exact B_a5.out.alloc B_a5.out.size _) hB)
         have neV0_a6 : a6.heap.size ≠ w.heap.size := Nat.ne_of_gt V0_a6.out.lt
         have neV1_a6 : a6.heap.size ≠ gW1 := Nat.ne_of_gt V1_a6.out.lt
         have M_a6 := Lib.hid hy6
         have HVM : Hid (V y6 = qd ys * qd vs) := by show _ = _; have h1 := qd_pos HY.out.2; have h2 := qd_pos HW.out.2; rw [HY6.out, V_limbs, HY4.out, HY5.out, V_limbs, V_limbs, Int.toNat_natCast, Int.toNat_natCast, Int.natCast_mul, Int.toNat_of_nonneg (by omega), Int.toNat_of_nonneg (by omega)]
         have hm6 : y6.length ≤ ys.length + vs.length + 2 := by have h1 := mul_len L_a5.out.2 K_a5.out.2; have h3 := qd_len HY.out.2; have h4 := qd_len HW.out.2; rw [← HY6.out] at h1; have h5 : y4.length ≤ ys.length + 1 := (by rw [HY4.out]; exact h3); have h6 : y5.length ≤ vs.length + 1 := (by rw [HY5.out]; exact h4); omega
         have hm3 : z3.length ≤ xs.length + us.length := by have h1 := zmul_len (b := b1) (b' := b2) Z_a2.out.2 Y_a2.out.2; have h3 := qn_len (b := p) (ys := ys) HX.out.2; have h4 := qn_len (b := q) (ys := vs) HU.out.2; rw [← HZ3.out] at h1; have h5 : z1.length ≤ xs.length := (by rw [HZ1.out]; exact h3); have h6 : z2.length ≤ us.length := (by rw [HZ2.out]; exact h4); omega
         have HM6 := Lib.hid hm6
         have HM3 := Lib.hid hm3
         have V2_a6 := Lib.hid (V2_a5.out.below' hB)
         clear hy6 hm6 hm3
         clear hB)
      | (go_at_call 67
         refine (reduce_ok _ b3 A3 D6 c3 d6 z3 y6 (by first | exact P_a6.out | exact P_a6.out.below ((Below.refl _ _).alloc (Nat.le_refl _) _)) (by first | exact M_a6.out | exact M_a6.out.below ((Below.refl _ _).alloc (Nat.le_refl _) _)) (by have := HM3.out; omega) (by have := HM6.out; omega) (by rw [HVM.out]; have h1 := qd_pos HY.out.2; have h2 := qd_pos HW.out.2; have h3 := Int.mul_pos h1 h2; omega)).mono ?_
         rintro e a7 ⟨b7, A7, c7, x7, B7, d7, y7, rfl, HQ1, HQ2, HQ3, hr1, hr2, hB⟩
         have V0_a7 := Lib.hid (Vr.below' (by first | exact V0_a6.out | exact V0_a6.out.alloc _) hB)
         have V0_a7c0 := (V0_a7.out).cell 0 rfl
         have V0_a7c1 := (V0_a7.out).cell 1 rfl
         have V0_a7c2 := (V0_a7.out).cell 2 rfl
         have V1_a7 := Lib.hid (Vr.below' (by first | exact V1_a6.out | exact V1_a6.out.alloc _) hB)
         have V1_a7c0 := (V1_a7.out).cell 0 rfl
         have V1_a7c1 := (V1_a7.out).cell 1 rfl
         have V1_a7c2 := (V1_a7.out).cell 2 rfl
         have B_a7 := Lib.hid (below_on (by first | exact B_a6.out | exact B_a6.out.alloc B_a6.out.size _) hB)
         have neV0_a7 : a7.heap.size ≠ w.heap.size := Nat.ne_of_gt V0_a7.out.lt
         have neV1_a7 : a7.heap.size ≠ gW1 := Nat.ne_of_gt V1_a7.out.lt
         have S_a7 := Lib.hid hr1
         have T_a7 := Lib.hid hr2
         have V2_a7 := Lib.hid (V2_a6.out.below' hB)
         have k0 := V2_a7.out.cell 0 rfl
         have k1 := V2_a7.out.cell 1 rfl
         have k2 := V2_a7.out.cell 2 rfl
         have g0 := V2_a7.out.thaw 0
         have g1 := V2_a7.out.thaw 1
         have g2 := V2_a7.out.thaw 2
         clear hr1 hr2
         clear hB))
  go_wp2_with fail
  have v3 : Vr (((a7.setCell ⟨gW2, 0, none⟩ (.bool b7)).setCell ⟨gW2, 1, none⟩ (.slice A7 x7.length c7)).setCell ⟨gW2, 2, none⟩ (.slice B7 y7.length d7)) gW2 28 #[.bool b7, .slice A7 x7.length c7, .slice B7 y7.length d7] := (((V2_a7.out.set 0 _).set 1 _).set 2 _)
  have r0 := (S_a7.out).apart (V2_a7.out) (nd_rat _ _ _ _ _ _ _) 0 (.bool b7)
  have r1 := (r0).apart ((V2_a7.out).set 0 (.bool b7)) (nd_rat _ _ _ _ _ _ _) 1 (.slice A7 x7.length c7)
  have r2 := (r1).apart (((V2_a7.out).set 0 (.bool b7)).set 1 (.slice A7 x7.length c7)) (nd_rat _ _ _ _ _ _ _) 2 (.slice B7 y7.length d7)
  have s0 := (T_a7.out).apart (V2_a7.out) (nd_rat _ _ _ _ _ _ _) 0 (.bool b7)
  have s1 := (s0).apart ((V2_a7.out).set 0 (.bool b7)) (nd_rat _ _ _ _ _ _ _) 1 (.slice A7 x7.length c7)
  have s2 := (s1).apart (((V2_a7.out).set 0 (.bool b7)).set 1 (.slice A7 x7.length c7)) (nd_rat _ _ _ _ _ _ _) 2 (.slice B7 y7.length d7)
  refine bodyPost_ret (v := .agg #[.bool b7, .slice A7 x7.length c7, .slice B7 y7.length d7]) (by simp [results, Tryz.results37, go_sem, v3.cell 0 rfl, v3.cell 1 rfl, v3.cell 2 rfl]) rfl ?_
  have hqm : qv b3 z3 y6 = qv p xs ys * qv q us vs := by
    have h1 := qd_pos HY.out.2
    have h2 := qd_pos HW.out.2
    have e1 : zv b3 z3 = qn p xs ys * qn q us vs := by rw [HB3.out, HZ3.out, zv_norm, HB1.out, HZ1.out, HB2.out, HZ2.out, zv_norm, zv_norm]
    rw [qv_parts HY.out.2, qv_parts HW.out.2, Rat.mkRat_mul_mkRat]
    unfold qv
    rw [e1, HVM.out]
    congr 1
    have h3 := Int.mul_nonneg (Int.le_of_lt h1) (Int.le_of_lt h2)
    have h4 : (((qd ys).toNat * (qd vs).toNat : Nat) : Int) = qd ys * qd vs := by rw [Int.natCast_mul, Int.toNat_of_nonneg (by omega), Int.toNat_of_nonneg (by omega)]
    omega
  exact ⟨b7, A7, c7, x7, B7, d7, y7, rfl, by rw [← hqm]; exact HQ1, by rw [← hqm]; exact HQ2, by rw [← hqm]; exact HQ3, r2, s2, (below_set (below_set (below_set B_a7.out hgeW2 _) hgeW2 _) hgeW2 _)⟩
theorem mul_small (p q : Rat) : (p * q).num.natAbs ≤ p.num.natAbs * q.num.natAbs ∧ (p * q).den ≤ p.den * q.den := by
  have h := mk_small (n := p.num * q.num) (d := p.den * q.den) (Nat.mul_ne_zero p.den_nz q.den_nz)
  have e : mkRat (p.num * q.num) (p.den * q.den) = p * q := by
    rw [← Rat.mkRat_mul_mkRat, Rat.mkRat_self, Rat.mkRat_self]
  rw [e, Int.natAbs_mul] at h
  exact h
theorem nat_len {n : Nat} {x : List Int} {k : Nat} (hx : Lim x) (h : n ≤ (V x).toNat) (hk : x.length ≤ k) : (limbs n).length ≤ k := by
  refine limbs_len ?_
  have h1 := V_lt hx
  have h2 := V_nonneg hx
  have h3 := pw_le hk
  omega
/-- How long the parts of a fraction's lowest terms are. -/
theorem qlen {b : Bool} {xs ys : List Int} (hx : Lim xs) (hy : Lim ys) : (limbs (qv b xs ys).num.natAbs).length ≤ xs.length ∧ (limbs (qv b xs ys).den).length ≤ ys.length + 1 := by
  have h0 := qd_pos hy
  have h := mk_small (n := qn b xs ys) (d := (qd ys).toNat) (by omega)
  rw [← qv_parts hy] at h
  constructor
  · refine Nat.le_trans ?_ (qn_len (b := b) (ys := ys) hx)
    refine limbs_len (Int.lt_of_le_of_lt ?_ (limbs_lt (qn b xs ys).natAbs))
    omega
  · refine Nat.le_trans ?_ (qd_len hy)
    refine limbs_len (Int.lt_of_le_of_lt ?_ (limbs_lt (qd ys).toNat))
    omega
theorem nat_mul_len (a b : Nat) : (limbs (a * b)).length ≤ (limbs a).length + (limbs b).length := by
  have h := mul_len (limbs_nf a).1 (limbs_nf b).1
  rwa [V_limbs, V_limbs, Int.toNat_natCast, Int.toNat_natCast] at h
theorem nat_le_len {a b : Nat} (h : a ≤ b) : (limbs a).length ≤ (limbs b).length := limbs_len (Int.lt_of_le_of_lt (Int.ofNat_le.2 h) (limbs_lt b))
theorem qlen_mul {b q : Bool} {xs ys us vs : List Int} (hx : Lim xs) (hy : Lim ys) (hu : Lim us) (hv : Lim vs) : (limbs (qv b xs ys * qv q us vs).num.natAbs).length ≤ xs.length + us.length ∧ (limbs (qv b xs ys * qv q us vs).den).length ≤ ys.length + vs.length + 2 := by
  have h1 := qlen (b := b) hx hy
  have h2 := qlen (b := q) hu hv
  have h := mul_small (qv b xs ys) (qv q us vs)
  have h3 := nat_le_len h.1
  have h4 := nat_le_len h.2
  have h5 := nat_mul_len (qv b xs ys).num.natAbs (qv q us vs).num.natAbs
  have h6 := nat_mul_len (qv b xs ys).den (qv q us vs).den
  omega

end Go.Proofs.YtocpncjmcaecoaaGreat.M
