/- Integers of the reference. -/
import Derived.Test.YtgdlnmhpnlmofaaRatC
namespace Go.Proofs.Ytgdlnmhpnlmofaa.M
set_option maxRecDepth 10000
open Go.RowKit
set_option linter.unusedVariables false
set_option linter.unusedSimpArgs false

set_option maxHeartbeats 800000 in
theorem rinorm_ok (w : World) (b : Bool) (A : Option Addr) (c : Nat) (xs : List Int) (hx : RN w A c xs) (hs : xs.length ≤ 70368744177664) :
    Calls Try.prog 59 #[.agg #[.bool b, .slice A xs.length c]] w (RetZI (zv b xs) w) := by
  have HX := Lib.hid hx
  clear hx
  go_enter Try.func59, Try.ntmps59
  go_wp2_with fail
  obtain ⟨W, hW⟩ : ∃ W, W = ((w.alloc (.cells #[.bool b, .slice A xs.length c] 31)).alloc (.cells #[.bool false, .slice none 0 0] 31)) := ⟨_, rfl⟩
  rw [← hW]
  have hBW : Below w.heap.size w W := by rw [hW]; exact (((Below.refl _ _).alloc (Nat.le_refl _) _).alloc (by simp only [size_alloc]; omega) _)
  have vW0 : Vr W (w.heap.size) 31 #[.bool b, .slice A xs.length c] := by rw [hW]; exact ((Vr.new' _ _ _ (by simp only [size_alloc])).alloc _)
  have vW1 : Vr W (w.heap.size + 1) 31 #[.bool false, .slice none 0 0] := by rw [hW]; exact (Vr.new' _ _ _ (by simp only [size_alloc]))
  clear hW
  obtain ⟨gW1, hgW1⟩ : ∃ g, w.heap.size + 1 = g := ⟨_, rfl⟩
  rw [hgW1] at vW1 ⊢
  have hneW01 : w.heap.size ≠ gW1 := by omega
  have hgeW1 : w.heap.size ≤ gW1 := by omega
  have hneW10 : gW1 ≠ w.heap.size := by omega
  have HVW0 := Lib.hid vW0
  have HVW1 := Lib.hid vW1
  have HBW := Lib.hid hBW
  clear hBW vW0 vW1 hgW1
  refine (rnorm_ok W A c xs (HX.out.below HBW.out) hs).mono ?_
  rintro e w1 ⟨A1, c1, z, rfl, HZ, hz, hB1⟩
  have oc0 := (HVW0.out.below' hB1).cell 0 rfl
  have oc1 := (HVW0.out.below' hB1).cell 1 rfl
  have dc0 := (HVW1.out.below' hB1).cell 0 rfl
  have dc1 := (HVW1.out.below' hB1).cell 1 rfl
  have df0 := (HVW1.out.below' hB1).thaw 0
  have df1 := (HVW1.out.below' hB1).thaw 1
  have HV1 := Lib.hid (HVW1.out.below' hB1)
  have HB1 := Lib.hid (HBW.out.trans (hB1.mono HBW.out.size))
  have HR := Lib.hid hz
  have H0 := Lib.hid (V_nonneg HX.out.2)
  have HN : Hid (V z = V xs) := by
    show _ = _
    rw [HZ.out, V_limbs, Int.toNat_of_nonneg H0.out]
  clear hB1 hz
  cases b
  · go_wp2_with fail
    have v3 : Vr ((w1.setCell ⟨gW1, 0, none⟩ (.bool false)).setCell ⟨gW1, 1, none⟩ (.slice A1 z.length c1)) gW1 31 #[.bool false, .slice A1 z.length c1] := ((HV1.out.set 0 _).set 1 _)
    have r0 := (HR.out).apart (HV1.out) (nd_int _ _ _ _) 0 (.bool false)
    have r1 := (r0).apart ((HV1.out).set 0 (.bool false)) (nd_int _ _ _ _) 1 (.slice A1 z.length c1)
    refine bodyPost_ret (v := .agg #[.bool false, .slice A1 z.length c1]) (by simp [results, Try.results59, go_sem, v3.cell 0 rfl, v3.cell 1 rfl]) rfl ?_
    exact ⟨_, A1, c1, z, rfl, by show false = _; rw [zv_f]; exact (decide_eq_false (by have := H0.out; omega)).symm, by show z = _; rw [zv_f, HZ.out]; congr 1; have := H0.out; omega, r1, (below_set (below_set HB1.out hgeW1 _) hgeW1 _)⟩
  · go_wp2_with fail
    have v3 : Vr ((w1.setCell ⟨gW1, 0, none⟩ (.bool (decide (0 < z.length)))).setCell ⟨gW1, 1, none⟩ (.slice A1 z.length c1)) gW1 31 #[.bool (decide (0 < z.length)), .slice A1 z.length c1] := ((HV1.out.set 0 _).set 1 _)
    have r0 := (HR.out).apart (HV1.out) (nd_int _ _ _ _) 0 (.bool (decide (0 < z.length)))
    have r1 := (r0).apart ((HV1.out).set 0 (.bool (decide (0 < z.length)))) (nd_int _ _ _ _) 1 (.slice A1 z.length c1)
    refine bodyPost_ret (v := .agg #[.bool (decide (0 < z.length)), .slice A1 z.length c1]) (by simp [results, Try.results59, go_sem, v3.cell 0 rfl, v3.cell 1 rfl]) rfl ?_
    exact ⟨_, A1, c1, z, rfl, by
      show decide (0 < z.length) = decide (zv true xs < 0)
      rw [zv_t, ← HN.out]
      by_cases h : 0 < z.length
      · have h2 : 0 < V z := by
          have h3 : Nf z := by rw [HZ.out]; exact limbs_nf _
          exact h3.V_pos h
        rw [decide_eq_true h, decide_eq_true (by omega)]
      · have h2 : V z = 0 := by rw [List.length_eq_zero_iff.1 (by omega : z.length = 0)]; rfl
        rw [decide_eq_false h, decide_eq_false (by omega)], by show z = _; rw [zv_t, HZ.out]; congr 1; have := H0.out; omega, r1, (below_set (below_set HB1.out hgeW1 _) hgeW1 _)⟩

set_option maxHeartbeats 800000 in
theorem rimake_ok (w : World) (b : Bool) (A : Option Addr) (c : Nat) (xs : List Int) (hx : RN w A c xs) (hs : xs.length ≤ 70368744177664) :
    Calls Try.prog 51 #[.bool b, .slice A xs.length c] w (RetZI (zv b xs) w) := by
  have HX := Lib.hid hx
  clear hx
  go_enter Try.func51, Try.ntmps51
  go_wp2_with fail
  obtain ⟨W, hW⟩ : ∃ W, W = (w.alloc (.cells #[.bool false, .slice none 0 0] 31)) := ⟨_, rfl⟩
  rw [← hW]
  have hBW : Below w.heap.size w W := by rw [hW]; exact ((Below.refl _ _).alloc (Nat.le_refl _) _)
  have vW0 : Vr W (w.heap.size) 31 #[.bool false, .slice none 0 0] := by rw [hW]; exact (Vr.new' _ _ _ (by simp only [size_alloc]))
  clear hW
  have HVW0 := Lib.hid vW0
  have HBW := Lib.hid hBW
  clear hBW vW0
  refine (rinorm_ok W b A c xs (HX.out.below HBW.out) hs).mono ?_
  rintro e w1 ⟨b1, A1, c1, z, rfl, HB1, HZ1, hz, hB1⟩
  have dc0 := (HVW0.out.below' hB1).cell 0 rfl
  have dc1 := (HVW0.out.below' hB1).cell 1 rfl
  have df0 := (HVW0.out.below' hB1).thaw 0
  have df1 := (HVW0.out.below' hB1).thaw 1
  have HV1 := Lib.hid (HVW0.out.below' hB1)
  have HBd := Lib.hid (HBW.out.trans (hB1.mono HBW.out.size))
  have HR := Lib.hid hz
  clear hB1 hz
  go_wp2_with fail
  have v3 : Vr ((w1.setCell ⟨w.heap.size, 0, none⟩ (.bool b1)).setCell ⟨w.heap.size, 1, none⟩ (.slice A1 z.length c1)) w.heap.size 31 #[.bool b1, .slice A1 z.length c1] := ((HV1.out.set 0 _).set 1 _)
  have r0 := (HR.out).apart (HV1.out) (nd_int _ _ _ _) 0 (.bool b1)
  have r1 := (r0).apart ((HV1.out).set 0 (.bool b1)) (nd_int _ _ _ _) 1 (.slice A1 z.length c1)
  refine bodyPost_ret (v := .agg #[.bool b1, .slice A1 z.length c1]) (by simp [results, Try.results51, go_sem, v3.cell 0 rfl, v3.cell 1 rfl]) rfl ?_
  exact ⟨_, A1, c1, z, rfl, HB1, HZ1, r1, (below_set (below_set HBd.out (Nat.le_refl _) _) (Nat.le_refl _) _)⟩

set_option maxHeartbeats 800000 in
theorem riof_ok (w : World) (n : Int) (h0 : -9223372036854775808 ≤ n) (h1 : n ≤ 9223372036854775807) :
    Calls Try.prog 32 #[.int .i64 n] w (RetZI n w) := by
  rcases Int.lt_or_le n 0 with hn | hn
  · have hlt : decide (n < 0) = true := decide_eq_true hn
    have e1 : IntKind.i64.wrap (n + 1) = n + 1 := IntWalk.i64_in _ (by omega)
    have e2 : IntKind.i64.wrap (-(n + 1)) = -(n + 1) := IntWalk.i64_in _ (by omega)
    have e3 : IntKind.u64.wrap (-(n + 1)) = -(n + 1) := IntWalk.u64_in _ (by omega)
    have e4 : IntKind.u64.wrap (-(n + 1) + 1) = -n := by rw [IntWalk.u64_in _ (by omega)]; omega
    go_enter Try.func32, Try.ntmps32
    go_wp2_with fail
    obtain ⟨W, hW⟩ : ∃ W, W = (w.alloc (.cells #[.bool false, .slice none 0 0] 31)) := ⟨_, rfl⟩
    rw [← hW]
    have hBW : Below w.heap.size w W := by rw [hW]; exact ((Below.refl _ _).alloc (Nat.le_refl _) _)
    have vW0 : Vr W (w.heap.size) 31 #[.bool false, .slice none 0 0] := by rw [hW]; exact (Vr.new' _ _ _ (by simp only [size_alloc]))
    clear hW
    have HVW0 := Lib.hid vW0
    have HBW := Lib.hid hBW
    clear hBW vW0
    refine (rof_ok W (-n) (by omega) (by omega)).mono ?_
    rintro e w0 ⟨A0, c0, z0, rfl, HZ0, hz0, hB0⟩
    have HV0 := Lib.hid (HVW0.out.below' hB0)
    have HB0 := Lib.hid (HBW.out.trans (hB0.mono HBW.out.size))
    have HR0 := Lib.hid hz0
    clear hB0 hz0
    have hl0 : z0.length ≤ 70368744177664 := by rw [HZ0.out]; exact Nat.le_trans (limbs_len (m := 2) (by rw [pw_succ, pw_succ, pw_zero]; omega)) (by omega)
    have hzv : zv true z0 = n := by rw [zv_t, HZ0.out, V_limbs]; omega
    go_wp2_with fail
    refine (rimake_ok w0 true A0 c0 z0 HR0.out hl0).mono ?_
    rw [hzv]
    clear hzv
    rintro e w1 ⟨b1, A1, c1, z, rfl, HB1, HZ1, hz, hB1⟩
    have dc0 := (HV0.out.below' hB1).cell 0 rfl
    have dc1 := (HV0.out.below' hB1).cell 1 rfl
    have df0 := (HV0.out.below' hB1).thaw 0
    have df1 := (HV0.out.below' hB1).thaw 1
    have HV1 := Lib.hid (HV0.out.below' hB1)
    have HBd := Lib.hid (HB0.out.trans (hB1.mono HB0.out.size))
    have HR := Lib.hid hz
    clear hB1 hz
    go_wp2_with fail
    have v3 : Vr ((w1.setCell ⟨w.heap.size, 0, none⟩ (.bool b1)).setCell ⟨w.heap.size, 1, none⟩ (.slice A1 z.length c1)) w.heap.size 31 #[.bool b1, .slice A1 z.length c1] := ((HV1.out.set 0 _).set 1 _)
    have r0 := (HR.out).apart (HV1.out) (nd_int _ _ _ _) 0 (.bool b1)
    have r1 := (r0).apart ((HV1.out).set 0 (.bool b1)) (nd_int _ _ _ _) 1 (.slice A1 z.length c1)
    refine bodyPost_ret (v := .agg #[.bool b1, .slice A1 z.length c1]) (by simp [results, Try.results32, go_sem, v3.cell 0 rfl, v3.cell 1 rfl]) rfl ?_
    exact ⟨_, A1, c1, z, rfl, HB1, HZ1, r1, (below_set (below_set HBd.out (Nat.le_refl _) _) (Nat.le_refl _) _)⟩
  · have hlt : decide (n < 0) = false := decide_eq_false (by omega)
    have e3 : IntKind.u64.wrap n = n := IntWalk.u64_in _ (by omega)
    go_enter Try.func32, Try.ntmps32
    go_wp2_with fail
    obtain ⟨W, hW⟩ : ∃ W, W = (w.alloc (.cells #[.bool false, .slice none 0 0] 31)) := ⟨_, rfl⟩
    rw [← hW]
    have hBW : Below w.heap.size w W := by rw [hW]; exact ((Below.refl _ _).alloc (Nat.le_refl _) _)
    have vW0 : Vr W (w.heap.size) 31 #[.bool false, .slice none 0 0] := by rw [hW]; exact (Vr.new' _ _ _ (by simp only [size_alloc]))
    clear hW
    have HVW0 := Lib.hid vW0
    have HBW := Lib.hid hBW
    clear hBW vW0
    refine (rof_ok W n (by omega) (by omega)).mono ?_
    rintro e w0 ⟨A0, c0, z0, rfl, HZ0, hz0, hB0⟩
    have HV0 := Lib.hid (HVW0.out.below' hB0)
    have HB0 := Lib.hid (HBW.out.trans (hB0.mono HBW.out.size))
    have HR0 := Lib.hid hz0
    clear hB0 hz0
    have hl0 : z0.length ≤ 70368744177664 := by rw [HZ0.out]; exact Nat.le_trans (limbs_len (m := 2) (by rw [pw_succ, pw_succ, pw_zero]; omega)) (by omega)
    have hzv : zv false z0 = n := by rw [zv_f, HZ0.out, V_limbs]; omega
    go_wp2_with fail
    refine (rimake_ok w0 false A0 c0 z0 HR0.out hl0).mono ?_
    rw [hzv]
    clear hzv
    rintro e w1 ⟨b1, A1, c1, z, rfl, HB1, HZ1, hz, hB1⟩
    have dc0 := (HV0.out.below' hB1).cell 0 rfl
    have dc1 := (HV0.out.below' hB1).cell 1 rfl
    have df0 := (HV0.out.below' hB1).thaw 0
    have df1 := (HV0.out.below' hB1).thaw 1
    have HV1 := Lib.hid (HV0.out.below' hB1)
    have HBd := Lib.hid (HB0.out.trans (hB1.mono HB0.out.size))
    have HR := Lib.hid hz
    clear hB1 hz
    go_wp2_with fail
    have v3 : Vr ((w1.setCell ⟨w.heap.size, 0, none⟩ (.bool b1)).setCell ⟨w.heap.size, 1, none⟩ (.slice A1 z.length c1)) w.heap.size 31 #[.bool b1, .slice A1 z.length c1] := ((HV1.out.set 0 _).set 1 _)
    have r0 := (HR.out).apart (HV1.out) (nd_int _ _ _ _) 0 (.bool b1)
    have r1 := (r0).apart ((HV1.out).set 0 (.bool b1)) (nd_int _ _ _ _) 1 (.slice A1 z.length c1)
    refine bodyPost_ret (v := .agg #[.bool b1, .slice A1 z.length c1]) (by simp [results, Try.results32, go_sem, v3.cell 0 rfl, v3.cell 1 rfl]) rfl ?_
    exact ⟨_, A1, c1, z, rfl, HB1, HZ1, r1, (below_set (below_set HBd.out (Nat.le_refl _) _) (Nat.le_refl _) _)⟩

set_option maxHeartbeats 800000 in
theorem risign_ok (w : World) (b : Bool) (A : Option Addr) (c : Nat) (xs : List Int) (hx : RN w A c xs) (hs : xs.length ≤ 70368744177664) :
    Calls Try.prog 56 #[.agg #[.bool b, .slice A xs.length c]] w (fun e w' => e = .returned (.int .i64 (cmpI (zv b xs) 0)) ∧ Below w.heap.size w w') := by
  have HX := Lib.hid hx
  clear hx
  go_enter Try.func56, Try.ntmps56
  go_wp2_with fail
  obtain ⟨W, hW⟩ : ∃ W, W = (w.alloc (.cells #[.bool b, .slice A xs.length c] 31)) := ⟨_, rfl⟩
  rw [← hW]
  have hBW : Below w.heap.size w W := by rw [hW]; exact ((Below.refl _ _).alloc (Nat.le_refl _) _)
  have vW0 : Vr W (w.heap.size) 31 #[.bool b, .slice A xs.length c] := by rw [hW]; exact (Vr.new' _ _ _ (by simp only [size_alloc]))
  clear hW
  have HVW0 := Lib.hid vW0
  have HBW := Lib.hid hBW
  clear hBW vW0
  refine (rinorm_ok W b A c xs (HX.out.below HBW.out) hs).mono ?_
  rintro e w1 ⟨b1, A1, c1, z, rfl, HB1, HZ1, hz, hB1⟩
  have HBd := Lib.hid (HBW.out.trans (hB1.mono HBW.out.size))
  clear hB1 hz
  go_upto_region 2 with fail
  obtain ⟨T, hT⟩ : ∃ T, T = (w1.alloc (.cells #[.bool b1, .slice A1 z.length c1] 31)) := ⟨_, rfl⟩
  rw [← hT]
  have hBT : Below w1.heap.size w1 T := by rw [hT]; exact ((Below.refl _ _).alloc (Nat.le_refl _) _)
  have vT0 : Vr T (w1.heap.size) 31 #[.bool b1, .slice A1 z.length c1] := by rw [hT]; exact (Vr.new' _ _ _ (by simp only [size_alloc]))
  clear hT
  have HVT0 := Lib.hid vT0
  have HBT := Lib.hid hBT
  clear hBT vT0
  have HBt := Lib.hid (HBd.out.trans (HBT.out.mono HBd.out.size))
  have tc0 := (HVT0.out).cell 0 rfl
  have tc1 := (HVT0.out).cell 1 rfl
  by_cases hz : z.length = 0
  · have e1 : ((z.length : Int) == 0) = true := beq_iff_eq.2 (by omega)
    have e2 : (z.length == 0) = true := beq_iff_eq.2 hz
    have HZ0 : Hid (zv b xs = 0) := by
      have h := HZ1.out
      rw [List.length_eq_zero_iff.1 hz] at h
      have h2 := limbs_eq_nil.1 h.symm
      show _ = _
      omega
    have HH := Lib.hid hz
    clear hz
    go_wp2_with fail
    go_ret
    exact ⟨by rw [cmpI_eq HZ0.out]; rfl, HBt.out⟩
  · have e1 : ((z.length : Int) == 0) = false := beq_eq_false_iff_ne.2 (by omega)
    have e2 : (z.length == 0) = false := beq_eq_false_iff_ne.2 hz
    have HZ0 : Hid (zv b xs ≠ 0) := by
      intro h
      have h2 := HZ1.out
      rw [h] at h2
      exact hz (by rw [h2]; rfl)
    clear hz
    by_cases hn : zv b xs < 0
    · obtain rfl : b1 = true := by rw [HB1.out]; exact decide_eq_true hn
      have HH := Lib.hid hn
      clear hn
      go_wp2_with fail
      go_ret
      exact ⟨by rw [cmpI_lt HH.out]; rfl, HBt.out⟩
    · obtain rfl : b1 = false := by rw [HB1.out]; exact decide_eq_false hn
      have HH := Lib.hid hn
      clear hn
      go_wp2_with fail
      go_ret
      exact ⟨by rw [cmpI_gt (by have := HH.out; have := HZ0.out; omega)]; rfl, HBt.out⟩
theorem zv_not (b : Bool) (xs : List Int) : zv (!b) xs = -zv b xs := by
  cases b <;> simp [zv]

set_option maxHeartbeats 800000 in
theorem rineg_ok (w : World) (b : Bool) (A : Option Addr) (c : Nat) (xs : List Int) (hx : RN w A c xs) (hs : xs.length ≤ 70368744177664) :
    Calls Try.prog 116 #[.agg #[.bool b, .slice A xs.length c]] w (RetZI (-zv b xs) w) := by
  have HX := Lib.hid hx
  clear hx
  go_enter Try.func116, Try.ntmps116
  go_wp2_with fail
  obtain ⟨W, hW⟩ : ∃ W, W = ((w.alloc (.cells #[.bool b, .slice A xs.length c] 31)).alloc (.cells #[.bool false, .slice none 0 0] 31)) := ⟨_, rfl⟩
  rw [← hW]
  have hBW : Below w.heap.size w W := by rw [hW]; exact (((Below.refl _ _).alloc (Nat.le_refl _) _).alloc (by simp only [size_alloc]; omega) _)
  have vW0 : Vr W (w.heap.size) 31 #[.bool b, .slice A xs.length c] := by rw [hW]; exact ((Vr.new' _ _ _ (by simp only [size_alloc])).alloc _)
  have vW1 : Vr W (w.heap.size + 1) 31 #[.bool false, .slice none 0 0] := by rw [hW]; exact (Vr.new' _ _ _ (by simp only [size_alloc]))
  clear hW
  obtain ⟨gW1, hgW1⟩ : ∃ g, w.heap.size + 1 = g := ⟨_, rfl⟩
  rw [hgW1] at vW1 ⊢
  have hneW01 : w.heap.size ≠ gW1 := by omega
  have hgeW1 : w.heap.size ≤ gW1 := by omega
  have hneW10 : gW1 ≠ w.heap.size := by omega
  have HVW0 := Lib.hid vW0
  have HVW1 := Lib.hid vW1
  have HBW := Lib.hid hBW
  clear hBW vW0 vW1 hgW1
  refine (rimake_ok W (!b) A c xs (HX.out.below HBW.out) hs).mono ?_
  rintro e w1 ⟨b1, A1, c1, z, rfl, HB1, HZ1, hz, hB1⟩
  have dc0 := (HVW1.out.below' hB1).cell 0 rfl
  have dc1 := (HVW1.out.below' hB1).cell 1 rfl
  have df0 := (HVW1.out.below' hB1).thaw 0
  have df1 := (HVW1.out.below' hB1).thaw 1
  have HV1 := Lib.hid (HVW1.out.below' hB1)
  have HBd := Lib.hid (HBW.out.trans (hB1.mono HBW.out.size))
  have HR := Lib.hid hz
  clear hB1 hz
  go_wp2_with fail
  have v3 : Vr ((w1.setCell ⟨gW1, 0, none⟩ (.bool b1)).setCell ⟨gW1, 1, none⟩ (.slice A1 z.length c1)) gW1 31 #[.bool b1, .slice A1 z.length c1] := ((HV1.out.set 0 _).set 1 _)
  have r0 := (HR.out).apart (HV1.out) (nd_int _ _ _ _) 0 (.bool b1)
  have r1 := (r0).apart ((HV1.out).set 0 (.bool b1)) (nd_int _ _ _ _) 1 (.slice A1 z.length c1)
  refine bodyPost_ret (v := .agg #[.bool b1, .slice A1 z.length c1]) (by simp [results, Try.results116, go_sem, v3.cell 0 rfl, v3.cell 1 rfl]) rfl ?_
  exact ⟨_, A1, c1, z, rfl, by rw [zv_not] at HB1; exact HB1, by rw [zv_not] at HZ1; exact HZ1, r1, (below_set (below_set HBd.out hgeW1 _) hgeW1 _)⟩

set_option maxHeartbeats 1600000 in
theorem ricmp_ok (w : World) (b1 b2 : Bool) (A B : Option Addr) (c d : Nat) (xs ys : List Int) (hx : RN w A c xs) (hy : RN w B d ys) (hsx : xs.length ≤ 70368744177664) (hsy : ys.length ≤ 70368744177664) :
    Calls Try.prog 31 #[.agg #[.bool b1, .slice A xs.length c], .agg #[.bool b2, .slice B ys.length d]] w (fun e w' => e = .returned (.int .i64 (cmpI (zv b1 xs) (zv b2 ys))) ∧ Below w.heap.size w w') := by
  have HX := Lib.hid hx
  have HY := Lib.hid hy
  clear hx hy
  go_enter Try.func31, Try.ntmps31
  go_wp2_with fail
  obtain ⟨W, hW⟩ : ∃ W, W = ((w.alloc (.cells #[.bool b1, .slice A xs.length c] 31)).alloc (.cells #[.bool b2, .slice B ys.length d] 31)) := ⟨_, rfl⟩
  rw [← hW]
  have hBW : Below w.heap.size w W := by rw [hW]; exact (((Below.refl _ _).alloc (Nat.le_refl _) _).alloc (by simp only [size_alloc]; omega) _)
  have vW0 : Vr W (w.heap.size) 31 #[.bool b1, .slice A xs.length c] := by rw [hW]; exact ((Vr.new' _ _ _ (by simp only [size_alloc])).alloc _)
  have vW1 : Vr W (w.heap.size + 1) 31 #[.bool b2, .slice B ys.length d] := by rw [hW]; exact (Vr.new' _ _ _ (by simp only [size_alloc]))
  clear hW
  obtain ⟨gW1, hgW1⟩ : ∃ g, w.heap.size + 1 = g := ⟨_, rfl⟩
  rw [hgW1] at vW1 ⊢
  have hneW01 : w.heap.size ≠ gW1 := by omega
  have hgeW1 : w.heap.size ≤ gW1 := by omega
  have hneW10 : gW1 ≠ w.heap.size := by omega
  have HVW0 := Lib.hid vW0
  have HVW1 := Lib.hid vW1
  have HBW := Lib.hid hBW
  clear hBW vW0 vW1 hgW1
  refine (risign_ok W b1 A c xs (HX.out.below HBW.out) hsx).mono ?_
  rintro e w1 ⟨rfl, hB1⟩
  have HVW0ac0 := (HVW0.out.below' hB1).cell 0 rfl
  have HVW0ac1 := (HVW0.out.below' hB1).cell 1 rfl
  have HVW0a := Lib.hid (HVW0.out.below' hB1)
  have HVW1ac0 := (HVW1.out.below' hB1).cell 0 rfl
  have HVW1ac1 := (HVW1.out.below' hB1).cell 1 rfl
  have HVW1a := Lib.hid (HVW1.out.below' hB1)
  have HBa := Lib.hid (HBW.out.trans (hB1.mono HBW.out.size))
  clear hB1
  go_wp2_with fail
  refine (risign_ok w1 b2 B d ys (HY.out.below HBa.out) hsy).mono ?_
  rintro e w2 ⟨rfl, hB2⟩
  have HVW0abc0 := (HVW0a.out.below' hB2).cell 0 rfl
  have HVW0abc1 := (HVW0a.out.below' hB2).cell 1 rfl
  have HVW0ab := Lib.hid (HVW0a.out.below' hB2)
  have HVW1abc0 := (HVW1a.out.below' hB2).cell 0 rfl
  have HVW1abc1 := (HVW1a.out.below' hB2).cell 1 rfl
  have HVW1ab := Lib.hid (HVW1a.out.below' hB2)
  have HBe := Lib.hid (HBa.out.trans (hB2.mono HBa.out.size))
  have HX2 := Lib.hid (HX.out.below HBe.out)
  have HY2 := Lib.hid (HY.out.below HBe.out)
  clear hB2
  rcases zv_sign (b := b1) HX.out.2 with ⟨h1, h2, h3⟩ | ⟨h1, h2, h3⟩ | ⟨h1, h2, h3⟩
  all_goals rcases zv_sign (b := b2) HY.out.2 with ⟨k1, k2, k3⟩ | ⟨k1, k2, k3⟩ | ⟨k1, k2, k3⟩
  all_goals rw [h3, k3]
  all_goals have HH1 := Lib.hid h1
  all_goals have HH2 := Lib.hid h2
  all_goals have HK1 := Lib.hid k1
  all_goals have HK2 := Lib.hid k2
  all_goals clear h1 h2 h3 k1 k2 k3
  all_goals go_wp2_with fail
  all_goals first | (go_ret; exact ⟨by first | rw [cmpI_lt (by have := HH1.out; have := HK1.out; omega)]; rfl | rw [cmpI_gt (by have := HH1.out; have := HK1.out; omega)]; rfl, HBe.out⟩) | skip
  · refine (rcmp_ok _ B A _ _ ys xs HY2.out HX2.out).mono ?_
    rintro e w3 ⟨n, rfl, rfl⟩
    go_wp2_with fail
    go_ret
    exact ⟨by rw [HH2.out, HK2.out, zv_t, zv_t, cmpI_neg]; rfl, below_drewN HBe.out n⟩
  · refine (rcmp_ok _ A B _ _ xs ys HX2.out HY2.out).mono ?_
    rintro e w3 ⟨n, rfl, rfl⟩
    go_wp2_with fail
    go_ret
    exact ⟨by rw [HH1.out, HK1.out, HH2.out, HK2.out]; rfl, below_drewN HBe.out n⟩
  · refine (rcmp_ok _ A B _ _ xs ys HX2.out HY2.out).mono ?_
    rintro e w3 ⟨n, rfl, rfl⟩
    go_wp2_with fail
    go_ret
    exact ⟨by rw [HH2.out, HK2.out, zv_f, zv_f]; rfl, below_drewN HBe.out n⟩

set_option maxHeartbeats 1600000 in
theorem rimul_ok (w : World) (b1 b2 : Bool) (A B : Option Addr) (c d : Nat) (xs ys : List Int) (hx : RN w A c xs) (hy : RN w B d ys) (hs : xs.length + ys.length ≤ 70368744177664) :
    Calls Try.prog 49 #[.agg #[.bool b1, .slice A xs.length c], .agg #[.bool b2, .slice B ys.length d]] w (RetZI (zv b1 xs * zv b2 ys) w) := by
  have HX := Lib.hid hx
  have HY := Lib.hid hy
  clear hx hy
  go_enter Try.func49, Try.ntmps49
  go_wp2_with fail
  obtain ⟨W, hW⟩ : ∃ W, W = ((w.alloc (.cells #[.bool b1, .slice A xs.length c] 31)).alloc (.cells #[.bool b2, .slice B ys.length d] 31)).alloc (.cells #[.bool false, .slice none 0 0] 31) := ⟨_, rfl⟩
  rw [← hW]
  have hB : Below w.heap.size w W := by rw [hW]; exact (((Below.refl _ _).alloc (Nat.le_refl _) _).alloc (by rw [size_alloc]; omega) _).alloc (by rw [size_alloc, size_alloc]; omega) _
  have v0 : Vr W w.heap.size 31 #[.bool b1, .slice A xs.length c] := by rw [hW]; exact ((Vr.new _ _ _).alloc _).alloc _
  have v1 : Vr W (w.heap.size + 1) 31 #[.bool b2, .slice B ys.length d] := by rw [hW, ← size_alloc w (.cells #[.bool b1, .slice A xs.length c] 31)]; exact (Vr.new _ _ _).alloc _
  have v2 : Vr W (w.heap.size + 1 + 1) 31 #[.bool false, .slice none 0 0] := by rw [hW, ← size_alloc w (.cells #[.bool b1, .slice A xs.length c] 31), ← size_alloc (w.alloc (.cells #[.bool b1, .slice A xs.length c] 31)) (.cells #[.bool b2, .slice B ys.length d] 31)]; exact Vr.new _ _ _
  clear hW
  have c00 := v0.cell 0 rfl
  have c01 := v0.cell 1 rfl
  have c10 := v1.cell 0 rfl
  have c11 := v1.cell 1 rfl
  have HV2 := Lib.hid v2
  have HV0 := Lib.hid v0
  have HV1 := Lib.hid v1
  have HB := Lib.hid hB
  have HS := Lib.hid hs
  clear v0 v1 v2 hB hs
  obtain ⟨g2, hg2⟩ : ∃ g2, w.heap.size + 1 + 1 = g2 := ⟨_, rfl⟩
  rw [hg2] at HV2 ⊢
  have hne2 : g2 ≠ w.heap.size := by omega
  have hne3 : g2 ≠ w.heap.size + 1 := by omega
  have hle2 : w.heap.size ≤ g2 := by omega
  clear hg2
  go_region_held3 (fun w' => w'.cell? ⟨w.heap.size, 0, none⟩ = some (.bool b1) ∧ w'.cell? ⟨w.heap.size, 1, none⟩ = some (.slice A xs.length c) ∧ w'.cell? ⟨w.heap.size + 1, 0, none⟩ = some (.bool b2) ∧ w'.cell? ⟨w.heap.size + 1, 1, none⟩ = some (.slice B ys.length d)) (go_keep)
    (first
      | (go_at_call 55
         refine (rmul_ok W.drew A B c d xs ys (HX.out.below HB.out.drew) (HY.out.below HB.out.drew) HS.out).mono ?_
         rintro e w1 ⟨A1, c1, z, rfl, HZ, hz, hB1⟩
         have d00 := (HV0.out.drew.below' hB1).cell 0 rfl
         have d01 := (HV0.out.drew.below' hB1).cell 1 rfl
         have d10 := (HV1.out.drew.below' hB1).cell 0 rfl
         have d11 := (HV1.out.drew.below' hB1).cell 1 rfl
         have HVd := Lib.hid (HV2.out.drew.below' hB1)
         have HV0d := Lib.hid (HV0.out.drew.below' hB1)
         have HV1d := Lib.hid (HV1.out.drew.below' hB1)
         have HBd := Lib.hid (HB.out.drew.trans (hB1.mono HB.out.drew.size))
         have HZd := Lib.hid hz
         clear hB1 hz)
      | (go_at_call 51
         refine (rimake_ok w1 (b1 != b2) A1 c1 z HZd.out (by rw [HZ.out]; exact Nat.le_trans (mul_len HX.out.2 HY.out.2) HS.out)).mono ?_
         rintro e w2 ⟨b3, A3, c3, z3, rfl, HB3, HZ3, hz3, hB3⟩
         have e00 := (HV0d.out.below' hB3).cell 0 rfl
         have e01 := (HV0d.out.below' hB3).cell 1 rfl
         have e10 := (HV1d.out.below' hB3).cell 0 rfl
         have e11 := (HV1d.out.below' hB3).cell 1 rfl
         have d20 := (HVd.out.below' hB3).cell 0 rfl
         have d21 := (HVd.out.below' hB3).cell 1 rfl
         have f20 := (HVd.out.below' hB3).thaw 0
         have f21 := (HVd.out.below' hB3).thaw 1
         have HVe := Lib.hid (HVd.out.below' hB3)
         have HBe := Lib.hid (HBd.out.trans (hB3.mono HBd.out.size))
         have HZe := Lib.hid hz3
         clear hB3 hz3))
  go_wp2_with fail
  have r1 : RN (w2.setCell ⟨g2, 0, none⟩ (.bool b3)) A3 c3 z3 := HZe.out.apart HVe.out (nd_int _ _ _ _) 0 (.bool b3)
  have v1 := HVe.out.set 0 (.bool b3)
  have r2 := r1.apart v1 (nd_int _ _ _ _) 1 (.slice A3 z3.length c3)
  have v2 : Vr ((w2.setCell ⟨g2, 0, none⟩ (.bool b3)).setCell ⟨g2, 1, none⟩ (.slice A3 z3.length c3)) g2 31 #[.bool b3, .slice A3 z3.length c3] := v1.set 1 _
  refine bodyPost_ret (v := .agg #[.bool b3, .slice A3 z3.length c3]) (by simp [results, Try.results49, go_sem, v2.cell 0 rfl, v2.cell 1 rfl]) rfl ?_
  have ez : zv (b1 != b2) z = zv b1 xs * zv b2 ys := by
    rw [← zv_mul]
    have e : V z = V xs * V ys := by
      rw [HZ.out, V_limbs, Int.natCast_mul, Int.toNat_of_nonneg (V_nonneg HX.out.2), Int.toNat_of_nonneg (V_nonneg HY.out.2)]
    unfold zv
    rw [e]
    split
    · rw [Int.neg_mul]
    · rfl
  exact ⟨b3, A3, c3, z3, rfl, by show b3 = _; rw [← ez]; exact HB3.out, by show z3 = _; rw [← ez]; exact HZ3.out, r2, below_set (below_set HBe.out hle2 _) hle2 _⟩


end Go.Proofs.Ytgdlnmhpnlmofaa.M
