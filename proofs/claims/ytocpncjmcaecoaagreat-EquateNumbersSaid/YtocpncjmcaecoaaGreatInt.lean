/- Integers of any size: sign, normal form, comparison, product. -/
import Derived.Test.YtocpncjmcaecoaaGreatVar
namespace Go.Proofs.YtocpncjmcaecoaaGreat.M
set_option maxRecDepth 10000
open Go.RowKit
set_option linter.unusedVariables false
set_option linter.unusedSimpArgs false

/-- An integer's value: a sign and a magnitude. -/
def zv (b : Bool) (xs : List Int) : Int := if b then -V xs else V xs
theorem zv_f (xs : List Int) : zv false xs = V xs := rfl
theorem zv_t (xs : List Int) : zv true xs = -V xs := rfl
theorem zv_abs (b : Bool) {xs : List Int} (h : Lim xs) : (zv b xs).natAbs = (V xs).toNat := by
  have := V_nonneg h
  cases b
  · rw [zv_f]; omega
  · rw [zv_t]; omega
/-- An integer in normal form, in memory that exists; nothing old is changed. -/
def RetZI (z : Int) (w : World) (e : Ending) (w' : World) : Prop := ∃ b A c xs, e = .returned (.agg #[.bool b, .slice A xs.length c]) ∧ Hid (b = decide (z < 0)) ∧ Hid (xs = limbs z.natAbs) ∧ RN w' A c xs ∧ Below w.heap.size w w'
theorem zv_norm (z : Int) : zv (decide (z < 0)) (limbs z.natAbs) = z := by
  unfold zv
  rw [V_limbs]
  by_cases h : z < 0
  · rw [if_pos (by simpa using h)]; omega
  · rw [if_neg (by simpa using h)]; omega

set_option maxHeartbeats 800000 in
theorem sign_ok (w : World) (b : Bool) (A : Option Addr) (c : Nat) (xs : List Int) (hx : RN w A c xs) (hs : xs.length ≤ 70368744177664) :
    Calls Tryz.prog 56 #[.agg #[.bool b, .slice A xs.length c]] w (fun e w' => e = .returned (.int .i64 (cmpI (zv b xs) 0)) ∧ Below w.heap.size w w') := by
  have HX := Lib.hid hx
  clear hx
  go_enter Tryz.func56, Tryz.ntmps56
  go_wp2_with fail
  have hB : Below w.heap.size w (w.alloc (.cells #[.bool b, .slice A xs.length c] 26)) := (Below.refl _ _).alloc (Nat.le_refl _) _
  have HB := Lib.hid hB
  have hV : Vr (w.alloc (.cells #[.bool b, .slice A xs.length c] 26)) w.heap.size 26 #[.bool b, .slice A xs.length c] := Vr.new _ _ _
  refine (bits_ok _ A c xs (HX.out.below hB) hs).mono ?_
  clear hB
  rintro e w1 ⟨v, rfl, HV, hv0, rfl⟩
  have h0 := V_nonneg HX.out.2
  by_cases hz : V xs = 0
  · have hv : v = 0 := HV.out.2 hz
    subst hv
    have HZ := Lib.hid hz
    clear hz h0
    go_wp2_with fail
    go_ret
    refine ⟨?_, HB.out⟩
    have e1 : cmpI (zv b xs) 0 = 0 := by
      cases b
      · rw [zv_f, HZ.out]; rfl
      · rw [zv_t, HZ.out]; rfl
    rw [e1]
    rfl
  · have hv : (v == 0) = false := beq_eq_false_iff_ne.2 (fun h => hz (HV.out.1 h))
    have HZ := Lib.hid hz
    have H0 := Lib.hid h0
    clear hz h0
    cases b
    · go_wp2_with fail
      go_ret
      refine ⟨?_, HB.out⟩
      rw [zv_f, cmpI_gt (by have := HZ.out; have := H0.out; omega)]
      rfl
    · go_wp2_with fail
      go_ret
      refine ⟨?_, HB.out⟩
      rw [zv_t, cmpI_lt (by have := HZ.out; have := H0.out; omega)]
      rfl

set_option maxHeartbeats 800000 in
theorem make_ok (w : World) (b : Bool) (A : Option Addr) (c : Nat) (xs : List Int) (hx : RN w A c xs) (hs : xs.length ≤ 70368744177664) :
    Calls Tryz.prog 86 #[.bool b, .slice A xs.length c] w (RetZI (zv b xs) w) := by
  have HX := Lib.hid hx
  clear hx
  go_enter Tryz.func86, Tryz.ntmps86
  go_wp2_with fail
  have hB : Below w.heap.size w (w.alloc (.cells #[.bool false, .slice none 0 0] 26)) := (Below.refl _ _).alloc (Nat.le_refl _) _
  have hV : Vr (w.alloc (.cells #[.bool false, .slice none 0 0] 26)) w.heap.size 26 #[.bool false, .slice none 0 0] := Vr.new _ _ _
  refine (norm_f _ A c xs (HX.out.below hB) hs).mono ?_
  rintro e w1 ⟨g, c1, z, hg, rfl, HZ, hz, hB1⟩
  have hgg : g ≠ w.heap.size := by
    have : (w.alloc (.cells #[.bool false, .slice none 0 0] 26)).heap.size = w.heap.size + 1 := size_alloc _ _
    omega
  have HB := Lib.hid (hB.trans (hB1.mono hB.size))
  have hV1 := hV.below' hB1
  have hc0 := hV1.cell 0 rfl
  have hc1 := hV1.cell 1 rfl
  have hf0 := hV1.thaw 0
  have hf1 := hV1.thaw 1
  have HR := Lib.hid hz
  have HV := Lib.hid hV1
  have H0 := Lib.hid (V_nonneg HX.out.2)
  have HN : Hid (V z = V xs) := by
    show _ = _
    rw [HZ.out, V_limbs, Int.toNat_of_nonneg H0.out]
  clear hV1 hV hB hB1 hz hg
  cases b
  · go_wp2_with fail
    have hV2 : Vr ((w1.setCell ⟨w.heap.size, 0, none⟩ (.bool false)).setCell ⟨w.heap.size, 1, none⟩ (.slice (some ⟨g, 0, none⟩) z.length c1)) w.heap.size 26 #[.bool false, .slice (some ⟨g, 0, none⟩) z.length c1] := (HV.out.set 0 _).set 1 _
    refine bodyPost_ret (v := .agg #[.bool false, .slice (some ⟨g, 0, none⟩) z.length c1]) (by simp [results, Tryz.results86, go_sem, hV2.cell 0 rfl, hV2.cell 1 rfl]) rfl ?_
    refine ⟨false, some ⟨g, 0, none⟩, c1, z, rfl, ?_, ?_, (HR.out.set (fun ad h => by cases h; exact hgg) _ _).set (fun ad h => by cases h; exact hgg) _ _, below_set (below_set HB.out (Nat.le_refl _) _) (Nat.le_refl _) _⟩
    · show false = _
      rw [zv_f]
      exact (decide_eq_false (by have := H0.out; omega)).symm
    · show z = _
      rw [zv_f, HZ.out]
      congr 1
      have := H0.out
      omega
  · go_wp2_with fail
    have hV2 : Vr ((w1.setCell ⟨w.heap.size, 0, none⟩ (.bool (decide (0 < z.length)))).setCell ⟨w.heap.size, 1, none⟩ (.slice (some ⟨g, 0, none⟩) z.length c1)) w.heap.size 26 #[.bool (decide (0 < z.length)), .slice (some ⟨g, 0, none⟩) z.length c1] := (HV.out.set 0 _).set 1 _
    refine bodyPost_ret (v := .agg #[.bool (decide (0 < z.length)), .slice (some ⟨g, 0, none⟩) z.length c1]) (by simp [results, Tryz.results86, go_sem, hV2.cell 0 rfl, hV2.cell 1 rfl]) rfl ?_
    refine ⟨_, some ⟨g, 0, none⟩, c1, z, rfl, ?_, ?_, (HR.out.set (fun ad h => by cases h; exact hgg) _ _).set (fun ad h => by cases h; exact hgg) _ _, below_set (below_set HB.out (Nat.le_refl _) _) (Nat.le_refl _) _⟩
    · show decide (0 < z.length) = decide (zv true xs < 0)
      rw [zv_t, ← HN.out]
      by_cases h : 0 < z.length
      · have h2 : 0 < V z := by
          have h3 : Nf z := by rw [HZ.out]; exact limbs_nf _
          exact h3.V_pos h
        rw [decide_eq_true h, decide_eq_true (by omega)]
      · have h2 : V z = 0 := by rw [List.length_eq_zero_iff.1 (by omega : z.length = 0)]; rfl
        rw [decide_eq_false h, decide_eq_false (by omega)]
    · show z = _
      rw [zv_t, HZ.out]
      congr 1
      have := H0.out
      omega

theorem mul_len {xs ys : List Int} (hx : Lim xs) (hy : Lim ys) : (limbs ((V xs).toNat * (V ys).toNat)).length ≤ xs.length + ys.length := by
  refine limbs_len ?_
  have h1 := V_lt hx
  have h2 := V_lt hy
  have h3 := V_nonneg hx
  have h4 := V_nonneg hy
  rw [pw_add, Int.natCast_mul, Int.toNat_of_nonneg h3, Int.toNat_of_nonneg h4]
  rcases Int.lt_or_le 0 (V ys) with h | h
  · exact Int.lt_of_lt_of_le (Int.mul_lt_mul_of_pos_right h1 h) (Int.mul_le_mul_of_nonneg_left (Int.le_of_lt h2) (Int.le_of_lt (pw_pos _)))
  · rw [show V ys = 0 by omega, Int.mul_zero]
    exact Int.mul_pos (pw_pos _) (pw_pos _)
theorem zv_mul {b1 b2 : Bool} {xs ys : List Int} : zv (b1 != b2) xs * V ys = zv b1 xs * zv b2 ys := by
  cases b1 <;> cases b2 <;> simp [zv, Int.neg_mul, Int.mul_neg]

set_option maxHeartbeats 1600000 in
theorem imul_ok (w : World) (b1 b2 : Bool) (A B : Option Addr) (c d : Nat) (xs ys : List Int) (hx : RN w A c xs) (hy : RN w B d ys) (hs : xs.length + ys.length ≤ 70368744177664) :
    Calls Tryz.prog 53 #[.agg #[.bool b1, .slice A xs.length c], .agg #[.bool b2, .slice B ys.length d]] w (RetZI (zv b1 xs * zv b2 ys) w) := by
  have HX := Lib.hid hx
  have HY := Lib.hid hy
  clear hx hy
  go_enter Tryz.func53, Tryz.ntmps53
  go_wp2_with fail
  obtain ⟨W, hW⟩ : ∃ W, W = ((w.alloc (.cells #[.bool b1, .slice A xs.length c] 26)).alloc (.cells #[.bool b2, .slice B ys.length d] 26)).alloc (.cells #[.bool false, .slice none 0 0] 26) := ⟨_, rfl⟩
  rw [← hW]
  have hB : Below w.heap.size w W := by rw [hW]; exact (((Below.refl _ _).alloc (Nat.le_refl _) _).alloc (by rw [size_alloc]; omega) _).alloc (by rw [size_alloc, size_alloc]; omega) _
  have v0 : Vr W w.heap.size 26 #[.bool b1, .slice A xs.length c] := by rw [hW]; exact ((Vr.new _ _ _).alloc _).alloc _
  have v1 : Vr W (w.heap.size + 1) 26 #[.bool b2, .slice B ys.length d] := by rw [hW, ← size_alloc w (.cells #[.bool b1, .slice A xs.length c] 26)]; exact (Vr.new _ _ _).alloc _
  have v2 : Vr W (w.heap.size + 1 + 1) 26 #[.bool false, .slice none 0 0] := by rw [hW, ← size_alloc w (.cells #[.bool b1, .slice A xs.length c] 26), ← size_alloc (w.alloc (.cells #[.bool b1, .slice A xs.length c] 26)) (.cells #[.bool b2, .slice B ys.length d] 26)]; exact Vr.new _ _ _
  clear hW
  have c00 := v0.cell 0 rfl
  have c01 := v0.cell 1 rfl
  have c10 := v1.cell 0 rfl
  have c11 := v1.cell 1 rfl
  have HV2 := Lib.hid v2
  have HV0 := Lib.hid v0
  have HV1 := Lib.hid v1
  have HB := Lib.hid hB
  have HS := Lib.hid hs
  clear v0 v1 v2 hB hs
  obtain ⟨g2, hg2⟩ : ∃ g2, w.heap.size + 1 + 1 = g2 := ⟨_, rfl⟩
  rw [hg2] at HV2 ⊢
  have hne2 : g2 ≠ w.heap.size := by omega
  have hne3 : g2 ≠ w.heap.size + 1 := by omega
  have hle2 : w.heap.size ≤ g2 := by omega
  clear hg2
  go_region_held3 (fun w' => w'.cell? ⟨w.heap.size, 0, none⟩ = some (.bool b1) ∧ w'.cell? ⟨w.heap.size, 1, none⟩ = some (.slice A xs.length c) ∧ w'.cell? ⟨w.heap.size + 1, 0, none⟩ = some (.bool b2) ∧ w'.cell? ⟨w.heap.size + 1, 1, none⟩ = some (.slice B ys.length d)) (go_keep)
    (first
      | (go_at_call 54
         refine (mul_ok W.drew A B c d xs ys (HX.out.below HB.out.drew) (HY.out.below HB.out.drew) HS.out).mono ?_
         rintro e w1 ⟨A1, c1, z, rfl, HZ, hz, hB1⟩
         have d00 := (HV0.out.drew.below' hB1).cell 0 rfl
         have d01 := (HV0.out.drew.below' hB1).cell 1 rfl
         have d10 := (HV1.out.drew.below' hB1).cell 0 rfl
         have d11 := (HV1.out.drew.below' hB1).cell 1 rfl
         have HVd := Lib.hid (HV2.out.drew.below' hB1)
         have HV0d := Lib.hid (HV0.out.drew.below' hB1)
         have HV1d := Lib.hid (HV1.out.drew.below' hB1)
         have HBd := Lib.hid (HB.out.drew.trans (hB1.mono HB.out.drew.size))
         have HZd := Lib.hid hz
         clear hB1 hz)
      | (go_at_call 86
         refine (make_ok w1 (b1 != b2) A1 c1 z HZd.out (by rw [HZ.out]; exact Nat.le_trans (mul_len HX.out.2 HY.out.2) HS.out)).mono ?_
         rintro e w2 ⟨b3, A3, c3, z3, rfl, HB3, HZ3, hz3, hB3⟩
         have e00 := (HV0d.out.below' hB3).cell 0 rfl
         have e01 := (HV0d.out.below' hB3).cell 1 rfl
         have e10 := (HV1d.out.below' hB3).cell 0 rfl
         have e11 := (HV1d.out.below' hB3).cell 1 rfl
         have d20 := (HVd.out.below' hB3).cell 0 rfl
         have d21 := (HVd.out.below' hB3).cell 1 rfl
         have f20 := (HVd.out.below' hB3).thaw 0
         have f21 := (HVd.out.below' hB3).thaw 1
         have HVe := Lib.hid (HVd.out.below' hB3)
         have HBe := Lib.hid (HBd.out.trans (hB3.mono HBd.out.size))
         have HZe := Lib.hid hz3
         clear hB3 hz3))
  go_wp2_with fail
  have r1 : RN (w2.setCell ⟨g2, 0, none⟩ (.bool b3)) A3 c3 z3 := HZe.out.apart HVe.out (nd_int _ _ _ _) 0 (.bool b3)
  have v1 := HVe.out.set 0 (.bool b3)
  have r2 := r1.apart v1 (nd_int _ _ _ _) 1 (.slice A3 z3.length c3)
  have v2 : Vr ((w2.setCell ⟨g2, 0, none⟩ (.bool b3)).setCell ⟨g2, 1, none⟩ (.slice A3 z3.length c3)) g2 26 #[.bool b3, .slice A3 z3.length c3] := v1.set 1 _
  refine bodyPost_ret (v := .agg #[.bool b3, .slice A3 z3.length c3]) (by simp [results, Tryz.results53, go_sem, v2.cell 0 rfl, v2.cell 1 rfl]) rfl ?_
  have ez : zv (b1 != b2) z = zv b1 xs * zv b2 ys := by
    rw [← zv_mul]
    have e : V z = V xs * V ys := by
      rw [HZ.out, V_limbs, Int.natCast_mul, Int.toNat_of_nonneg (V_nonneg HX.out.2), Int.toNat_of_nonneg (V_nonneg HY.out.2)]
    unfold zv
    rw [e]
    split
    · rw [Int.neg_mul]
    · rfl
  exact ⟨b3, A3, c3, z3, rfl, by show b3 = _; rw [← ez]; exact HB3.out, by show z3 = _; rw [← ez]; exact HZ3.out, r2, below_set (below_set HBe.out hle2 _) hle2 _⟩

theorem cmpI_neg (a b : Int) : cmpI (-a) (-b) = cmpI b a := by
  rcases (show a < b ∨ a = b ∨ b < a by omega) with h | h | h
  · rw [cmpI_gt h, cmpI_gt (by omega)]
  · rw [cmpI_eq h.symm, cmpI_eq (by omega)]
  · rw [cmpI_lt h, cmpI_lt (by omega)]
theorem zv_sign {b : Bool} {xs : List Int} (h : Lim xs) : (zv b xs < 0 ∧ b = true ∧ cmpI (zv b xs) 0 = -1) ∨ (zv b xs = 0 ∧ V xs = 0 ∧ cmpI (zv b xs) 0 = 0) ∨ (0 < zv b xs ∧ b = false ∧ cmpI (zv b xs) 0 = 1) := by
  have h0 := V_nonneg h
  rcases (show zv b xs < 0 ∨ zv b xs = 0 ∨ 0 < zv b xs by omega) with h1 | h1 | h1
  · refine .inl ⟨h1, ?_, cmpI_lt h1⟩
    cases b
    · rw [zv_f] at h1; omega
    · rfl
  · refine .inr (.inl ⟨h1, ?_, cmpI_eq h1⟩)
    cases b
    · rw [zv_f] at h1; omega
    · rw [zv_t] at h1; omega
  · refine .inr (.inr ⟨h1, ?_, cmpI_gt h1⟩)
    cases b
    · rfl
    · rw [zv_t] at h1; omega

set_option maxHeartbeats 1600000 in
theorem icmp_ok (w : World) (b1 b2 : Bool) (A B : Option Addr) (c d : Nat) (xs ys : List Int) (hx : RN w A c xs) (hy : RN w B d ys) (hsx : xs.length ≤ 70368744177664) (hsy : ys.length ≤ 70368744177664) :
    Calls Tryz.prog 57 #[.agg #[.bool b1, .slice A xs.length c], .agg #[.bool b2, .slice B ys.length d]] w (fun e w' => e = .returned (.int .i64 (cmpI (zv b1 xs) (zv b2 ys))) ∧ Below w.heap.size w w') := by
  have HX := Lib.hid hx
  have HY := Lib.hid hy
  clear hx hy
  go_enter Tryz.func57, Tryz.ntmps57
  go_wp2_with fail
  obtain ⟨W, hW⟩ : ∃ W, W = (w.alloc (.cells #[.bool b1, .slice A xs.length c] 26)).alloc (.cells #[.bool b2, .slice B ys.length d] 26) := ⟨_, rfl⟩
  rw [← hW]
  have hB : Below w.heap.size w W := by rw [hW]; exact ((Below.refl _ _).alloc (Nat.le_refl _) _).alloc (by rw [size_alloc]; omega) _
  have v0 : Vr W w.heap.size 26 #[.bool b1, .slice A xs.length c] := by rw [hW]; exact (Vr.new _ _ _).alloc _
  have v1 : Vr W (w.heap.size + 1) 26 #[.bool b2, .slice B ys.length d] := by rw [hW, ← size_alloc w (.cells #[.bool b1, .slice A xs.length c] 26)]; exact Vr.new _ _ _
  clear hW
  have c00 := v0.cell 0 rfl
  have c01 := v0.cell 1 rfl
  have c10 := v1.cell 0 rfl
  have c11 := v1.cell 1 rfl
  have HV0 := Lib.hid v0
  have HV1 := Lib.hid v1
  have HB := Lib.hid hB
  clear v0 v1 hB
  go_region_held3 (fun w' => w'.cell? ⟨w.heap.size, 0, none⟩ = some (.bool b1) ∧ w'.cell? ⟨w.heap.size, 1, none⟩ = some (.slice A xs.length c) ∧ w'.cell? ⟨w.heap.size + 1, 0, none⟩ = some (.bool b2) ∧ w'.cell? ⟨w.heap.size + 1, 1, none⟩ = some (.slice B ys.length d)) (go_keep)
    (first
      | (go_at_call_of 56 A
         refine (sign_ok W.drew b1 A c xs (HX.out.below HB.out.drew) hsx).mono ?_
         rintro e w1 ⟨rfl, hB1⟩
         have d00 := (HV0.out.drew.below' hB1).cell 0 rfl
         have d01 := (HV0.out.drew.below' hB1).cell 1 rfl
         have d10 := (HV1.out.drew.below' hB1).cell 0 rfl
         have d11 := (HV1.out.drew.below' hB1).cell 1 rfl
         have HV0d := Lib.hid (HV0.out.drew.below' hB1)
         have HV1d := Lib.hid (HV1.out.drew.below' hB1)
         have HBd := Lib.hid (HB.out.drew.trans (hB1.mono HB.out.drew.size))
         clear hB1)
      | (go_at_call_of 56 B
         refine (sign_ok w1 b2 B d ys (HY.out.below HBd.out) hsy).mono ?_
         rintro e w2 ⟨rfl, hB3⟩
         have e00 := (HV0d.out.below' hB3).cell 0 rfl
         have e01 := (HV0d.out.below' hB3).cell 1 rfl
         have e10 := (HV1d.out.below' hB3).cell 0 rfl
         have e11 := (HV1d.out.below' hB3).cell 1 rfl
         have HBe := Lib.hid (HBd.out.trans (hB3.mono HBd.out.size))
         clear hB3))
  clear c00 c01 c10 c11 d00 d01 d10 d11
  have HX2 := Lib.hid (HX.out.below HBe.out)
  have HY2 := Lib.hid (HY.out.below HBe.out)
  rcases zv_sign (b := b1) HX.out.2 with ⟨h1, h2, h3⟩ | ⟨h1, h2, h3⟩ | ⟨h1, h2, h3⟩
  all_goals rcases zv_sign (b := b2) HY.out.2 with ⟨k1, k2, k3⟩ | ⟨k1, k2, k3⟩ | ⟨k1, k2, k3⟩
  all_goals rw [h3, k3]
  all_goals have HH1 := Lib.hid h1
  all_goals have HH2 := Lib.hid h2
  all_goals have HK1 := Lib.hid k1
  all_goals have HK2 := Lib.hid k2
  all_goals clear h1 h2 h3 k1 k2 k3
  all_goals go_wp2_with fail
  all_goals first | (go_ret; exact ⟨by first | rw [cmpI_lt (by have := HH1.out; have := HK1.out; omega)]; rfl | rw [cmpI_gt (by have := HH1.out; have := HK1.out; omega)]; rfl, HBe.out⟩) | skip
  · refine (cmp_ok _ B A _ _ ys xs HY2.out HX2.out).mono ?_
    rintro e w3 ⟨n, rfl, rfl⟩
    go_wp2_with fail
    go_ret
    exact ⟨by rw [HH2.out, HK2.out, zv_t, zv_t, cmpI_neg]; rfl, below_drewN HBe.out n⟩
  · refine (cmp_ok _ A B _ _ xs ys HX2.out HY2.out).mono ?_
    rintro e w3 ⟨n, rfl, rfl⟩
    go_wp2_with fail
    go_ret
    exact ⟨by rw [HH1.out, HK1.out, HH2.out, HK2.out]; rfl, below_drewN HBe.out n⟩
  · refine (cmp_ok _ A B _ _ xs ys HX2.out HY2.out).mono ?_
    rintro e w3 ⟨n, rfl, rfl⟩
    go_wp2_with fail
    go_ret
    exact ⟨by rw [HH2.out, HK2.out, zv_f, zv_f]; rfl, below_drewN HBe.out n⟩

set_option maxHeartbeats 800000 in
theorem iof_ok (w : World) (n : Int) (h0 : -9223372036854775808 ≤ n) (h1 : n ≤ 9223372036854775807) :
    Calls Tryz.prog 74 #[.int .i64 n] w (RetZI n w) := by
  have hB : Below w.heap.size w (w.alloc (.cells #[.bool false, .slice none 0 0] 26)) := (Below.refl _ _).alloc (Nat.le_refl _) _
  have hV : Vr (w.alloc (.cells #[.bool false, .slice none 0 0] 26)) w.heap.size 26 #[.bool false, .slice none 0 0] := Vr.new _ _ _
  have HB := Lib.hid hB
  have HV := Lib.hid hV
  clear hB hV
  rcases Int.lt_or_le n 0 with hn | hn
  · have hlt : decide (n < 0) = true := decide_eq_true hn
    have e1 : IntKind.i64.wrap (n + 1) = n + 1 := IntWalk.i64_in _ (by omega)
    have e2 : IntKind.i64.wrap (-(n + 1)) = -(n + 1) := IntWalk.i64_in _ (by omega)
    have e3 : IntKind.u64.wrap (-(n + 1)) = -(n + 1) := IntWalk.u64_in _ (by omega)
    have e4 : IntKind.u64.wrap (-(n + 1) + 1) = -n := by rw [IntWalk.u64_in _ (by omega)]; omega
    go_enter Tryz.func74, Tryz.ntmps74
    go_wp2_with fail
    refine (of_ok _ (-n) (by omega) (by omega)).mono ?_
    rintro e w1 ⟨A, c, z, rfl, HZ, hz, hB1⟩
    have v1 := HV.out.below' hB1
    have c0 := v1.cell 0 rfl
    have c1 := v1.cell 1 rfl
    have f0 := v1.thaw 0
    have f1 := v1.thaw 1
    have HV1 := Lib.hid v1
    have HB1 := Lib.hid (HB.out.trans (hB1.mono HB.out.size))
    have HR := Lib.hid hz
    clear v1 hB1 hz
    go_wp2_with fail
    have r1 := HR.out.apart HV1.out (nd_int _ _ _ _) 0 (.bool true)
    have v2 := HV1.out.set 0 (.bool true)
    have r2 := r1.apart v2 (nd_int _ _ _ _) 1 (.slice A z.length c)
    have v3 : Vr ((w1.setCell ⟨w.heap.size, 0, none⟩ (.bool true)).setCell ⟨w.heap.size, 1, none⟩ (.slice A z.length c)) w.heap.size 26 #[.bool true, .slice A z.length c] := v2.set 1 _
    refine bodyPost_ret (v := .agg #[.bool true, .slice A z.length c]) (by simp [results, Tryz.results74, go_sem, v3.cell 0 rfl, v3.cell 1 rfl]) rfl ?_
    exact ⟨true, A, c, z, rfl, (decide_eq_true hn).symm, by show z = _; rw [HZ.out]; congr 1; omega, r2, below_set (below_set HB1.out (Nat.le_refl _) _) (Nat.le_refl _) _⟩
  · have hlt : decide (n < 0) = false := decide_eq_false (by omega)
    have e3 : IntKind.u64.wrap n = n := IntWalk.u64_in _ (by omega)
    go_enter Tryz.func74, Tryz.ntmps74
    go_wp2_with fail
    refine (of_ok _ n (by omega) (by omega)).mono ?_
    rintro e w1 ⟨A, c, z, rfl, HZ, hz, hB1⟩
    have v1 := HV.out.below' hB1
    have c0 := v1.cell 0 rfl
    have c1 := v1.cell 1 rfl
    have f0 := v1.thaw 0
    have f1 := v1.thaw 1
    have HV1 := Lib.hid v1
    have HB1 := Lib.hid (HB.out.trans (hB1.mono HB.out.size))
    have HR := Lib.hid hz
    clear v1 hB1 hz
    go_wp2_with fail
    have r1 := HR.out.apart HV1.out (nd_int _ _ _ _) 0 (.bool false)
    have v2 := HV1.out.set 0 (.bool false)
    have r2 := r1.apart v2 (nd_int _ _ _ _) 1 (.slice A z.length c)
    have v3 : Vr ((w1.setCell ⟨w.heap.size, 0, none⟩ (.bool false)).setCell ⟨w.heap.size, 1, none⟩ (.slice A z.length c)) w.heap.size 26 #[.bool false, .slice A z.length c] := v2.set 1 _
    refine bodyPost_ret (v := .agg #[.bool false, .slice A z.length c]) (by simp [results, Tryz.results74, go_sem, v3.cell 0 rfl, v3.cell 1 rfl]) rfl ?_
    exact ⟨false, A, c, z, rfl, (decide_eq_false (by omega)).symm, by show z = _; rw [HZ.out]; congr 1; omega, r2, below_set (below_set HB1.out (Nat.le_refl _) _) (Nat.le_refl _) _⟩

end Go.Proofs.YtocpncjmcaecoaaGreat.M
