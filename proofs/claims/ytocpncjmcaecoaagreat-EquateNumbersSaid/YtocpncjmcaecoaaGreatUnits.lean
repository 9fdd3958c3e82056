/- Rounding by the program: units. -/
import Derived.Test.YtocpncjmcaecoaaGreatDec
namespace Go.Proofs.YtocpncjmcaecoaaGreat.M
set_option maxRecDepth 10000
open Go.RowKit
set_option linter.unusedVariables false
set_option linter.unusedSimpArgs false

set_option maxHeartbeats 6400000 in
theorem units_ok (w : World) (b : Bool) (A B : Option Addr) (c d : Nat) (xs ys : List Int) (mode : Int) (hx : RN w A c xs) (hy : RN w B d ys) (hsx : xs.length ≤ 35184372088000) (hsy : ys.length ≤ 35184372088000) (hm : 1 ≤ mode ∧ mode ≤ 7) :
    Calls Tryz.prog 73 #[.agg #[.bool b, .slice A xs.length c, .slice B ys.length d], .int .i64 0, .int .i64 mode] w (RetZI (rnd (qv b xs ys) mode) w) := by
  have HX := Lib.hid hx
  have HY := Lib.hid hy
  clear hx hy
  go_enter Tryz.func73, Tryz.ntmps73
  obtain ⟨q, hq⟩ : ∃ q, qv b xs ys = q := ⟨_, rfl⟩
  have HQV := Lib.hid hq
  rw [hq]
  clear hq
  go_upto_region 1 with fail
  obtain ⟨W, hW⟩ : ∃ W, W = ((w.alloc (.cells #[.bool b, .slice A xs.length c, .slice B ys.length d] 28)).alloc (.cells #[.bool false, .slice none 0 0] 26)) := ⟨_, rfl⟩
  rw [← hW]
  have H_W : Mo w W [(w.heap.size, 28, #[.bool b, .slice A xs.length c, .slice B ys.length d]), (w.heap.size + 1, 26, #[.bool false, .slice none 0 0])] [] := by
    rw [hW]
    have h := (((Mo.start w).alloc (t := 28) (cs := #[.bool b, .slice A xs.length c, .slice B ys.length d]) (nd_rat _ _ _ _ _ _ _)).alloc (t := 26) (cs := #[.bool false, .slice none 0 0]) (nd_int _ _ _ _))
    simp only [size_alloc, List.nil_append, List.cons_append] at h
    exact h
  clear hW
  obtain ⟨gW1, hgW1⟩ : ∃ g, w.heap.size + 1 = g := ⟨_, rfl⟩
  rw [hgW1] at H_W ⊢
  clear hgW1
  have neW01 : w.heap.size ≠ gW1 := H_W.apart 0 1 _ _ _ _ _ _ rfl rfl (by decide)
  have neW10 : gW1 ≠ w.heap.size := H_W.apart 1 0 _ _ _ _ _ _ rfl rfl (by decide)
  have H_W := Lib.hid H_W
  have k0Wc0 := ((H_W.out.var 0 rfl)).cell 0 rfl
  have k0Wc1 := ((H_W.out.var 0 rfl)).cell 1 rfl
  have k0Wc2 := ((H_W.out.var 0 rfl)).cell 2 rfl
  go_wp2_with fail
  refine (qnorm_ok W b A B c d xs ys (HX.out.below H_W.out.below) (HY.out.below H_W.out.below) (by omega) (by omega)).mono ?_
  rw [HQV.out]
  rintro e_ w1 ⟨b1, A1, c1, x, B1, d1, y, rfl, HQ1, HQ2, HQ3, hx1, hy1, hB⟩
  have H_w1 := Lib.hid (Mo.num (Mo.num (Mo.call H_W.out hB) hx1) hy1)
  clear hB hx1 hy1
  go_upto_region 2 with fail
  obtain ⟨T, hT⟩ : ∃ T, T = w1.alloc (.cells #[.bool b1, .slice A1 x.length c1, .slice B1 y.length d1] 28) := ⟨_, rfl⟩
  rw [← hT]
  have H_T : Hid (Mo w T _ _) := Lib.hid (by rw [hT]; exact H_w1.out.alloc (t := 28) (cs := #[.bool b1, .slice A1 x.length c1, .slice B1 y.length d1]) (nd_rat _ _ _ _ _ _ _))
  clear hT
  have k2Tc0 := ((H_T.out.var 2 rfl)).cell 0 rfl
  have k2Tc1 := ((H_T.out.var 2 rfl)).cell 1 rfl
  have k2Tc2 := ((H_T.out.var 2 rfl)).cell 2 rfl
  have HLX : Hid (x.length ≤ xs.length) := by show _ ≤ _; rw [HQ2.out, ← HQV.out]; exact (qlen HX.out.2 HY.out.2).1
  have HLY : Hid (y.length ≤ ys.length + 1) := by show _ ≤ _; rw [HQ3.out, ← HQV.out]; exact (qlen HX.out.2 HY.out.2).2
  go_wp2_with fail
  refine (make_ok T false B1 d1 y (H_T.out.rn 1 rfl) (by have := HLY.out; omega)).mono ?_
  rintro e_ w2 ⟨b2, A2, c2, z, rfl, HB2, HZ2, hz2, hB⟩
  have H_w2 := Lib.hid (Mo.num (Mo.call H_T.out hB) hz2)
  obtain rfl : b2 = false := by rw [HB2.out, zv_f, HQ3.out, V_limbs]; exact decide_eq_false (by omega)
  have HVZ : Hid (V z = (q.den : Int)) := by show _ = _; rw [HZ2.out, zv_f, HQ3.out, V_limbs, V_limbs]; omega
  have HLZ : Hid (z.length ≤ ys.length + 1) := by show _ ≤ _; rw [HZ2.out, zv_f, HQ3.out, V_limbs, Int.natAbs_natCast, ← HQ3.out]; exact HLY.out
  clear hB hz2
  go_upto_region 3 with fail
  obtain ⟨Y, hY⟩ : ∃ Y, Y = w2.alloc (.cells #[.bool false, .slice A2 z.length c2] 26) := ⟨_, rfl⟩
  rw [← hY]
  have H_Y : Hid (Mo w Y _ _) := Lib.hid (by rw [hY]; exact H_w2.out.alloc (t := 26) (cs := #[.bool false, .slice A2 z.length c2]) (nd_int _ _ _ _))
  clear hY
  have HNUM : Hid (zv b1 x = q.num) := by show _ = _; rw [HQ1.out, HQ2.out]; exact zv_norm _
  go_cut [9, 10] (fun s9 s10 wc => ∃ (g9 g10 : Nat) (b9 : Bool) (A9 : Option Addr) (c9 : Nat) (z9 : List Int) (b10 : Bool) (A10 : Option Addr) (c10 : Nat) (z10 : List Int), s9 = .pointer (some ⟨g9, 0, none⟩) ∧ s10 = .pointer (some ⟨g10, 0, none⟩) ∧ Hid (b9 = decide (q.num / q.den < 0)) ∧ Hid (z9 = limbs (q.num / q.den).natAbs) ∧ Hid (b10 = decide (q.num % q.den < 0)) ∧ Hid (z10 = limbs (q.num % q.den).natAbs) ∧ Hid (Mo w wc [(w.heap.size, 28, #[.bool b, .slice A xs.length c, .slice B ys.length d]), (gW1, 26, #[.bool false, .slice none 0 0]), (w1.heap.size, 28, #[.bool b1, .slice A1 x.length c1, .slice B1 y.length d1]), (w2.heap.size, 26, #[.bool false, .slice A2 z.length c2]), (g9, 26, #[.bool b9, .slice A9 z9.length c9]), (g10, 26, #[.bool b10, .slice A10 z10.length c10])] [(A1, c1, x), (B1, d1, y), (A2, c2, z), (A9, c9, z9), (A10, c10, z10)]))
  case first =>
    have k2Yc0 := ((H_Y.out.var 2 rfl)).cell 0 rfl
    have k2Yc1 := ((H_Y.out.var 2 rfl)).cell 1 rfl
    have k2Yc2 := ((H_Y.out.var 2 rfl)).cell 2 rfl
    have k3Yc0 := ((H_Y.out.var 3 rfl)).cell 0 rfl
    have k3Yc1 := ((H_Y.out.var 3 rfl)).cell 1 rfl
    have neY01 : w.heap.size ≠ gW1 := H_Y.out.apart 0 1 _ _ _ _ _ _ rfl rfl (by decide)
    have neY02 : w.heap.size ≠ w1.heap.size := H_Y.out.apart 0 2 _ _ _ _ _ _ rfl rfl (by decide)
    have neY03 : w.heap.size ≠ w2.heap.size := H_Y.out.apart 0 3 _ _ _ _ _ _ rfl rfl (by decide)
    have neY10 : gW1 ≠ w.heap.size := H_Y.out.apart 1 0 _ _ _ _ _ _ rfl rfl (by decide)
    have neY12 : gW1 ≠ w1.heap.size := H_Y.out.apart 1 2 _ _ _ _ _ _ rfl rfl (by decide)
    have neY13 : gW1 ≠ w2.heap.size := H_Y.out.apart 1 3 _ _ _ _ _ _ rfl rfl (by decide)
    have neY20 : w1.heap.size ≠ w.heap.size := H_Y.out.apart 2 0 _ _ _ _ _ _ rfl rfl (by decide)
    have neY21 : w1.heap.size ≠ gW1 := H_Y.out.apart 2 1 _ _ _ _ _ _ rfl rfl (by decide)
    have neY23 : w1.heap.size ≠ w2.heap.size := H_Y.out.apart 2 3 _ _ _ _ _ _ rfl rfl (by decide)
    have neY30 : w2.heap.size ≠ w.heap.size := H_Y.out.apart 3 0 _ _ _ _ _ _ rfl rfl (by decide)
    have neY31 : w2.heap.size ≠ gW1 := H_Y.out.apart 3 1 _ _ _ _ _ _ rfl rfl (by decide)
    have neY32 : w2.heap.size ≠ w1.heap.size := H_Y.out.apart 3 2 _ _ _ _ _ _ rfl rfl (by decide)
    have H_Yd := Lib.hid H_Y.out.drew
    first
    | go_region_held3 (fun w' => w'.cell? ⟨w1.heap.size, 0, none⟩ = some (.bool b1) ∧ w'.cell? ⟨w1.heap.size, 1, none⟩ = some (.slice A1 x.length c1) ∧ w'.cell? ⟨w1.heap.size, 2, none⟩ = some (.slice B1 y.length d1) ∧ w'.cell? ⟨w2.heap.size, 0, none⟩ = some (.bool false) ∧ w'.cell? ⟨w2.heap.size, 1, none⟩ = some (.slice A2 z.length c2)) (go_keep)
       (first
        | (go_at_call 102
           refine (power0_ok _).mono ?_
           rintro e_ a1 ⟨b4, A4, c4, p4, rfl, HB4, HZ4, hz4, hB⟩
           have H_a1 := Lib.hid (Mo.num (Mo.call (by first | exact H_Yd.out | exact ((H_Yd.out).alloc' (Y.heap.size) rfl (nd_int false none 0 0)) | exact ((((H_Yd.out).alloc' (Y.heap.size) rfl (nd_int false none 0 0))).alloc' (Y.heap.size + 1) (by first | rfl | (simp only [size_alloc]; done) | (simp only [size_alloc]; rfl)) (nd_int false none 0 0))) hB) hz4)
           have k2a1c0 := ((H_a1.out.var 2 rfl)).cell 0 rfl
           have k2a1c1 := ((H_a1.out.var 2 rfl)).cell 1 rfl
           have k2a1c2 := ((H_a1.out.var 2 rfl)).cell 2 rfl
           have k3a1c0 := ((H_a1.out.var 3 rfl)).cell 0 rfl
           have k3a1c1 := ((H_a1.out.var 3 rfl)).cell 1 rfl
           try have x0c0a1 := (H_a1.out.var 4 rfl).cell 0 rfl
           try have x0f0a1 := (H_a1.out.var 4 rfl).thaw 0
           try have x0c1a1 := (H_a1.out.var 4 rfl).cell 1 rfl
           try have x0f1a1 := (H_a1.out.var 4 rfl).thaw 1
           try have x0n2a1 := H_a1.out.apart 4 2 _ _ _ _ _ _ rfl rfl (by decide)
           try have x0n3a1 := H_a1.out.apart 4 3 _ _ _ _ _ _ rfl rfl (by decide)
           try have x0m1a1 := H_a1.out.apart 4 5 _ _ _ _ _ _ rfl rfl (by decide)
           try have x1c0a1 := (H_a1.out.var 5 rfl).cell 0 rfl
           try have x1f0a1 := (H_a1.out.var 5 rfl).thaw 0
           try have x1c1a1 := (H_a1.out.var 5 rfl).cell 1 rfl
           try have x1f1a1 := (H_a1.out.var 5 rfl).thaw 1
           try have x1n2a1 := H_a1.out.apart 5 2 _ _ _ _ _ _ rfl rfl (by decide)
           try have x1n3a1 := H_a1.out.apart 5 3 _ _ _ _ _ _ rfl rfl (by decide)
           try have x1m0a1 := H_a1.out.apart 5 4 _ _ _ _ _ _ rfl rfl (by decide)
           have HLP : Hid (p4.length ≤ 1) := by show _ ≤ _; rw [HZ4.out]; exact limbs_len (m := 1) (by decide)
           clear hB hz4)
        | (go_at_call 53
           refine (imul_ok _ b1 b4 A1 A4 c1 c4 x p4 (by first | exact (H_a1.out).rn 0 rfl | exact (((H_a1.out).alloc' (a1.heap.size) rfl (nd_int false none 0 0))).rn 0 rfl | exact (((((H_a1.out).alloc' (a1.heap.size) rfl (nd_int false none 0 0))).alloc' (a1.heap.size + 1) (by first | rfl | (simp only [size_alloc]; done) | (simp only [size_alloc]; rfl)) (nd_int false none 0 0))).rn 0 rfl) (by first | exact (H_a1.out).rn 3 rfl | exact (((H_a1.out).alloc' (a1.heap.size) rfl (nd_int false none 0 0))).rn 3 rfl | exact (((((H_a1.out).alloc' (a1.heap.size) rfl (nd_int false none 0 0))).alloc' (a1.heap.size + 1) (by first | rfl | (simp only [size_alloc]; done) | (simp only [size_alloc]; rfl)) (nd_int false none 0 0))).rn 3 rfl) (by have := HLX.out; have := HLP.out; omega)).mono ?_
           rintro e_ a2 ⟨b5, A5, c5, n5, rfl, HB5, HZ5, hz5, hB⟩
           have H_a2 := Lib.hid (Mo.num (Mo.call (by first | exact H_a1.out | exact ((H_a1.out).alloc' (a1.heap.size) rfl (nd_int false none 0 0)) | exact ((((H_a1.out).alloc' (a1.heap.size) rfl (nd_int false none 0 0))).alloc' (a1.heap.size + 1) (by first | rfl | (simp only [size_alloc]; done) | (simp only [size_alloc]; rfl)) (nd_int false none 0 0))) hB) hz5)
           have k2a2c0 := ((H_a2.out.var 2 rfl)).cell 0 rfl
           have k2a2c1 := ((H_a2.out.var 2 rfl)).cell 1 rfl
           have k2a2c2 := ((H_a2.out.var 2 rfl)).cell 2 rfl
           have k3a2c0 := ((H_a2.out.var 3 rfl)).cell 0 rfl
           have k3a2c1 := ((H_a2.out.var 3 rfl)).cell 1 rfl
           try have x0c0a2 := (H_a2.out.var 4 rfl).cell 0 rfl
           try have x0f0a2 := (H_a2.out.var 4 rfl).thaw 0
           try have x0c1a2 := (H_a2.out.var 4 rfl).cell 1 rfl
           try have x0f1a2 := (H_a2.out.var 4 rfl).thaw 1
           try have x0n2a2 := H_a2.out.apart 4 2 _ _ _ _ _ _ rfl rfl (by decide)
           try have x0n3a2 := H_a2.out.apart 4 3 _ _ _ _ _ _ rfl rfl (by decide)
           try have x0m1a2 := H_a2.out.apart 4 5 _ _ _ _ _ _ rfl rfl (by decide)
           try have x1c0a2 := (H_a2.out.var 5 rfl).cell 0 rfl
           try have x1f0a2 := (H_a2.out.var 5 rfl).thaw 0
           try have x1c1a2 := (H_a2.out.var 5 rfl).cell 1 rfl
           try have x1f1a2 := (H_a2.out.var 5 rfl).thaw 1
           try have x1n2a2 := H_a2.out.apart 5 2 _ _ _ _ _ _ rfl rfl (by decide)
           try have x1n3a2 := H_a2.out.apart 5 3 _ _ _ _ _ _ rfl rfl (by decide)
           try have x1m0a2 := H_a2.out.apart 5 4 _ _ _ _ _ _ rfl rfl (by decide)
           have HLN : Hid (n5.length ≤ xs.length + 1) := by show _ ≤ _; rw [HZ5.out]; exact Nat.le_trans (zmul_len (by first | exact (H_a1.out.rn 0 rfl).2) (H_a1.out.rn 3 rfl).2) (by have := HLX.out; have := HLP.out; omega)
           have HEN : Hid (zv b5 n5 = q.num) := by show _ = _; rw [HB5.out, HZ5.out, zv_norm, HNUM.out, HB4.out, HZ4.out, zv_norm, Int.mul_one]
           clear hB hz5)
        | (go_at_call 59
           refine (idivMod_ok _ b5 A5 A2 c5 c2 n5 z (by first | exact (H_a2.out).rn 4 rfl | exact (((H_a2.out).alloc' (a2.heap.size) rfl (nd_int false none 0 0))).rn 4 rfl | exact (((((H_a2.out).alloc' (a2.heap.size) rfl (nd_int false none 0 0))).alloc' (a2.heap.size + 1) (by first | rfl | (simp only [size_alloc]; done) | (simp only [size_alloc]; rfl)) (nd_int false none 0 0))).rn 4 rfl) (by first | exact (H_a2.out).rn 2 rfl | exact (((H_a2.out).alloc' (a2.heap.size) rfl (nd_int false none 0 0))).rn 2 rfl | exact (((((H_a2.out).alloc' (a2.heap.size) rfl (nd_int false none 0 0))).alloc' (a2.heap.size + 1) (by first | rfl | (simp only [size_alloc]; done) | (simp only [size_alloc]; rfl)) (nd_int false none 0 0))).rn 2 rfl) (by have := HLN.out; omega) (by have := HLZ.out; omega) (by rw [HVZ.out]; have := q.den_nz; omega)).mono ?_
           rw [HEN.out, HVZ.out]
           rintro e_ a3 ⟨b9, A9, c9, z9, b10, A10, c10, z10, rfl, HB9, HZ9, HB10, HZ10, hz9, hz10, hB⟩
           have H_a3 := Lib.hid (Mo.num (Mo.num (Mo.call (by first | exact H_a2.out | exact ((H_a2.out).alloc' (a2.heap.size) rfl (nd_int false none 0 0)) | exact ((((H_a2.out).alloc' (a2.heap.size) rfl (nd_int false none 0 0))).alloc' (a2.heap.size + 1) (by first | rfl | (simp only [size_alloc]; done) | (simp only [size_alloc]; rfl)) (nd_int false none 0 0))) hB) hz9) hz10)
           have k2a3c0 := ((H_a3.out.var 2 rfl)).cell 0 rfl
           have k2a3c1 := ((H_a3.out.var 2 rfl)).cell 1 rfl
           have k2a3c2 := ((H_a3.out.var 2 rfl)).cell 2 rfl
           have k3a3c0 := ((H_a3.out.var 3 rfl)).cell 0 rfl
           have k3a3c1 := ((H_a3.out.var 3 rfl)).cell 1 rfl
           try have x0c0a3 := (H_a3.out.var 4 rfl).cell 0 rfl
           try have x0f0a3 := (H_a3.out.var 4 rfl).thaw 0
           try have x0c1a3 := (H_a3.out.var 4 rfl).cell 1 rfl
           try have x0f1a3 := (H_a3.out.var 4 rfl).thaw 1
           try have x0n2a3 := H_a3.out.apart 4 2 _ _ _ _ _ _ rfl rfl (by decide)
           try have x0n3a3 := H_a3.out.apart 4 3 _ _ _ _ _ _ rfl rfl (by decide)
           try have x0m1a3 := H_a3.out.apart 4 5 _ _ _ _ _ _ rfl rfl (by decide)
           try have x1c0a3 := (H_a3.out.var 5 rfl).cell 0 rfl
           try have x1f0a3 := (H_a3.out.var 5 rfl).thaw 0
           try have x1c1a3 := (H_a3.out.var 5 rfl).cell 1 rfl
           try have x1f1a3 := (H_a3.out.var 5 rfl).thaw 1
           try have x1n2a3 := H_a3.out.apart 5 2 _ _ _ _ _ _ rfl rfl (by decide)
           try have x1n3a3 := H_a3.out.apart 5 3 _ _ _ _ _ _ rfl rfl (by decide)
           try have x1m0a3 := H_a3.out.apart 5 4 _ _ _ _ _ _ rfl rfl (by decide)
           try have p00c0 := ((((H_a3.out).alloc' (t := 26) (cs := #[.bool false, .slice none 0 0]) (a3.heap.size) (by first | rfl | (simp only [size_alloc]; done) | (simp only [size_alloc]; rfl)) (nd_int _ _ _ _))).var 4 rfl).cell 0 rfl
           try have p00f0 := ((((H_a3.out).alloc' (t := 26) (cs := #[.bool false, .slice none 0 0]) (a3.heap.size) (by first | rfl | (simp only [size_alloc]; done) | (simp only [size_alloc]; rfl)) (nd_int _ _ _ _))).var 4 rfl).thaw 0
           try have p00c1 := ((((H_a3.out).alloc' (t := 26) (cs := #[.bool false, .slice none 0 0]) (a3.heap.size) (by first | rfl | (simp only [size_alloc]; done) | (simp only [size_alloc]; rfl)) (nd_int _ _ _ _))).var 4 rfl).cell 1 rfl
           try have p00f1 := ((((H_a3.out).alloc' (t := 26) (cs := #[.bool false, .slice none 0 0]) (a3.heap.size) (by first | rfl | (simp only [size_alloc]; done) | (simp only [size_alloc]; rfl)) (nd_int _ _ _ _))).var 4 rfl).thaw 1
           try have p00n0 := (((H_a3.out).alloc' (t := 26) (cs := #[.bool false, .slice none 0 0]) (a3.heap.size) (by first | rfl | (simp only [size_alloc]; done) | (simp only [size_alloc]; rfl)) (nd_int _ _ _ _))).apart 4 0 _ _ _ _ _ _ rfl rfl (by decide)
           try have p00n1 := (((H_a3.out).alloc' (t := 26) (cs := #[.bool false, .slice none 0 0]) (a3.heap.size) (by first | rfl | (simp only [size_alloc]; done) | (simp only [size_alloc]; rfl)) (nd_int _ _ _ _))).apart 4 1 _ _ _ _ _ _ rfl rfl (by decide)
           try have p00n2 := (((H_a3.out).alloc' (t := 26) (cs := #[.bool false, .slice none 0 0]) (a3.heap.size) (by first | rfl | (simp only [size_alloc]; done) | (simp only [size_alloc]; rfl)) (nd_int _ _ _ _))).apart 4 2 _ _ _ _ _ _ rfl rfl (by decide)
           try have p00n3 := (((H_a3.out).alloc' (t := 26) (cs := #[.bool false, .slice none 0 0]) (a3.heap.size) (by first | rfl | (simp only [size_alloc]; done) | (simp only [size_alloc]; rfl)) (nd_int _ _ _ _))).apart 4 3 _ _ _ _ _ _ rfl rfl (by decide)
           try have p00m1 := (((H_a3.out).alloc' (t := 26) (cs := #[.bool false, .slice none 0 0]) (a3.heap.size) (by first | rfl | (simp only [size_alloc]; done) | (simp only [size_alloc]; rfl)) (nd_int _ _ _ _))).apart 4 5 _ _ _ _ _ _ rfl rfl (by decide)
           try have p01c0 := ((((H_a3.out).alloc' (t := 26) (cs := #[.bool false, .slice none 0 0]) (a3.heap.size) (by first | rfl | (simp only [size_alloc]; done) | (simp only [size_alloc]; rfl)) (nd_int _ _ _ _))).var 5 rfl).cell 0 rfl
           try have p01f0 := ((((H_a3.out).alloc' (t := 26) (cs := #[.bool false, .slice none 0 0]) (a3.heap.size) (by first | rfl | (simp only [size_alloc]; done) | (simp only [size_alloc]; rfl)) (nd_int _ _ _ _))).var 5 rfl).thaw 0
           try have p01c1 := ((((H_a3.out).alloc' (t := 26) (cs := #[.bool false, .slice none 0 0]) (a3.heap.size) (by first | rfl | (simp only [size_alloc]; done) | (simp only [size_alloc]; rfl)) (nd_int _ _ _ _))).var 5 rfl).cell 1 rfl
           try have p01f1 := ((((H_a3.out).alloc' (t := 26) (cs := #[.bool false, .slice none 0 0]) (a3.heap.size) (by first | rfl | (simp only [size_alloc]; done) | (simp only [size_alloc]; rfl)) (nd_int _ _ _ _))).var 5 rfl).thaw 1
           try have p01n0 := (((H_a3.out).alloc' (t := 26) (cs := #[.bool false, .slice none 0 0]) (a3.heap.size) (by first | rfl | (simp only [size_alloc]; done) | (simp only [size_alloc]; rfl)) (nd_int _ _ _ _))).apart 5 0 _ _ _ _ _ _ rfl rfl (by decide)
           try have p01n1 := (((H_a3.out).alloc' (t := 26) (cs := #[.bool false, .slice none 0 0]) (a3.heap.size) (by first | rfl | (simp only [size_alloc]; done) | (simp only [size_alloc]; rfl)) (nd_int _ _ _ _))).apart 5 1 _ _ _ _ _ _ rfl rfl (by decide)
           try have p01n2 := (((H_a3.out).alloc' (t := 26) (cs := #[.bool false, .slice none 0 0]) (a3.heap.size) (by first | rfl | (simp only [size_alloc]; done) | (simp only [size_alloc]; rfl)) (nd_int _ _ _ _))).apart 5 2 _ _ _ _ _ _ rfl rfl (by decide)
           try have p01n3 := (((H_a3.out).alloc' (t := 26) (cs := #[.bool false, .slice none 0 0]) (a3.heap.size) (by first | rfl | (simp only [size_alloc]; done) | (simp only [size_alloc]; rfl)) (nd_int _ _ _ _))).apart 5 3 _ _ _ _ _ _ rfl rfl (by decide)
           try have p01m0 := (((H_a3.out).alloc' (t := 26) (cs := #[.bool false, .slice none 0 0]) (a3.heap.size) (by first | rfl | (simp only [size_alloc]; done) | (simp only [size_alloc]; rfl)) (nd_int _ _ _ _))).apart 5 4 _ _ _ _ _ _ rfl rfl (by decide)
           try have p10c0 := ((((((H_a3.out).alloc' (t := 26) (cs := #[.bool false, .slice none 0 0]) (a3.heap.size) (by first | rfl | (simp only [size_alloc]; done) | (simp only [size_alloc]; rfl)) (nd_int _ _ _ _))).alloc' (t := 26) (cs := #[.bool false, .slice none 0 0]) (a3.heap.size + 1) (by first | rfl | (simp only [size_alloc]; done) | (simp only [size_alloc]; rfl)) (nd_int _ _ _ _))).var 4 rfl).cell 0 rfl
           try have p10f0 := ((((((H_a3.out).alloc' (t := 26) (cs := #[.bool false, .slice none 0 0]) (a3.heap.size) (by first | rfl | (simp only [size_alloc]; done) | (simp only [size_alloc]; rfl)) (nd_int _ _ _ _))).alloc' (t := 26) (cs := #[.bool false, .slice none 0 0]) (a3.heap.size + 1) (by first | rfl | (simp only [size_alloc]; done) | (simp only [size_alloc]; rfl)) (nd_int _ _ _ _))).var 4 rfl).thaw 0
           try have p10c1 := ((((((H_a3.out).alloc' (t := 26) (cs := #[.bool false, .slice none 0 0]) (a3.heap.size) (by first | rfl | (simp only [size_alloc]; done) | (simp only [size_alloc]; rfl)) (nd_int _ _ _ _))).alloc' (t := 26) (cs := #[.bool false, .slice none 0 0]) (a3.heap.size + 1) (by first | rfl | (simp only [size_alloc]; done) | (simp only [size_alloc]; rfl)) (nd_int _ _ _ _))).var 4 rfl).cell 1 rfl
           try have p10f1 := ((((((H_a3.out).alloc' (t := 26) (cs := #[.bool false, .slice none 0 0]) (a3.heap.size) (by first | rfl | (simp only [size_alloc]; done) | (simp only [size_alloc]; rfl)) (nd_int _ _ _ _))).alloc' (t := 26) (cs := #[.bool false, .slice none 0 0]) (a3.heap.size + 1) (by first | rfl | (simp only [size_alloc]; done) | (simp only [size_alloc]; rfl)) (nd_int _ _ _ _))).var 4 rfl).thaw 1
           try have p10n0 := (((((H_a3.out).alloc' (t := 26) (cs := #[.bool false, .slice none 0 0]) (a3.heap.size) (by first | rfl | (simp only [size_alloc]; done) | (simp only [size_alloc]; rfl)) (nd_int _ _ _ _))).alloc' (t := 26) (cs := #[.bool false, .slice none 0 0]) (a3.heap.size + 1) (by first | rfl | (simp only [size_alloc]; done) | (simp only [size_alloc]; rfl)) (nd_int _ _ _ _))).apart 4 0 _ _ _ _ _ _ rfl rfl (by decide)
           try have p10n1 := (((((H_a3.out).alloc' (t := 26) (cs := #[.bool false, .slice none 0 0]) (a3.heap.size) (by first | rfl | (simp only [size_alloc]; done) | (simp only [size_alloc]; rfl)) (nd_int _ _ _ _))).alloc' (t := 26) (cs := #[.bool false, .slice none 0 0]) (a3.heap.size + 1) (by first | rfl | (simp only [size_alloc]; done) | (simp only [size_alloc]; rfl)) (nd_int _ _ _ _))).apart 4 1 _ _ _ _ _ _ rfl rfl (by decide)
           try have p10n2 := (((((H_a3.out).alloc' (t := 26) (cs := #[.bool false, .slice none 0 0]) (a3.heap.size) (by first | rfl | (simp only [size_alloc]; done) | (simp only [size_alloc]; rfl)) (nd_int _ _ _ _))).alloc' (t := 26) (cs := #[.bool false, .slice none 0 0]) (a3.heap.size + 1) (by first | rfl | (simp only [size_alloc]; done) | (simp only [size_alloc]; rfl)) (nd_int _ _ _ _))).apart 4 2 _ _ _ _ _ _ rfl rfl (by decide)
           try have p10n3 := (((((H_a3.out).alloc' (t := 26) (cs := #[.bool false, .slice none 0 0]) (a3.heap.size) (by first | rfl | (simp only [size_alloc]; done) | (simp only [size_alloc]; rfl)) (nd_int _ _ _ _))).alloc' (t := 26) (cs := #[.bool false, .slice none 0 0]) (a3.heap.size + 1) (by first | rfl | (simp only [size_alloc]; done) | (simp only [size_alloc]; rfl)) (nd_int _ _ _ _))).apart 4 3 _ _ _ _ _ _ rfl rfl (by decide)
           try have p10m1 := (((((H_a3.out).alloc' (t := 26) (cs := #[.bool false, .slice none 0 0]) (a3.heap.size) (by first | rfl | (simp only [size_alloc]; done) | (simp only [size_alloc]; rfl)) (nd_int _ _ _ _))).alloc' (t := 26) (cs := #[.bool false, .slice none 0 0]) (a3.heap.size + 1) (by first | rfl | (simp only [size_alloc]; done) | (simp only [size_alloc]; rfl)) (nd_int _ _ _ _))).apart 4 5 _ _ _ _ _ _ rfl rfl (by decide)
           try have p11c0 := ((((((H_a3.out).alloc' (t := 26) (cs := #[.bool false, .slice none 0 0]) (a3.heap.size) (by first | rfl | (simp only [size_alloc]; done) | (simp only [size_alloc]; rfl)) (nd_int _ _ _ _))).alloc' (t := 26) (cs := #[.bool false, .slice none 0 0]) (a3.heap.size + 1) (by first | rfl | (simp only [size_alloc]; done) | (simp only [size_alloc]; rfl)) (nd_int _ _ _ _))).var 5 rfl).cell 0 rfl
           try have p11f0 := ((((((H_a3.out).alloc' (t := 26) (cs := #[.bool false, .slice none 0 0]) (a3.heap.size) (by first | rfl | (simp only [size_alloc]; done) | (simp only [size_alloc]; rfl)) (nd_int _ _ _ _))).alloc' (t := 26) (cs := #[.bool false, .slice none 0 0]) (a3.heap.size + 1) (by first | rfl | (simp only [size_alloc]; done) | (simp only [size_alloc]; rfl)) (nd_int _ _ _ _))).var 5 rfl).thaw 0
           try have p11c1 := ((((((H_a3.out).alloc' (t := 26) (cs := #[.bool false, .slice none 0 0]) (a3.heap.size) (by first | rfl | (simp only [size_alloc]; done) | (simp only [size_alloc]; rfl)) (nd_int _ _ _ _))).alloc' (t := 26) (cs := #[.bool false, .slice none 0 0]) (a3.heap.size + 1) (by first | rfl | (simp only [size_alloc]; done) | (simp only [size_alloc]; rfl)) (nd_int _ _ _ _))).var 5 rfl).cell 1 rfl
           try have p11f1 := ((((((H_a3.out).alloc' (t := 26) (cs := #[.bool false, .slice none 0 0]) (a3.heap.size) (by first | rfl | (simp only [size_alloc]; done) | (simp only [size_alloc]; rfl)) (nd_int _ _ _ _))).alloc' (t := 26) (cs := #[.bool false, .slice none 0 0]) (a3.heap.size + 1) (by first | rfl | (simp only [size_alloc]; done) | (simp only [size_alloc]; rfl)) (nd_int _ _ _ _))).var 5 rfl).thaw 1
           try have p11n0 := (((((H_a3.out).alloc' (t := 26) (cs := #[.bool false, .slice none 0 0]) (a3.heap.size) (by first | rfl | (simp only [size_alloc]; done) | (simp only [size_alloc]; rfl)) (nd_int _ _ _ _))).alloc' (t := 26) (cs := #[.bool false, .slice none 0 0]) (a3.heap.size + 1) (by first | rfl | (simp only [size_alloc]; done) | (simp only [size_alloc]; rfl)) (nd_int _ _ _ _))).apart 5 0 _ _ _ _ _ _ rfl rfl (by decide)
           try have p11n1 := (((((H_a3.out).alloc' (t := 26) (cs := #[.bool false, .slice none 0 0]) (a3.heap.size) (by first | rfl | (simp only [size_alloc]; done) | (simp only [size_alloc]; rfl)) (nd_int _ _ _ _))).alloc' (t := 26) (cs := #[.bool false, .slice none 0 0]) (a3.heap.size + 1) (by first | rfl | (simp only [size_alloc]; done) | (simp only [size_alloc]; rfl)) (nd_int _ _ _ _))).apart 5 1 _ _ _ _ _ _ rfl rfl (by decide)
           try have p11n2 := (((((H_a3.out).alloc' (t := 26) (cs := #[.bool false, .slice none 0 0]) (a3.heap.size) (by first | rfl | (simp only [size_alloc]; done) | (simp only [size_alloc]; rfl)) (nd_int _ _ _ _))).alloc' (t := 26) (cs := #[.bool false, .slice none 0 0]) (a3.heap.size + 1) (by first | rfl | (simp only [size_alloc]; done) | (simp only [size_alloc]; rfl)) (nd_int _ _ _ _))).apart 5 2 _ _ _ _ _ _ rfl rfl (by decide)
           try have p11n3 := (((((H_a3.out).alloc' (t := 26) (cs := #[.bool false, .slice none 0 0]) (a3.heap.size) (by first | rfl | (simp only [size_alloc]; done) | (simp only [size_alloc]; rfl)) (nd_int _ _ _ _))).alloc' (t := 26) (cs := #[.bool false, .slice none 0 0]) (a3.heap.size + 1) (by first | rfl | (simp only [size_alloc]; done) | (simp only [size_alloc]; rfl)) (nd_int _ _ _ _))).apart 5 3 _ _ _ _ _ _ rfl rfl (by decide)
           try have p11m0 := (((((H_a3.out).alloc' (t := 26) (cs := #[.bool false, .slice none 0 0]) (a3.heap.size) (by first | rfl | (simp only [size_alloc]; done) | (simp only [size_alloc]; rfl)) (nd_int _ _ _ _))).alloc' (t := 26) (cs := #[.bool false, .slice none 0 0]) (a3.heap.size + 1) (by first | rfl | (simp only [size_alloc]; done) | (simp only [size_alloc]; rfl)) (nd_int _ _ _ _))).apart 5 4 _ _ _ _ _ _ rfl rfl (by decide)
           try have p20c0 := ((((H_a3.out).alloc' (t := 26) (cs := #[.bool b9, .slice A9 z9.length c9]) (a3.heap.size) (by first | rfl | (simp only [size_alloc]; done) | (simp only [size_alloc]; rfl)) (nd_int _ _ _ _))).var 4 rfl).cell 0 rfl
           try have p20f0 := ((((H_a3.out).alloc' (t := 26) (cs := #[.bool b9, .slice A9 z9.length c9]) (a3.heap.size) (by first | rfl | (simp only [size_alloc]; done) | (simp only [size_alloc]; rfl)) (nd_int _ _ _ _))).var 4 rfl).thaw 0
           try have p20c1 := ((((H_a3.out).alloc' (t := 26) (cs := #[.bool b9, .slice A9 z9.length c9]) (a3.heap.size) (by first | rfl | (simp only [size_alloc]; done) | (simp only [size_alloc]; rfl)) (nd_int _ _ _ _))).var 4 rfl).cell 1 rfl
           try have p20f1 := ((((H_a3.out).alloc' (t := 26) (cs := #[.bool b9, .slice A9 z9.length c9]) (a3.heap.size) (by first | rfl | (simp only [size_alloc]; done) | (simp only [size_alloc]; rfl)) (nd_int _ _ _ _))).var 4 rfl).thaw 1
           try have p21c0 := ((((H_a3.out).alloc' (t := 26) (cs := #[.bool b9, .slice A9 z9.length c9]) (a3.heap.size) (by first | rfl | (simp only [size_alloc]; done) | (simp only [size_alloc]; rfl)) (nd_int _ _ _ _))).var 5 rfl).cell 0 rfl
           try have p21f0 := ((((H_a3.out).alloc' (t := 26) (cs := #[.bool b9, .slice A9 z9.length c9]) (a3.heap.size) (by first | rfl | (simp only [size_alloc]; done) | (simp only [size_alloc]; rfl)) (nd_int _ _ _ _))).var 5 rfl).thaw 0
           try have p21c1 := ((((H_a3.out).alloc' (t := 26) (cs := #[.bool b9, .slice A9 z9.length c9]) (a3.heap.size) (by first | rfl | (simp only [size_alloc]; done) | (simp only [size_alloc]; rfl)) (nd_int _ _ _ _))).var 5 rfl).cell 1 rfl
           try have p21f1 := ((((H_a3.out).alloc' (t := 26) (cs := #[.bool b9, .slice A9 z9.length c9]) (a3.heap.size) (by first | rfl | (simp only [size_alloc]; done) | (simp only [size_alloc]; rfl)) (nd_int _ _ _ _))).var 5 rfl).thaw 1
           try have p30c0 := ((((((H_a3.out).alloc' (t := 26) (cs := #[.bool false, .slice none 0 0]) (a3.heap.size) (by first | rfl | (simp only [size_alloc]; done) | (simp only [size_alloc]; rfl)) (nd_int _ _ _ _))).alloc' (t := 26) (cs := #[.bool b9, .slice A9 z9.length c9]) (a3.heap.size + 1) (by first | rfl | (simp only [size_alloc]; done) | (simp only [size_alloc]; rfl)) (nd_int _ _ _ _))).var 4 rfl).cell 0 rfl
           try have p30f0 := ((((((H_a3.out).alloc' (t := 26) (cs := #[.bool false, .slice none 0 0]) (a3.heap.size) (by first | rfl | (simp only [size_alloc]; done) | (simp only [size_alloc]; rfl)) (nd_int _ _ _ _))).alloc' (t := 26) (cs := #[.bool b9, .slice A9 z9.length c9]) (a3.heap.size + 1) (by first | rfl | (simp only [size_alloc]; done) | (simp only [size_alloc]; rfl)) (nd_int _ _ _ _))).var 4 rfl).thaw 0
           try have p30c1 := ((((((H_a3.out).alloc' (t := 26) (cs := #[.bool false, .slice none 0 0]) (a3.heap.size) (by first | rfl | (simp only [size_alloc]; done) | (simp only [size_alloc]; rfl)) (nd_int _ _ _ _))).alloc' (t := 26) (cs := #[.bool b9, .slice A9 z9.length c9]) (a3.heap.size + 1) (by first | rfl | (simp only [size_alloc]; done) | (simp only [size_alloc]; rfl)) (nd_int _ _ _ _))).var 4 rfl).cell 1 rfl
           try have p30f1 := ((((((H_a3.out).alloc' (t := 26) (cs := #[.bool false, .slice none 0 0]) (a3.heap.size) (by first | rfl | (simp only [size_alloc]; done) | (simp only [size_alloc]; rfl)) (nd_int _ _ _ _))).alloc' (t := 26) (cs := #[.bool b9, .slice A9 z9.length c9]) (a3.heap.size + 1) (by first | rfl | (simp only [size_alloc]; done) | (simp only [size_alloc]; rfl)) (nd_int _ _ _ _))).var 4 rfl).thaw 1
           try have p31c0 := ((((((H_a3.out).alloc' (t := 26) (cs := #[.bool false, .slice none 0 0]) (a3.heap.size) (by first | rfl | (simp only [size_alloc]; done) | (simp only [size_alloc]; rfl)) (nd_int _ _ _ _))).alloc' (t := 26) (cs := #[.bool b9, .slice A9 z9.length c9]) (a3.heap.size + 1) (by first | rfl | (simp only [size_alloc]; done) | (simp only [size_alloc]; rfl)) (nd_int _ _ _ _))).var 5 rfl).cell 0 rfl
           try have p31f0 := ((((((H_a3.out).alloc' (t := 26) (cs := #[.bool false, .slice none 0 0]) (a3.heap.size) (by first | rfl | (simp only [size_alloc]; done) | (simp only [size_alloc]; rfl)) (nd_int _ _ _ _))).alloc' (t := 26) (cs := #[.bool b9, .slice A9 z9.length c9]) (a3.heap.size + 1) (by first | rfl | (simp only [size_alloc]; done) | (simp only [size_alloc]; rfl)) (nd_int _ _ _ _))).var 5 rfl).thaw 0
           try have p31c1 := ((((((H_a3.out).alloc' (t := 26) (cs := #[.bool false, .slice none 0 0]) (a3.heap.size) (by first | rfl | (simp only [size_alloc]; done) | (simp only [size_alloc]; rfl)) (nd_int _ _ _ _))).alloc' (t := 26) (cs := #[.bool b9, .slice A9 z9.length c9]) (a3.heap.size + 1) (by first | rfl | (simp only [size_alloc]; done) | (simp only [size_alloc]; rfl)) (nd_int _ _ _ _))).var 5 rfl).cell 1 rfl
           try have p31f1 := ((((((H_a3.out).alloc' (t := 26) (cs := #[.bool false, .slice none 0 0]) (a3.heap.size) (by first | rfl | (simp only [size_alloc]; done) | (simp only [size_alloc]; rfl)) (nd_int _ _ _ _))).alloc' (t := 26) (cs := #[.bool b9, .slice A9 z9.length c9]) (a3.heap.size + 1) (by first | rfl | (simp only [size_alloc]; done) | (simp only [size_alloc]; rfl)) (nd_int _ _ _ _))).var 5 rfl).thaw 1
           clear hB hz9 hz10))
    | fail
    all_goals (go_wp2_with fail; go_meet)
    · exact ⟨_, _, b9, A9, c9, z9, b10, A10, c10, z10, rfl, rfl, HB9, HZ9, HB10, HZ10, (((((H_a3.out.sub [0, 1, 2, 5, 6])).alloc' (t := 26) (cs := #[.bool b9, .slice A9 z9.length c9]) (a3.heap.size) (by first | rfl | (simp only [size_alloc]; done) | (simp only [size_alloc]; rfl)) (nd_int _ _ _ _))).alloc' (t := 26) (cs := #[.bool b10, .slice A10 z10.length c10]) (a3.heap.size + 1) (by first | rfl | (simp only [size_alloc]; done) | (simp only [size_alloc]; rfl)) (nd_int _ _ _ _))⟩
    · exact ⟨_, _, b9, A9, c9, z9, b10, A10, c10, z10, rfl, rfl, HB9, HZ9, HB10, HZ10, (Mo.swap [(w.heap.size, 28, #[.bool b, .slice A xs.length c, .slice B ys.length d]), (gW1, 26, #[.bool false, .slice none 0 0]), (w1.heap.size, 28, #[.bool b1, .slice A1 x.length c1, .slice B1 y.length d1]), (w2.heap.size, 26, #[.bool false, .slice A2 z.length c2])] (((((H_a3.out.sub [0, 1, 2, 5, 6])).alloc' (t := 26) (cs := #[.bool b10, .slice A10 z10.length c10]) (a3.heap.size) (by first | rfl | (simp only [size_alloc]; done) | (simp only [size_alloc]; rfl)) (nd_int _ _ _ _))).alloc' (t := 26) (cs := #[.bool b9, .slice A9 z9.length c9]) (a3.heap.size + 1) (by first | rfl | (simp only [size_alloc]; done) | (simp only [size_alloc]; rfl)) (nd_int _ _ _ _)))⟩
    · exact ⟨_, _, b9, A9, c9, z9, b10, A10, c10, z10, rfl, rfl, HB9, HZ9, HB10, HZ10, (((((((((H_a3.out.sub [0, 1, 2, 5, 6])).alloc' (t := 26) (cs := #[.bool false, .slice none 0 0]) (a3.heap.size) (by first | rfl | (simp only [size_alloc]; done) | (simp only [size_alloc]; rfl)) (nd_int _ _ _ _))).set 4 (j := 0) (v := .bool b9) (cs' := #[.bool b9, .slice none 0 0]) rfl rfl (nd_int _ _ _ _)).set 4 (j := 1) (v := .slice A9 z9.length c9) (cs' := #[.bool b9, .slice A9 z9.length c9]) rfl rfl (nd_int _ _ _ _))).set 5 (j := 0) (v := .bool b10) (cs' := #[.bool b10, .slice none 0 0]) rfl rfl (nd_int _ _ _ _)).set 5 (j := 1) (v := .slice A10 z10.length c10) (cs' := #[.bool b10, .slice A10 z10.length c10]) rfl rfl (nd_int _ _ _ _))⟩
    · exact ⟨_, _, b9, A9, c9, z9, b10, A10, c10, z10, rfl, rfl, HB9, HZ9, HB10, HZ10, (((((((H_a3.out.sub [0, 1, 2, 5, 6])).set 4 (j := 0) (v := .bool b9) (cs' := #[.bool b9, .slice none 0 0]) rfl rfl (nd_int _ _ _ _)).set 4 (j := 1) (v := .slice A9 z9.length c9) (cs' := #[.bool b9, .slice A9 z9.length c9]) rfl rfl (nd_int _ _ _ _))).set 5 (j := 0) (v := .bool b10) (cs' := #[.bool b10, .slice none 0 0]) rfl rfl (nd_int _ _ _ _)).set 5 (j := 1) (v := .slice A10 z10.length c10) (cs' := #[.bool b10, .slice A10 z10.length c10]) rfl rfl (nd_int _ _ _ _))⟩
    · exact ⟨_, _, b9, A9, c9, z9, b10, A10, c10, z10, rfl, rfl, HB9, HZ9, HB10, HZ10, (Mo.swap [(w.heap.size, 28, #[.bool b, .slice A xs.length c, .slice B ys.length d]), (gW1, 26, #[.bool false, .slice none 0 0]), (w1.heap.size, 28, #[.bool b1, .slice A1 x.length c1, .slice B1 y.length d1]), (w2.heap.size, 26, #[.bool false, .slice A2 z.length c2])] ((((((H_a3.out.sub [0, 1, 2, 5, 6])).alloc' (t := 26) (cs := #[.bool b9, .slice A9 z9.length c9]) (a3.heap.size) (by first | rfl | (simp only [size_alloc]; done) | (simp only [size_alloc]; rfl)) (nd_int _ _ _ _))).set 4 (j := 0) (v := .bool b10) (cs' := #[.bool b10, .slice none 0 0]) rfl rfl (nd_int _ _ _ _)).set 4 (j := 1) (v := .slice A10 z10.length c10) (cs' := #[.bool b10, .slice A10 z10.length c10]) rfl rfl (nd_int _ _ _ _)))⟩
    · exact ⟨_, _, b9, A9, c9, z9, b10, A10, c10, z10, rfl, rfl, HB9, HZ9, HB10, HZ10, (Mo.swap [(w.heap.size, 28, #[.bool b, .slice A xs.length c, .slice B ys.length d]), (gW1, 26, #[.bool false, .slice none 0 0]), (w1.heap.size, 28, #[.bool b1, .slice A1 x.length c1, .slice B1 y.length d1]), (w2.heap.size, 26, #[.bool false, .slice A2 z.length c2])] (((((((H_a3.out.sub [0, 1, 2, 5, 6])).set 5 (j := 0) (v := .bool b9) (cs' := #[.bool b9, .slice none 0 0]) rfl rfl (nd_int _ _ _ _)).set 5 (j := 1) (v := .slice A9 z9.length c9) (cs' := #[.bool b9, .slice A9 z9.length c9]) rfl rfl (nd_int _ _ _ _))).set 4 (j := 0) (v := .bool b10) (cs' := #[.bool b10, .slice none 0 0]) rfl rfl (nd_int _ _ _ _)).set 4 (j := 1) (v := .slice A10 z10.length c10) (cs' := #[.bool b10, .slice A10 z10.length c10]) rfl rfl (nd_int _ _ _ _)))⟩
    · exact ⟨_, _, b9, A9, c9, z9, b10, A10, c10, z10, rfl, rfl, HB9, HZ9, HB10, HZ10, (((((((((H_a3.out.sub [0, 1, 2, 5, 6])).alloc' (t := 26) (cs := #[.bool false, .slice none 0 0]) (a3.heap.size) (by first | rfl | (simp only [size_alloc]; done) | (simp only [size_alloc]; rfl)) (nd_int _ _ _ _))).set 4 (j := 0) (v := .bool b9) (cs' := #[.bool b9, .slice none 0 0]) rfl rfl (nd_int _ _ _ _)).set 4 (j := 1) (v := .slice A9 z9.length c9) (cs' := #[.bool b9, .slice A9 z9.length c9]) rfl rfl (nd_int _ _ _ _))).set 5 (j := 0) (v := .bool b10) (cs' := #[.bool b10, .slice none 0 0]) rfl rfl (nd_int _ _ _ _)).set 5 (j := 1) (v := .slice A10 z10.length c10) (cs' := #[.bool b10, .slice A10 z10.length c10]) rfl rfl (nd_int _ _ _ _))⟩
    · exact ⟨_, _, b9, A9, c9, z9, b10, A10, c10, z10, rfl, rfl, HB9, HZ9, HB10, HZ10, (((((((H_a3.out.sub [0, 1, 2, 5, 6])).set 4 (j := 0) (v := .bool b9) (cs' := #[.bool b9, .slice none 0 0]) rfl rfl (nd_int _ _ _ _)).set 4 (j := 1) (v := .slice A9 z9.length c9) (cs' := #[.bool b9, .slice A9 z9.length c9]) rfl rfl (nd_int _ _ _ _))).set 5 (j := 0) (v := .bool b10) (cs' := #[.bool b10, .slice none 0 0]) rfl rfl (nd_int _ _ _ _)).set 5 (j := 1) (v := .slice A10 z10.length c10) (cs' := #[.bool b10, .slice A10 z10.length c10]) rfl rfl (nd_int _ _ _ _))⟩
    · exact ⟨_, _, b9, A9, c9, z9, b10, A10, c10, z10, rfl, rfl, HB9, HZ9, HB10, HZ10, (((((((H_a3.out.sub [0, 1, 2, 5, 6])).set 4 (j := 0) (v := .bool b9) (cs' := #[.bool b9, .slice none 0 0]) rfl rfl (nd_int _ _ _ _)).set 4 (j := 1) (v := .slice A9 z9.length c9) (cs' := #[.bool b9, .slice A9 z9.length c9]) rfl rfl (nd_int _ _ _ _))).set 5 (j := 0) (v := .bool b10) (cs' := #[.bool b10, .slice none 0 0]) rfl rfl (nd_int _ _ _ _)).set 5 (j := 1) (v := .slice A10 z10.length c10) (cs' := #[.bool b10, .slice A10 z10.length c10]) rfl rfl (nd_int _ _ _ _))⟩
    · exact ⟨_, _, b9, A9, c9, z9, b10, A10, c10, z10, rfl, rfl, HB9, HZ9, HB10, HZ10, (Mo.swap [(w.heap.size, 28, #[.bool b, .slice A xs.length c, .slice B ys.length d]), (gW1, 26, #[.bool false, .slice none 0 0]), (w1.heap.size, 28, #[.bool b1, .slice A1 x.length c1, .slice B1 y.length d1]), (w2.heap.size, 26, #[.bool false, .slice A2 z.length c2])] ((((((H_a3.out.sub [0, 1, 2, 5, 6])).alloc' (t := 26) (cs := #[.bool b9, .slice A9 z9.length c9]) (a3.heap.size) (by first | rfl | (simp only [size_alloc]; done) | (simp only [size_alloc]; rfl)) (nd_int _ _ _ _))).set 4 (j := 0) (v := .bool b10) (cs' := #[.bool b10, .slice none 0 0]) rfl rfl (nd_int _ _ _ _)).set 4 (j := 1) (v := .slice A10 z10.length c10) (cs' := #[.bool b10, .slice A10 z10.length c10]) rfl rfl (nd_int _ _ _ _)))⟩
    · exact ⟨_, _, b9, A9, c9, z9, b10, A10, c10, z10, rfl, rfl, HB9, HZ9, HB10, HZ10, (Mo.swap [(w.heap.size, 28, #[.bool b, .slice A xs.length c, .slice B ys.length d]), (gW1, 26, #[.bool false, .slice none 0 0]), (w1.heap.size, 28, #[.bool b1, .slice A1 x.length c1, .slice B1 y.length d1]), (w2.heap.size, 26, #[.bool false, .slice A2 z.length c2])] (((((((H_a3.out.sub [0, 1, 2, 5, 6])).set 5 (j := 0) (v := .bool b9) (cs' := #[.bool b9, .slice none 0 0]) rfl rfl (nd_int _ _ _ _)).set 5 (j := 1) (v := .slice A9 z9.length c9) (cs' := #[.bool b9, .slice A9 z9.length c9]) rfl rfl (nd_int _ _ _ _))).set 4 (j := 0) (v := .bool b10) (cs' := #[.bool b10, .slice none 0 0]) rfl rfl (nd_int _ _ _ _)).set 4 (j := 1) (v := .slice A10 z10.length c10) (cs' := #[.bool b10, .slice A10 z10.length c10]) rfl rfl (nd_int _ _ _ _)))⟩
    · exact ⟨_, _, b9, A9, c9, z9, b10, A10, c10, z10, rfl, rfl, HB9, HZ9, HB10, HZ10, (Mo.swap [(w.heap.size, 28, #[.bool b, .slice A xs.length c, .slice B ys.length d]), (gW1, 26, #[.bool false, .slice none 0 0]), (w1.heap.size, 28, #[.bool b1, .slice A1 x.length c1, .slice B1 y.length d1]), (w2.heap.size, 26, #[.bool false, .slice A2 z.length c2])] (((((((H_a3.out.sub [0, 1, 2, 5, 6])).set 5 (j := 0) (v := .bool b9) (cs' := #[.bool b9, .slice none 0 0]) rfl rfl (nd_int _ _ _ _)).set 5 (j := 1) (v := .slice A9 z9.length c9) (cs' := #[.bool b9, .slice A9 z9.length c9]) rfl rfl (nd_int _ _ _ _))).set 4 (j := 0) (v := .bool b10) (cs' := #[.bool b10, .slice none 0 0]) rfl rfl (nd_int _ _ _ _)).set 4 (j := 1) (v := .slice A10 z10.length c10) (cs' := #[.bool b10, .slice A10 z10.length c10]) rfl rfl (nd_int _ _ _ _)))⟩
    · exact ⟨_, _, b9, A9, c9, z9, b10, A10, c10, z10, rfl, rfl, HB9, HZ9, HB10, HZ10, (((((((((H_a3.out.sub [0, 1, 2, 5, 6])).alloc' (t := 26) (cs := #[.bool false, .slice none 0 0]) (a3.heap.size) (by first | rfl | (simp only [size_alloc]; done) | (simp only [size_alloc]; rfl)) (nd_int _ _ _ _))).set 4 (j := 0) (v := .bool b9) (cs' := #[.bool b9, .slice none 0 0]) rfl rfl (nd_int _ _ _ _)).set 4 (j := 1) (v := .slice A9 z9.length c9) (cs' := #[.bool b9, .slice A9 z9.length c9]) rfl rfl (nd_int _ _ _ _))).set 5 (j := 0) (v := .bool b10) (cs' := #[.bool b10, .slice none 0 0]) rfl rfl (nd_int _ _ _ _)).set 5 (j := 1) (v := .slice A10 z10.length c10) (cs' := #[.bool b10, .slice A10 z10.length c10]) rfl rfl (nd_int _ _ _ _))⟩
    · exact ⟨_, _, b9, A9, c9, z9, b10, A10, c10, z10, rfl, rfl, HB9, HZ9, HB10, HZ10, (((((((H_a3.out.sub [0, 1, 2, 5, 6])).set 4 (j := 0) (v := .bool b9) (cs' := #[.bool b9, .slice none 0 0]) rfl rfl (nd_int _ _ _ _)).set 4 (j := 1) (v := .slice A9 z9.length c9) (cs' := #[.bool b9, .slice A9 z9.length c9]) rfl rfl (nd_int _ _ _ _))).set 5 (j := 0) (v := .bool b10) (cs' := #[.bool b10, .slice none 0 0]) rfl rfl (nd_int _ _ _ _)).set 5 (j := 1) (v := .slice A10 z10.length c10) (cs' := #[.bool b10, .slice A10 z10.length c10]) rfl rfl (nd_int _ _ _ _))⟩
    · exact ⟨_, _, b9, A9, c9, z9, b10, A10, c10, z10, rfl, rfl, HB9, HZ9, HB10, HZ10, (((((((H_a3.out.sub [0, 1, 2, 5, 6])).set 4 (j := 0) (v := .bool b9) (cs' := #[.bool b9, .slice none 0 0]) rfl rfl (nd_int _ _ _ _)).set 4 (j := 1) (v := .slice A9 z9.length c9) (cs' := #[.bool b9, .slice A9 z9.length c9]) rfl rfl (nd_int _ _ _ _))).set 5 (j := 0) (v := .bool b10) (cs' := #[.bool b10, .slice none 0 0]) rfl rfl (nd_int _ _ _ _)).set 5 (j := 1) (v := .slice A10 z10.length c10) (cs' := #[.bool b10, .slice A10 z10.length c10]) rfl rfl (nd_int _ _ _ _))⟩
    · exact ⟨_, _, b9, A9, c9, z9, b10, A10, c10, z10, rfl, rfl, HB9, HZ9, HB10, HZ10, (((((((H_a3.out.sub [0, 1, 2, 5, 6])).set 4 (j := 0) (v := .bool b9) (cs' := #[.bool b9, .slice none 0 0]) rfl rfl (nd_int _ _ _ _)).set 4 (j := 1) (v := .slice A9 z9.length c9) (cs' := #[.bool b9, .slice A9 z9.length c9]) rfl rfl (nd_int _ _ _ _))).set 5 (j := 0) (v := .bool b10) (cs' := #[.bool b10, .slice none 0 0]) rfl rfl (nd_int _ _ _ _)).set 5 (j := 1) (v := .slice A10 z10.length c10) (cs' := #[.bool b10, .slice A10 z10.length c10]) rfl rfl (nd_int _ _ _ _))⟩
    · exact ⟨_, _, b9, A9, c9, z9, b10, A10, c10, z10, rfl, rfl, HB9, HZ9, HB10, HZ10, (Mo.swap [(w.heap.size, 28, #[.bool b, .slice A xs.length c, .slice B ys.length d]), (gW1, 26, #[.bool false, .slice none 0 0]), (w1.heap.size, 28, #[.bool b1, .slice A1 x.length c1, .slice B1 y.length d1]), (w2.heap.size, 26, #[.bool false, .slice A2 z.length c2])] ((((((H_a3.out.sub [0, 1, 2, 5, 6])).alloc' (t := 26) (cs := #[.bool b9, .slice A9 z9.length c9]) (a3.heap.size) (by first | rfl | (simp only [size_alloc]; done) | (simp only [size_alloc]; rfl)) (nd_int _ _ _ _))).set 4 (j := 0) (v := .bool b10) (cs' := #[.bool b10, .slice none 0 0]) rfl rfl (nd_int _ _ _ _)).set 4 (j := 1) (v := .slice A10 z10.length c10) (cs' := #[.bool b10, .slice A10 z10.length c10]) rfl rfl (nd_int _ _ _ _)))⟩
    · exact ⟨_, _, b9, A9, c9, z9, b10, A10, c10, z10, rfl, rfl, HB9, HZ9, HB10, HZ10, (Mo.swap [(w.heap.size, 28, #[.bool b, .slice A xs.length c, .slice B ys.length d]), (gW1, 26, #[.bool false, .slice none 0 0]), (w1.heap.size, 28, #[.bool b1, .slice A1 x.length c1, .slice B1 y.length d1]), (w2.heap.size, 26, #[.bool false, .slice A2 z.length c2])] (((((((H_a3.out.sub [0, 1, 2, 5, 6])).set 5 (j := 0) (v := .bool b9) (cs' := #[.bool b9, .slice none 0 0]) rfl rfl (nd_int _ _ _ _)).set 5 (j := 1) (v := .slice A9 z9.length c9) (cs' := #[.bool b9, .slice A9 z9.length c9]) rfl rfl (nd_int _ _ _ _))).set 4 (j := 0) (v := .bool b10) (cs' := #[.bool b10, .slice none 0 0]) rfl rfl (nd_int _ _ _ _)).set 4 (j := 1) (v := .slice A10 z10.length c10) (cs' := #[.bool b10, .slice A10 z10.length c10]) rfl rfl (nd_int _ _ _ _)))⟩
    · exact ⟨_, _, b9, A9, c9, z9, b10, A10, c10, z10, rfl, rfl, HB9, HZ9, HB10, HZ10, (Mo.swap [(w.heap.size, 28, #[.bool b, .slice A xs.length c, .slice B ys.length d]), (gW1, 26, #[.bool false, .slice none 0 0]), (w1.heap.size, 28, #[.bool b1, .slice A1 x.length c1, .slice B1 y.length d1]), (w2.heap.size, 26, #[.bool false, .slice A2 z.length c2])] (((((((H_a3.out.sub [0, 1, 2, 5, 6])).set 5 (j := 0) (v := .bool b9) (cs' := #[.bool b9, .slice none 0 0]) rfl rfl (nd_int _ _ _ _)).set 5 (j := 1) (v := .slice A9 z9.length c9) (cs' := #[.bool b9, .slice A9 z9.length c9]) rfl rfl (nd_int _ _ _ _))).set 4 (j := 0) (v := .bool b10) (cs' := #[.bool b10, .slice none 0 0]) rfl rfl (nd_int _ _ _ _)).set 4 (j := 1) (v := .slice A10 z10.length c10) (cs' := #[.bool b10, .slice A10 z10.length c10]) rfl rfl (nd_int _ _ _ _)))⟩
    · exact ⟨_, _, b9, A9, c9, z9, b10, A10, c10, z10, rfl, rfl, HB9, HZ9, HB10, HZ10, (Mo.swap [(w.heap.size, 28, #[.bool b, .slice A xs.length c, .slice B ys.length d]), (gW1, 26, #[.bool false, .slice none 0 0]), (w1.heap.size, 28, #[.bool b1, .slice A1 x.length c1, .slice B1 y.length d1]), (w2.heap.size, 26, #[.bool false, .slice A2 z.length c2])] (((((((H_a3.out.sub [0, 1, 2, 5, 6])).set 5 (j := 0) (v := .bool b9) (cs' := #[.bool b9, .slice none 0 0]) rfl rfl (nd_int _ _ _ _)).set 5 (j := 1) (v := .slice A9 z9.length c9) (cs' := #[.bool b9, .slice A9 z9.length c9]) rfl rfl (nd_int _ _ _ _))).set 4 (j := 0) (v := .bool b10) (cs' := #[.bool b10, .slice none 0 0]) rfl rfl (nd_int _ _ _ _)).set 4 (j := 1) (v := .slice A10 z10.length c10) (cs' := #[.bool b10, .slice A10 z10.length c10]) rfl rfl (nd_int _ _ _ _)))⟩
  case rest =>
    obtain ⟨g9, g10, b9, A9, c9, z9, b10, A10, c10, z10, rfl, rfl, HB9, HZ9, HB10, HZ10, H_wc⟩ := hcut
    have hden : 0 < (q.den : Int) := by have := q.den_nz; omega
    have hr0 := Int.emod_nonneg q.num (show (q.den : Int) ≠ 0 by omega)
    have hr1 := Int.emod_lt_of_pos q.num hden
    have HE9 : Hid (zv b9 z9 = q.num / q.den) := by show _ = _; rw [HB9.out, HZ9.out]; exact zv_norm _
    have HE10 : Hid (zv b10 z10 = q.num % q.den) := by show _ = _; rw [HB10.out, HZ10.out]; exact zv_norm _
    have HLF : Hid (z9.length ≤ xs.length + 1) := by
      show _ ≤ _
      have h1 : (q.num / q.den).natAbs ≤ q.num.natAbs := Int.natAbs_ediv_le_natAbs _ _
      rw [HZ9.out]
      refine Nat.le_trans (nat_le_len h1) ?_
      rw [← HQ2.out]
      have := HLX.out
      omega
    have HLR : Hid (z10.length ≤ ys.length + 1) := by
      show _ ≤ _
      have h1 : (q.num % q.den).natAbs ≤ q.den := by omega
      rw [HZ10.out]
      refine Nat.le_trans (nat_le_len h1) ?_
      rw [← HQ3.out]
      exact HLY.out
    obtain ⟨F, hF⟩ : ∃ F, q.num / q.den = F := ⟨_, rfl⟩
    obtain ⟨R, hR⟩ : ∃ R, q.num % q.den = R := ⟨_, rfl⟩
    rw [hF] at HB9 HZ9 HE9
    rw [hR] at HB10 HZ10 HE10 hr0 hr1
    have HF := Lib.hid hF
    have HR := Lib.hid hR
    clear hF hR
    have k5wcc0 := ((H_wc.out.var 5 rfl)).cell 0 rfl
    have k5wcc1 := ((H_wc.out.var 5 rfl)).cell 1 rfl
    go_wp2_with fail
    refine (sign_ok wc b10 A10 c10 z10 (H_wc.out.rn 4 rfl) (by have := HLR.out; omega)).mono ?_
    rw [HE10.out]
    rintro e_ w4 ⟨rfl, hB⟩
    have H_w4 := Lib.hid (Mo.call H_wc.out hB)
    clear hB
    by_cases h0 : R = 0
    · have hs : cmpI R 0 = 0 := cmpI_eq h0
      rw [hs]
      have HRN : Hid (rnd q mode = F) := by show _ = _; unfold rnd; rw [HR.out, HF.out, if_pos h0]
      clear h0 hs
      have k1w4c0 := ((H_w4.out.var 1 rfl)).cell 0 rfl
      have k1w4c1 := ((H_w4.out.var 1 rfl)).cell 1 rfl
      have k1w4f0 := ((H_w4.out.var 1 rfl)).thaw 0
      have k1w4f1 := ((H_w4.out.var 1 rfl)).thaw 1
      have k4w4c0 := ((H_w4.out.var 4 rfl)).cell 0 rfl
      have k4w4c1 := ((H_w4.out.var 4 rfl)).cell 1 rfl
      go_wp2_with fail
      have hz1 := H_w4.out.set 1 (j := 0) (v := .bool b9) (cs' := #[.bool b9, .slice none 0 0]) rfl rfl (nd_int _ _ _ _)
      have hz2 := hz1.set 1 (j := 1) (v := .slice A9 z9.length c9) (cs' := #[.bool b9, .slice A9 z9.length c9]) rfl rfl (nd_int _ _ _ _)
      have v3 : Vr ((w4.setCell ⟨gW1, 0, none⟩ (.bool b9)).setCell ⟨gW1, 1, none⟩ (.slice A9 z9.length c9)) gW1 26 #[.bool b9, .slice A9 z9.length c9] := hz2.var 1 rfl
      refine bodyPost_ret (v := .agg #[.bool b9, .slice A9 z9.length c9]) (by simp [results, Tryz.results73, go_sem, v3.cell 0 rfl, v3.cell 1 rfl]) rfl ?_
      exact ⟨b9, A9, c9, z9, rfl, by rw [HRN.out]; exact HB9, by rw [HRN.out]; exact HZ9, hz2.rn 3 rfl, hz2.below⟩
    · have hs : cmpI R 0 = 1 := cmpI_gt (by omega)
      rw [hs]
      have HR0 := Lib.hid h0
      clear h0 hs
      go_upto_region 6 with fail
      have k3w4c0 := ((H_w4.out.var 3 rfl)).cell 0 rfl
      have k3w4c1 := ((H_w4.out.var 3 rfl)).cell 1 rfl
      have k5w4c0 := ((H_w4.out.var 5 rfl)).cell 0 rfl
      have k5w4c1 := ((H_w4.out.var 5 rfl)).cell 1 rfl
      have H_w4d := Lib.hid H_w4.out.drew
      first
      | go_region_held3 (fun w' => w'.cell? ⟨w2.heap.size, 0, none⟩ = some (.bool false) ∧ w'.cell? ⟨w2.heap.size, 1, none⟩ = some (.slice A2 z.length c2) ∧ w'.cell? ⟨g10, 0, none⟩ = some (.bool b10) ∧ w'.cell? ⟨g10, 1, none⟩ = some (.slice A10 z10.length c10)) (go_keep)
         (first
          | (go_at_call 52
             refine (iadd_ok w4.drew b10 b10 A10 A10 c10 c10 z10 z10 (H_w4d.out.rn 4 rfl) (H_w4d.out.rn 4 rfl) (by have := HLR.out; omega) (by have := HLR.out; omega)).mono ?_
             rintro e_ w5 ⟨b11, A11, c11, z11, rfl, HB11, HZ11, hz11, hB⟩
             have H_w5 := Lib.hid (Mo.num (Mo.call H_w4d.out hB) hz11)
             have k3w5c0 := ((H_w5.out.var 3 rfl)).cell 0 rfl
             have k3w5c1 := ((H_w5.out.var 3 rfl)).cell 1 rfl
             have k5w5c0 := ((H_w5.out.var 5 rfl)).cell 0 rfl
             have k5w5c1 := ((H_w5.out.var 5 rfl)).cell 1 rfl
             have HL11 : Hid (z11.length ≤ 2 * ys.length + 3) := by show _ ≤ _; rw [HZ11.out]; exact Nat.le_trans (zadd_len ((H_w4d.out.rn 4 rfl)).2 ((H_w4d.out.rn 4 rfl)).2) (by have := HLR.out; omega)
             clear hB hz11)
          | (go_at_call 57
             refine (icmp_ok w5 b11 false A11 A2 c11 c2 z11 z (H_w5.out.rn 5 rfl) (H_w5.out.rn 2 rfl) (by have := HL11.out; omega) (by have := HLZ.out; omega)).mono ?_
             rw [HB11.out, HZ11.out, zv_norm, HE10.out, zv_f, HVZ.out]
             rintro e_ w6 ⟨rfl, hB⟩
             have H_w6 := Lib.hid (Mo.call H_w5.out hB)
             have k3w6c0 := ((H_w6.out.var 3 rfl)).cell 0 rfl
             have k3w6c1 := ((H_w6.out.var 3 rfl)).cell 1 rfl
             have k5w6c0 := ((H_w6.out.var 5 rfl)).cell 0 rfl
             have k5w6c1 := ((H_w6.out.var 5 rfl)).cell 1 rfl
             clear hB))
      | fail
      obtain ⟨half, hh⟩ : ∃ half, cmpI (R + R) q.den = half := ⟨_, rfl⟩
      rw [hh]
      have HH := Lib.hid hh
      clear hh
      go_upto_region 7 with fail
      have k2w6c0 := ((H_w6.out.var 2 rfl)).cell 0 rfl
      have k2w6c1 := ((H_w6.out.var 2 rfl)).cell 1 rfl
      have k2w6c2 := ((H_w6.out.var 2 rfl)).cell 2 rfl
      have k4w6c0 := ((H_w6.out.var 4 rfl)).cell 0 rfl
      have k4w6c1 := ((H_w6.out.var 4 rfl)).cell 1 rfl
      have H_w6d := Lib.hid H_w6.out.drew
      first
      | go_region_held3 (fun w' => w'.cell? ⟨w1.heap.size, 0, none⟩ = some (.bool b1) ∧ w'.cell? ⟨w1.heap.size, 1, none⟩ = some (.slice A1 x.length c1) ∧ w'.cell? ⟨w1.heap.size, 2, none⟩ = some (.slice B1 y.length d1) ∧ w'.cell? ⟨g9, 0, none⟩ = some (.bool b9) ∧ w'.cell? ⟨g9, 1, none⟩ = some (.slice A9 z9.length c9)) (go_keep)
         (first
          | (go_at_call 56
             refine (sign_ok w6.drew b1 A1 c1 x (H_w6d.out.rn 0 rfl) (by have := HLX.out; omega)).mono ?_
             rw [HNUM.out]
             rintro e_ w7 ⟨rfl, hB⟩
             have H_w7 := Lib.hid (Mo.call H_w6d.out hB)
             have k2w7c0 := ((H_w7.out.var 2 rfl)).cell 0 rfl
             have k2w7c1 := ((H_w7.out.var 2 rfl)).cell 1 rfl
             have k2w7c2 := ((H_w7.out.var 2 rfl)).cell 2 rfl
             have k4w7c0 := ((H_w7.out.var 4 rfl)).cell 0 rfl
             have k4w7c1 := ((H_w7.out.var 4 rfl)).cell 1 rfl
             clear hB)
          | (go_at_call 103
             refine (above_ok w7 mode half _ b9 A9 c9 z9 (H_w7.out.rn 3 rfl) hm).mono ?_
             rw [HE9.out]
             rintro e_ w8 ⟨rfl, hB⟩
             have H_w8 := Lib.hid (Mo.call H_w7.out hB)
             have k2w8c0 := ((H_w8.out.var 2 rfl)).cell 0 rfl
             have k2w8c1 := ((H_w8.out.var 2 rfl)).cell 1 rfl
             have k2w8c2 := ((H_w8.out.var 2 rfl)).cell 2 rfl
             have k4w8c0 := ((H_w8.out.var 4 rfl)).cell 0 rfl
             have k4w8c1 := ((H_w8.out.var 4 rfl)).cell 1 rfl
             clear hB))
      | fail
      have hneg : decide (cmpI q.num 0 < 0) = decide (q.num < 0) := by
        refine decide_eq_decide.2 ?_
        unfold cmpI
        split
        · exact ⟨fun _ => by assumption, fun _ => by decide⟩
        · split <;> constructor <;> intro h <;> omega
      rw [hneg]
      obtain ⟨up, hup⟩ : ∃ up, rup mode half (decide (q.num < 0)) F = up := ⟨_, rfl⟩
      rw [hup]
      have HRN : Hid (rnd q mode = if up then F + 1 else F) := by
        show _ = _
        unfold rnd
        rw [HR.out, HF.out, if_neg HR0.out, HH.out, hup]
      clear hneg hup
      cases up
      · rw [if_neg (by decide)] at HRN
        have k1w8c0 := ((H_w8.out.var 1 rfl)).cell 0 rfl
        have k1w8c1 := ((H_w8.out.var 1 rfl)).cell 1 rfl
        have k1w8f0 := ((H_w8.out.var 1 rfl)).thaw 0
        have k1w8f1 := ((H_w8.out.var 1 rfl)).thaw 1
        have k4w8c0 := ((H_w8.out.var 4 rfl)).cell 0 rfl
        have k4w8c1 := ((H_w8.out.var 4 rfl)).cell 1 rfl
        go_wp2_with fail
        have hz1 := H_w8.out.set 1 (j := 0) (v := .bool b9) (cs' := #[.bool b9, .slice none 0 0]) rfl rfl (nd_int _ _ _ _)
        have hz2 := hz1.set 1 (j := 1) (v := .slice A9 z9.length c9) (cs' := #[.bool b9, .slice A9 z9.length c9]) rfl rfl (nd_int _ _ _ _)
        have v3 : Vr ((w8.setCell ⟨gW1, 0, none⟩ (.bool b9)).setCell ⟨gW1, 1, none⟩ (.slice A9 z9.length c9)) gW1 26 #[.bool b9, .slice A9 z9.length c9] := hz2.var 1 rfl
        refine bodyPost_ret (v := .agg #[.bool b9, .slice A9 z9.length c9]) (by simp [results, Tryz.results73, go_sem, v3.cell 0 rfl, v3.cell 1 rfl]) rfl ?_
        exact ⟨b9, A9, c9, z9, rfl, by rw [HRN.out]; exact HB9, by rw [HRN.out]; exact HZ9, hz2.rn 3 rfl, hz2.below⟩
      · rw [if_pos rfl] at HRN
        go_upto_region 8 with fail
        have k4w8c0 := ((H_w8.out.var 4 rfl)).cell 0 rfl
        have k4w8c1 := ((H_w8.out.var 4 rfl)).cell 1 rfl
        have H_w8d := Lib.hid H_w8.out.drew
        have new810 : gW1 ≠ w.heap.size := H_w8.out.apart 1 0 _ _ _ _ _ _ rfl rfl (by decide)
        have new812 : gW1 ≠ w1.heap.size := H_w8.out.apart 1 2 _ _ _ _ _ _ rfl rfl (by decide)
        have new813 : gW1 ≠ w2.heap.size := H_w8.out.apart 1 3 _ _ _ _ _ _ rfl rfl (by decide)
        have new814 : gW1 ≠ g9 := H_w8.out.apart 1 4 _ _ _ _ _ _ rfl rfl (by decide)
        have new815 : gW1 ≠ g10 := H_w8.out.apart 1 5 _ _ _ _ _ _ rfl rfl (by decide)
        first
        | go_region_held3 (fun w' => w'.cell? ⟨g9, 0, none⟩ = some (.bool b9) ∧ w'.cell? ⟨g9, 1, none⟩ = some (.slice A9 z9.length c9)) (go_keep)
           (first
            | (go_at_call 74
               refine (iof_ok w8.drew 1 (by omega) (by omega)).mono ?_
               rintro e_ w9 ⟨b12, A12, c12, o12, rfl, HB12, HZ12, hz12, hB⟩
               have H_w9 := Lib.hid (Mo.num (Mo.call H_w8d.out hB) hz12)
               have k4w9c0 := ((H_w9.out.var 4 rfl)).cell 0 rfl
               have k4w9c1 := ((H_w9.out.var 4 rfl)).cell 1 rfl
               have HLO : Hid (o12.length ≤ 1) := by show _ ≤ _; rw [HZ12.out]; exact limbs_len (m := 1) (by decide)
               clear hB hz12)
            | (go_at_call 52
               refine (iadd_ok w9 b9 b12 A9 A12 c9 c12 z9 o12 (H_w9.out.rn 3 rfl) (H_w9.out.rn 6 rfl) (by have := HLF.out; omega) (by have := HLO.out; omega)).mono ?_
               rw [HE9.out, HB12.out, HZ12.out, zv_norm]
               rintro e_ w10 ⟨b13, A13, c13, z13, rfl, HB13, HZ13, hz13, hB⟩
               have H_w10 := Lib.hid (Mo.num (Mo.call H_w9.out hB) hz13)
               have k4w10c0 := ((H_w10.out.var 4 rfl)).cell 0 rfl
               have k4w10c1 := ((H_w10.out.var 4 rfl)).cell 1 rfl
               have k1w10c0 := ((H_w10.out.var 1 rfl)).cell 0 rfl
               have k1w10c1 := ((H_w10.out.var 1 rfl)).cell 1 rfl
               have k1w10f0 := ((H_w10.out.var 1 rfl)).thaw 0
               have k1w10f1 := ((H_w10.out.var 1 rfl)).thaw 1
               clear hB hz13))
        | fail
        go_wp2_with fail
        have hz1 := H_w10.out.set 1 (j := 0) (v := .bool b13) (cs' := #[.bool b13, .slice none 0 0]) rfl rfl (nd_int _ _ _ _)
        have hz2 := hz1.set 1 (j := 1) (v := .slice A13 z13.length c13) (cs' := #[.bool b13, .slice A13 z13.length c13]) rfl rfl (nd_int _ _ _ _)
        have v3 : Vr ((w10.setCell ⟨gW1, 0, none⟩ (.bool b13)).setCell ⟨gW1, 1, none⟩ (.slice A13 z13.length c13)) gW1 26 #[.bool b13, .slice A13 z13.length c13] := hz2.var 1 rfl
        refine bodyPost_ret (v := .agg #[.bool b13, .slice A13 z13.length c13]) (by simp [results, Tryz.results73, go_sem, v3.cell 0 rfl, v3.cell 1 rfl]) rfl ?_
        exact ⟨b13, A13, c13, z13, rfl, by rw [HRN.out]; exact HB13, by rw [HRN.out]; exact HZ13, hz2.rn 7 rfl, hz2.below⟩

end Go.Proofs.YtocpncjmcaecoaaGreat.M
