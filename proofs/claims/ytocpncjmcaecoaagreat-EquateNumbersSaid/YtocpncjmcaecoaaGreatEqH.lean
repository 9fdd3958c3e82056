/- The chapter's examples, as the law asks for them. -/
import Derived.Test.YtocpncjmcaecoaaGreatEqU
namespace Go.Proofs.YtocpncjmcaecoaaGreat.M
set_option maxRecDepth 10000
open Go.RowKit
set_option linter.unusedVariables false
set_option linter.unusedSimpArgs false
def RetT (w : World) (e : Ending) (w' : World) : Prop := e = .returned (.bool true) ∧ Below w.heap.size w w'
theorem aw_re (r s t : Rt) : roundE [r, s, t].length 1 (-1) 5 = 0 := rfl
theorem aw3 {r s t u : Rt} {a b c : Rat} {j : Nat} (hj : [r, s, t][j]? = some u) (h1 : r.b = decide (a.num < 0)) (h2 : r.xs = limbs a.num.natAbs) (h3 : r.ys = limbs a.den) (k1 : s.b = decide (b.num < 0)) (k2 : s.xs = limbs b.num.natAbs) (k3 : s.ys = limbs b.den) (l1 : t.b = decide (c.num < 0)) (l2 : t.xs = limbs c.num.natAbs) (l3 : t.ys = limbs c.den) : ∃ p, [a, b, c][j]? = some p ∧ nfR u p := by
  match j, hj with
  | 0, hj => injection hj with hj; subst hj; exact ⟨_, rfl, h1, h2, h3⟩
  | 1, hj => injection hj with hj; subst hj; exact ⟨_, rfl, k1, k2, k3⟩
  | 2, hj => injection hj with hj; subst hj; exact ⟨_, rfl, l1, l2, l3⟩
  | k + 3, hj => simp at hj
set_option maxHeartbeats 12800000 in
theorem awake_ok (w0 : World) :
    Calls Tryz.prog 13 #[] w0 (RetT w0) := by
  go_enter Tryz.func13, Tryz.ntmps13
  go_upto_region 2 with fail
  have hbf : Bk (w0.alloc (.cells #[.int .i64 1, .int .i64 2, .int .i64 1] 3 (0, 0))) w0.heap.size 3 .i64 [1, 2, 1] := Bk.lit (w := w0) (e := 3) (k := .i64) [1, 2, 1]
  have HF := Lib.hid (hbf.reads (by decide))
  have HB0 := Lib.hid ((Below.refl w0.heap.size w0).alloc (Nat.le_refl _) (.cells #[.int .i64 1, .int .i64 2, .int .i64 1] 3 (0, 0)))
  obtain ⟨w, hw⟩ : ∃ w, w = w0.alloc (.cells #[.int .i64 1, .int .i64 2, .int .i64 1] 3 (0, 0)) := ⟨_, rfl⟩
  obtain ⟨gf, hgf⟩ : ∃ gf, w0.heap.size = gf := ⟨_, rfl⟩
  rw [← hw] at HF HB0 ⊢
  rw [hgf] at HF ⊢
  have HFR : Hid (Rk w .i64 (some ⟨gf, 0, none⟩) 3 [1, 2, 1]) := HF.out
  have H_w : Hid (Mo w w [] []) := Mo.start w
  clear hbf hw hgf HF
  go_wp2_with fail
  refine (part_ok w 0 1 (by omega) (by omega) (by omega) (by omega)).mono ?_
  rw [show (1 : Int).toNat = 1 from rfl]
  rintro e_ w1 ⟨b1, A1, c1, x1, B1, d1, y1, rfl, HQa1, HQb1, HQc1, hx1, hy1, hB⟩
  have H_w1 := Lib.hid (Mo.num (Mo.num (Mo.call H_w.out hB) hx1) hy1)
  have HV1 : Hid (qv b1 x1 y1 = mkRat 0 1) := qv_nf HQa1.out HQb1.out HQc1.out
  have HL1 : Hid (x1.length ≤ 1 ∧ y1.length ≤ 1) := szl HQb1.out HQc1.out (by unfold sz; decide +kernel)
  clear hB hx1 hy1
  go_wp2_with fail
  refine (rank_okE w1 (some ⟨gf, 0, none⟩) 3 [1, 2, 1] (HFR.out.below H_w1.out.below) b1 A1 B1 c1 d1 x1 y1 (H_w1.out.rn 0 rfl) (H_w1.out.rn 1 rfl) (by have := HL1.out; omega) (by have := HL1.out; omega)).mono ?_
  rw [HV1.out, aw_rank, aw_f]
  rintro e_ w2 ⟨b2, A2, c2, x2, B2, d2, y2, rfl, HQa2, HQb2, HQc2, hx2, hy2, hB⟩
  have H_w2 := Lib.hid (Mo.num (Mo.num (Mo.call H_w1.out hB) hx2) hy2)
  clear hB hx2 hy2
  go_upto_region 3 with fail
  obtain ⟨V1, hV1⟩ : ∃ V1, V1 = w2.alloc (.cells #[.bool b2, .slice A2 x2.length c2, .slice B2 y2.length d2] 28) := ⟨_, rfl⟩
  rw [← hV1]
  have H_V1 : Hid (Mo w V1 _ _) := Lib.hid (by rw [hV1]; exact H_w2.out.alloc (t := 28) (cs := #[.bool b2, .slice A2 x2.length c2, .slice B2 y2.length d2]) (nd_rat _ _ _ _ _ _ _))
  clear hV1
  have h_V1 : Mo w V1 [(w2.heap.size, 28, #[.bool b2, .slice A2 x2.length c2, .slice B2 y2.length d2])] [(A2, c2, x2), (B2, d2, y2)] := H_V1.out.sub [2, 3]
  clear H_V1
  have H_V1 := Lib.hid h_V1
  clear h_V1
  go_wp2_with fail
  refine (part_ok V1 1 4 (by omega) (by omega) (by omega) (by omega)).mono ?_
  rw [show (4 : Int).toNat = 4 from rfl]
  rintro e_ w3 ⟨b3, A3, c3, x3, B3, d3, y3, rfl, HQa3, HQb3, HQc3, hx3, hy3, hB⟩
  have H_w3 := Lib.hid (Mo.num (Mo.num (Mo.call H_V1.out hB) hx3) hy3)
  have HV3 : Hid (qv b3 x3 y3 = mkRat 1 4) := qv_nf HQa3.out HQb3.out HQc3.out
  have HL3 : Hid (x3.length ≤ 1 ∧ y3.length ≤ 1) := szl HQb3.out HQc3.out (by unfold sz; decide +kernel)
  clear hB hx3 hy3
  go_wp2_with fail
  refine (inverse_ok w3 (some ⟨gf, 0, none⟩) 3 [1, 2, 1] (HFR.out.below H_w3.out.below) b3 A3 B3 c3 d3 x3 y3 (H_w3.out.rn 2 rfl) (H_w3.out.rn 3 rfl) (by have := HL3.out; omega) (by have := HL3.out; omega)).mono ?_
  rw [HV3.out]
  rintro e_ w4 ⟨q4, e4, HI4, b4, A4, c4, x4, B4, d4, y4, rfl, HQa4, HQb4, HQc4, hx4, hy4, hB⟩
  have H_w4 := Lib.hid (Mo.num (Mo.num (Mo.call H_w3.out hB) hx4) hy4)
  obtain ⟨rfl, rfl⟩ := invR_one aw_inv HI4.out
  clear HI4
  clear hB hx4 hy4
  go_upto_region 4 with fail
  obtain ⟨V2, hV2⟩ : ∃ V2, V2 = w4.alloc (.cells #[.bool b4, .slice A4 x4.length c4, .slice B4 y4.length d4] 28) := ⟨_, rfl⟩
  rw [← hV2]
  have H_V2 : Hid (Mo w V2 _ _) := Lib.hid (by rw [hV2]; exact H_w4.out.alloc (t := 28) (cs := #[.bool b4, .slice A4 x4.length c4, .slice B4 y4.length d4]) (nd_rat _ _ _ _ _ _ _))
  clear hV2
  go_wp2_with fail
  have hbg : Bk (V2.alloc (.cells #[.int .i64 0, .int .i64 1, .int .i64 2, .int .i64 1] 3 (0, 0))) V2.heap.size 3 .i64 [0, 1, 2, 1] := Bk.lit (w := V2) (e := 3) (k := .i64) [0, 1, 2, 1]
  have HGR := Lib.hid (hbg.reads (by decide))
  have hbv := (Below.refl V2.heap.size V2).alloc (Nat.le_refl _) (.cells #[.int .i64 0, .int .i64 1, .int .i64 2, .int .i64 1] 3 (0, 0))
  have H_V3 := Lib.hid (Mo.call H_V2.out hbv)
  clear hbg hbv
  obtain ⟨V3, hV3⟩ : ∃ V3, V3 = V2.alloc (.cells #[.int .i64 0, .int .i64 1, .int .i64 2, .int .i64 1] 3 (0, 0)) := ⟨_, rfl⟩
  rw [← hV3] at HGR H_V3 ⊢
  clear hV3
  have h_V3 : Mo w V3 [(w2.heap.size, 28, #[.bool b2, .slice A2 x2.length c2, .slice B2 y2.length d2]), (w4.heap.size, 28, #[.bool b4, .slice A4 x4.length c4, .slice B4 y4.length d4])] [(A2, c2, x2), (B2, d2, y2), (A4, c4, x4), (B4, d4, y4)] := H_V3.out.sub [0, 1, 4, 5]
  clear H_V3
  have H_V3 := Lib.hid h_V3
  clear h_V3
  refine (etable_ok V3 (some ⟨gf, 0, none⟩) 3 [1, 2, 1] (some ⟨V2.heap.size, 0, none⟩) 4 [0, 1, 2, 1] (HFR.out.below H_V3.out.below) HGR.out).mono ?_
  rintro e_ w5 ⟨TA, tc, rs, e5, rfl, HTB, hT, hB⟩
  have H_w5 := Lib.hid (Mo.call H_V3.out hB)
  have HTT := Lib.hid hT
  obtain ⟨rfl, hnl⟩ := aw_tab HTB.out
  have HNL := Lib.hid hnl
  clear HTB hT hnl
  have B5_w5 : Hid (Below w5.heap.size w5 w5) := Below.refl _ _
  clear hB
  go_wp2_with fail
  refine (part_ok w5 1 2 (by omega) (by omega) (by omega) (by omega)).mono ?_
  rw [show (2 : Int).toNat = 2 from rfl]
  rintro e_ w6 ⟨b6, A6, c6, x6, B6, d6, y6, rfl, HQa6, HQb6, HQc6, hx6, hy6, hB⟩
  have H_w6 := Lib.hid (Mo.num (Mo.num (Mo.call H_w5.out hB) hx6) hy6)
  have B5_w6 := Lib.hid (below_seq B5_w5.out hB)
  have HV6 : Hid (qv b6 x6 y6 = mkRat 1 2) := qv_nf HQa6.out HQb6.out HQc6.out
  have HL6 : Hid (x6.length ≤ 1 ∧ y6.length ≤ 1) := szl HQb6.out HQc6.out (by unfold sz; decide +kernel)
  clear hB hx6 hy6
  go_wp2_with fail
  refine (part_ok w6 (-3) 2 (by omega) (by omega) (by omega) (by omega)).mono ?_
  rw [show (2 : Int).toNat = 2 from rfl]
  rintro e_ w7 ⟨b7, A7, c7, x7, B7, d7, y7, rfl, HQa7, HQb7, HQc7, hx7, hy7, hB⟩
  have H_w7 := Lib.hid (Mo.num (Mo.num (Mo.call H_w6.out hB) hx7) hy7)
  have B5_w7 := Lib.hid (below_seq B5_w6.out hB)
  have HV7 : Hid (qv b7 x7 y7 = mkRat (-3) 2) := qv_nf HQa7.out HQb7.out HQc7.out
  have HL7 : Hid (x7.length ≤ 1 ∧ y7.length ≤ 1) := szl HQb7.out HQc7.out (by unfold sz; decide +kernel)
  clear hB hx7 hy7
  go_wp2_with fail
  refine (part_ok w7 9 1 (by omega) (by omega) (by omega) (by omega)).mono ?_
  rw [show (1 : Int).toNat = 1 from rfl]
  rintro e_ w8 ⟨b8, A8, c8, x8, B8, d8, y8, rfl, HQa8, HQb8, HQc8, hx8, hy8, hB⟩
  have H_w8 := Lib.hid (Mo.num (Mo.num (Mo.call H_w7.out hB) hx8) hy8)
  have B5_w8 := Lib.hid (below_seq B5_w7.out hB)
  have HV8 : Hid (qv b8 x8 y8 = mkRat 9 1) := qv_nf HQa8.out HQb8.out HQc8.out
  have HL8 : Hid (x8.length ≤ 1 ∧ y8.length ≤ 1) := szl HQb8.out HQc8.out (by unfold sz; decide +kernel)
  clear hB hx8 hy8
  go_wp2_with fail
  have HR3 : Hid (Rs (w8.alloc (.cells #[.bool b6, .slice A6 x6.length c6, .slice B6 y6.length d6, .bool b7, .slice A7 x7.length c7, .slice B7 y7.length d7, .bool b8, .slice A8 x8.length c8, .slice B8 y8.length d8] 28 (0, 0))) (some ⟨w8.heap.size, 0, none⟩) 3 [⟨b6, A6, c6, x6, B6, d6, y6⟩, ⟨b7, A7, c7, x7, B7, d7, y7⟩, ⟨b8, A8, c8, x8, B8, d8, y8⟩]) := lit3 w8 ⟨b6, A6, c6, x6, B6, d6, y6⟩ ⟨b7, A7, c7, x7, B7, d7, y7⟩ ⟨b8, A8, c8, x8, B8, d8, y8⟩ ⟨(H_w8.out.rn 4 rfl), (H_w8.out.rn 5 rfl)⟩ ⟨(H_w8.out.rn 6 rfl), (H_w8.out.rn 7 rfl)⟩ ⟨(H_w8.out.rn 8 rfl), (H_w8.out.rn 9 rfl)⟩
  have hbv := (Below.refl w8.heap.size w8).alloc (Nat.le_refl _) (.cells #[.bool b6, .slice A6 x6.length c6, .slice B6 y6.length d6, .bool b7, .slice A7 x7.length c7, .slice B7 y7.length d7, .bool b8, .slice A8 x8.length c8, .slice B8 y8.length d8] 28 (0, 0))
  have H_V4 := Lib.hid (Mo.call H_w8.out hbv)
  have B5_V4 := Lib.hid (below_seq B5_w8.out hbv)
  clear hbv
  obtain ⟨V4, hV4⟩ : ∃ V4, V4 = w8.alloc (.cells #[.bool b6, .slice A6 x6.length c6, .slice B6 y6.length d6, .bool b7, .slice A7 x7.length c7, .slice B7 y7.length d7, .bool b8, .slice A8 x8.length c8, .slice B8 y8.length d8] 28 (0, 0)) := ⟨_, rfl⟩
  rw [← hV4] at HR3 H_V4 B5_V4 ⊢
  clear hV4
  have HSML : Hid (∀ (j : Nat) (r : Rt), [⟨b6, A6, c6, x6, B6, d6, y6⟩, ⟨b7, A7, c7, x7, B7, d7, y7⟩, ⟨b8, A8, c8, x8, B8, d8, y8⟩][j]? = some r → r.xs.length ≤ 35184372088000 ∧ r.ys.length ≤ 35184372088000) := fun j r hj => by
    match j, hj with
    | 0, hj => injection hj with hj; subst hj; exact ⟨Nat.le_trans HL6.out.1 (by decide), Nat.le_trans HL6.out.2 (by decide)⟩
    | 1, hj => injection hj with hj; subst hj; exact ⟨Nat.le_trans HL7.out.1 (by decide), Nat.le_trans HL7.out.2 (by decide)⟩
    | 2, hj => injection hj with hj; subst hj; exact ⟨Nat.le_trans HL8.out.1 (by decide), Nat.le_trans HL8.out.2 (by decide)⟩
    | k + 3, hj => simp at hj
  refine (rounded_ok V4 (some ⟨w8.heap.size, 0, none⟩) 3 [⟨b6, A6, c6, x6, B6, d6, y6⟩, ⟨b7, A7, c7, x7, B7, d7, y7⟩, ⟨b8, A8, c8, x8, B8, d8, y8⟩] 1 (-1) 5 HR3.out HSML.out).mono ?_
  rw [aw_re]
  rintro e_ w9 ⟨LA, lc, ls, rfl, HLS, hL, hB⟩
  have H_w9 := Lib.hid (Mo.call H_V4.out hB)
  have B5_w9 := Lib.hid (below_seq B5_V4.out hB)
  obtain rfl : ls = [0, -1, 5] := by rw [HLS.out]; exact aw_round ⟨HQa6.out, HQb6.out, HQc6.out⟩ ⟨HQa7.out, HQb7.out, HQc7.out⟩ ⟨HQa8.out, HQb8.out, HQc8.out⟩
  have HLL := Lib.hid hL
  clear HLS hL
  have B9_w9 : Hid (Below w9.heap.size w9 w9) := Below.refl _ _
  clear hB
  go_wp2_with fail
  have h_w9 : Mo w w9 [(w2.heap.size, 28, #[.bool b2, .slice A2 x2.length c2, .slice B2 y2.length d2]), (w4.heap.size, 28, #[.bool b4, .slice A4 x4.length c4, .slice B4 y4.length d4])] [(A2, c2, x2), (B2, d2, y2), (A4, c4, x4), (B4, d4, y4)] := H_w9.out.sub [0, 1, 2, 3]
  clear H_w9
  have H_w9 := Lib.hid h_w9
  clear h_w9
  refine (moments_ok w9 (some ⟨gf, 0, none⟩) 3 [1, 2, 1] (HFR.out.below H_w9.out.below)).mono ?_
  rw [aw_mom.1, aw_mom.2, aw_f]
  rintro e_ w10 ⟨b10, A10, c10, x10, B10, d10, y10, b11, A11, c11, x11, B11, d11, y11, rfl, HQa10, HQb10, HQc10, HQa11, HQb11, HQc11, hx10, hy10, hx11, hy11, hB⟩
  have H_w10 := Lib.hid (Mo.num (Mo.num (Mo.num (Mo.num (Mo.call H_w9.out hB) hx10) hy10) hx11) hy11)
  have B5_w10 := Lib.hid (below_seq B5_w9.out hB)
  have B9_w10 := Lib.hid (below_seq B9_w9.out hB)
  clear hB hx10 hy10 hx11 hy11
  go_upto_region 7 with fail
  obtain ⟨Z, hZ⟩ : ∃ Z, Z = (w10.alloc (.cells #[.bool b10, .slice A10 x10.length c10, .slice B10 y10.length d10] 28)).alloc (.cells #[.bool b11, .slice A11 x11.length c11, .slice B11 y11.length d11] 28) := ⟨_, rfl⟩
  rw [← hZ]
  have B5_Z : Hid (Below w5.heap.size w5 Z) := by rw [hZ]; exact (B5_w10.out.alloc B5_w10.out.size _).alloc (by have := B5_w10.out.size; simp only [size_alloc]; omega) _
  have B9_Z : Hid (Below w9.heap.size w9 Z) := by rw [hZ]; exact (B9_w10.out.alloc B9_w10.out.size _).alloc (by have := B9_w10.out.size; simp only [size_alloc]; omega) _
  have H_Z : Hid (Mo w Z _ _) := Lib.hid (by rw [hZ]; exact (H_w10.out.alloc' (t := 28) (cs := #[.bool b10, .slice A10 x10.length c10, .slice B10 y10.length d10]) (w10.heap.size) rfl (nd_rat _ _ _ _ _ _ _)).alloc' (t := 28) (cs := #[.bool b11, .slice A11 x11.length c11, .slice B11 y11.length d11]) (w10.heap.size + 1) (by rw [size_alloc]) (nd_rat _ _ _ _ _ _ _))
  clear hZ
  obtain ⟨ad, hLA, hcl0⟩ := HLL.out.2.2 0 (by decide)
  have hcl1 := HLL.out.2.2 1 (by decide)
  have hcl2 := HLL.out.2.2 2 (by decide)
  subst hLA
  obtain ⟨ad1, had1, hcl1⟩ := hcl1
  obtain ⟨ad2, had2, hcl2⟩ := hcl2
  injection had1 with had1
  injection had2 with had2
  subst had1 had2
  have e_0 : ad.add 0 = ad := by unfold Addr.add; split <;> simp_all
  rw [e_0] at hcl0
  have C0 : Hid (w9.cell? ad = some (.int .i64 0)) := hcl0
  have C1 : Hid (w9.cell? ⟨ad.block, ad.off + 1, none⟩ = some (.int .i64 (-1))) := hcl1
  have C2 : Hid (w9.cell? ⟨ad.block, ad.off + 2, none⟩ = some (.int .i64 5)) := hcl2
  clear hcl0 hcl1 hcl2 e_0
  go_wp2_with fail
  have ca0 := cell_belowE B9_Z.out C0.out
  have ca1 := cell_belowE B9_Z.out C1.out
  have ca2 := cell_belowE B9_Z.out C2.out
  have B5_Zd := Lib.hid B5_Z.out.drew
  have B9_Zd := Lib.hid B9_Z.out.drew
  have k0Zc0 := ((H_Z.out.var 0 rfl)).cell 0 rfl
  have k0Zc1 := ((H_Z.out.var 0 rfl)).cell 1 rfl
  have k0Zc2 := ((H_Z.out.var 0 rfl)).cell 2 rfl
  have k1Zc0 := ((H_Z.out.var 1 rfl)).cell 0 rfl
  have k1Zc1 := ((H_Z.out.var 1 rfl)).cell 1 rfl
  have k1Zc2 := ((H_Z.out.var 1 rfl)).cell 2 rfl
  have k2Zc0 := ((H_Z.out.var 2 rfl)).cell 0 rfl
  have k2Zc1 := ((H_Z.out.var 2 rfl)).cell 1 rfl
  have k2Zc2 := ((H_Z.out.var 2 rfl)).cell 2 rfl
  have k3Zc0 := ((H_Z.out.var 3 rfl)).cell 0 rfl
  have k3Zc1 := ((H_Z.out.var 3 rfl)).cell 1 rfl
  have k3Zc2 := ((H_Z.out.var 3 rfl)).cell 2 rfl
  have H_Zd := Lib.hid H_Z.out.drew
  first
  | go_region_held3 (fun w' => w'.cell? ⟨w2.heap.size, 0, none⟩ = some (.bool b2) ∧ w'.cell? ⟨w2.heap.size, 1, none⟩ = some (.slice A2 x2.length c2) ∧ w'.cell? ⟨w2.heap.size, 2, none⟩ = some (.slice B2 y2.length d2) ∧ w'.cell? ⟨w4.heap.size, 0, none⟩ = some (.bool b4) ∧ w'.cell? ⟨w4.heap.size, 1, none⟩ = some (.slice A4 x4.length c4) ∧ w'.cell? ⟨w4.heap.size, 2, none⟩ = some (.slice B4 y4.length d4) ∧ w'.cell? ⟨w10.heap.size, 0, none⟩ = some (.bool b10) ∧ w'.cell? ⟨w10.heap.size, 1, none⟩ = some (.slice A10 x10.length c10) ∧ w'.cell? ⟨w10.heap.size, 2, none⟩ = some (.slice B10 y10.length d10) ∧ w'.cell? ⟨w10.heap.size + 1, 0, none⟩ = some (.bool b11) ∧ w'.cell? ⟨w10.heap.size + 1, 1, none⟩ = some (.slice A11 x11.length c11) ∧ w'.cell? ⟨w10.heap.size + 1, 2, none⟩ = some (.slice B11 y11.length d11) ∧ w'.cell? ad = some (.int .i64 0) ∧ w'.cell? ⟨ad.block, ad.off + 1, none⟩ = some (.int .i64 (-1)) ∧ w'.cell? ⟨ad.block, ad.off + 2, none⟩ = some (.int .i64 5)) (go_keep)
     (first
      | (go_at_call 42
         with_reducible (show Calls Tryz.prog _ #[.int .i64 1, .int .i64 8] Z.drew _)
         refine (part_ok Z.drew 1 8 (by omega) (by omega) (by omega) (by omega)).mono ?_
         rw [show (8 : Int).toNat = 8 from rfl]
         rintro e_ u1 ⟨b20, A20, c20, x20, B20, d20, y20, rfl, HQa20, HQb20, HQc20, hx20, hy20, hB⟩
         have H_u1 := Lib.hid (Mo.num (Mo.num (Mo.call H_Zd.out hB) hx20) hy20)
         have k0u1c0 := ((H_u1.out.var 0 rfl)).cell 0 rfl
         have k0u1c1 := ((H_u1.out.var 0 rfl)).cell 1 rfl
         have k0u1c2 := ((H_u1.out.var 0 rfl)).cell 2 rfl
         have k1u1c0 := ((H_u1.out.var 1 rfl)).cell 0 rfl
         have k1u1c1 := ((H_u1.out.var 1 rfl)).cell 1 rfl
         have k1u1c2 := ((H_u1.out.var 1 rfl)).cell 2 rfl
         have k2u1c0 := ((H_u1.out.var 2 rfl)).cell 0 rfl
         have k2u1c1 := ((H_u1.out.var 2 rfl)).cell 1 rfl
         have k2u1c2 := ((H_u1.out.var 2 rfl)).cell 2 rfl
         have k3u1c0 := ((H_u1.out.var 3 rfl)).cell 0 rfl
         have k3u1c1 := ((H_u1.out.var 3 rfl)).cell 1 rfl
         have k3u1c2 := ((H_u1.out.var 3 rfl)).cell 2 rfl
         have B5_u1 := Lib.hid (below_seq B5_Zd.out hB)
         have B9_u1 := Lib.hid (below_seq B9_Zd.out hB)
         have ca0u1 := cell_belowE B9_u1.out C0.out
         have ca1u1 := cell_belowE B9_u1.out C1.out
         have ca2u1 := cell_belowE B9_u1.out C2.out
         clear hB hx20 hy20)
      | (go_at_call_of 12 x20
         refine (equal_ok u1 b2 b20 A2 B2 A20 B20 c2 d2 c20 d20 x2 y2 x20 y20 (H_u1.out.rn 0 rfl) (H_u1.out.rn 1 rfl) (H_u1.out.rn 8 rfl) (H_u1.out.rn 9 rfl) (mkRat 1 8) (mkRat 1 8) HQa2.out HQb2.out HQc2.out HQa20.out HQb20.out HQc20.out).mono ?_
         rw [decide_eq_true (show mkRat 1 8 = mkRat 1 8 from rfl)]
         rintro e_ u2 ⟨rfl, hB⟩
         have H_u2 := Lib.hid (Mo.call H_u1.out hB)
         have k0u2c0 := ((H_u2.out.var 0 rfl)).cell 0 rfl
         have k0u2c1 := ((H_u2.out.var 0 rfl)).cell 1 rfl
         have k0u2c2 := ((H_u2.out.var 0 rfl)).cell 2 rfl
         have k1u2c0 := ((H_u2.out.var 1 rfl)).cell 0 rfl
         have k1u2c1 := ((H_u2.out.var 1 rfl)).cell 1 rfl
         have k1u2c2 := ((H_u2.out.var 1 rfl)).cell 2 rfl
         have k2u2c0 := ((H_u2.out.var 2 rfl)).cell 0 rfl
         have k2u2c1 := ((H_u2.out.var 2 rfl)).cell 1 rfl
         have k2u2c2 := ((H_u2.out.var 2 rfl)).cell 2 rfl
         have k3u2c0 := ((H_u2.out.var 3 rfl)).cell 0 rfl
         have k3u2c1 := ((H_u2.out.var 3 rfl)).cell 1 rfl
         have k3u2c2 := ((H_u2.out.var 3 rfl)).cell 2 rfl
         have B5_u2 := Lib.hid (below_seq B5_u1.out hB)
         have B9_u2 := Lib.hid (below_seq B9_u1.out hB)
         have ca0u2 := cell_belowE B9_u2.out C0.out
         have ca1u2 := cell_belowE B9_u2.out C1.out
         have ca2u2 := cell_belowE B9_u2.out C2.out
         have h_u2 : Mo w u2 [(w2.heap.size, 28, #[.bool b2, .slice A2 x2.length c2, .slice B2 y2.length d2]), (w4.heap.size, 28, #[.bool b4, .slice A4 x4.length c4, .slice B4 y4.length d4]), (w10.heap.size, 28, #[.bool b10, .slice A10 x10.length c10, .slice B10 y10.length d10]), (w10.heap.size + 1, 28, #[.bool b11, .slice A11 x11.length c11, .slice B11 y11.length d11])] [(A4, c4, x4), (B4, d4, y4), (A10, c10, x10), (B10, d10, y10), (A11, c11, x11), (B11, d11, y11)] := H_u2.out.sub [2, 3, 4, 5, 6, 7]
         clear H_u2
         have H_u2 := Lib.hid h_u2
         clear h_u2
         clear hB)
      | (go_at_call 42
         with_reducible (show Calls Tryz.prog _ #[.int .i64 1, .int .i64 2] u2 _)
         refine (part_ok u2 1 2 (by omega) (by omega) (by omega) (by omega)).mono ?_
         rw [show (2 : Int).toNat = 2 from rfl]
         rintro e_ u3 ⟨b21, A21, c21, x21, B21, d21, y21, rfl, HQa21, HQb21, HQc21, hx21, hy21, hB⟩
         have H_u3 := Lib.hid (Mo.num (Mo.num (Mo.call H_u2.out hB) hx21) hy21)
         have k0u3c0 := ((H_u3.out.var 0 rfl)).cell 0 rfl
         have k0u3c1 := ((H_u3.out.var 0 rfl)).cell 1 rfl
         have k0u3c2 := ((H_u3.out.var 0 rfl)).cell 2 rfl
         have k1u3c0 := ((H_u3.out.var 1 rfl)).cell 0 rfl
         have k1u3c1 := ((H_u3.out.var 1 rfl)).cell 1 rfl
         have k1u3c2 := ((H_u3.out.var 1 rfl)).cell 2 rfl
         have k2u3c0 := ((H_u3.out.var 2 rfl)).cell 0 rfl
         have k2u3c1 := ((H_u3.out.var 2 rfl)).cell 1 rfl
         have k2u3c2 := ((H_u3.out.var 2 rfl)).cell 2 rfl
         have k3u3c0 := ((H_u3.out.var 3 rfl)).cell 0 rfl
         have k3u3c1 := ((H_u3.out.var 3 rfl)).cell 1 rfl
         have k3u3c2 := ((H_u3.out.var 3 rfl)).cell 2 rfl
         have B5_u3 := Lib.hid (below_seq B5_u2.out hB)
         have B9_u3 := Lib.hid (below_seq B9_u2.out hB)
         have ca0u3 := cell_belowE B9_u3.out C0.out
         have ca1u3 := cell_belowE B9_u3.out C1.out
         have ca2u3 := cell_belowE B9_u3.out C2.out
         clear hB hx21 hy21)
      | (go_at_call_of 12 x21
         refine (equal_ok u3 b4 b21 A4 B4 A21 B21 c4 d4 c21 d21 x4 y4 x21 y21 (H_u3.out.rn 0 rfl) (H_u3.out.rn 1 rfl) (H_u3.out.rn 6 rfl) (H_u3.out.rn 7 rfl) (mkRat 1 2) (mkRat 1 2) HQa4.out HQb4.out HQc4.out HQa21.out HQb21.out HQc21.out).mono ?_
         rw [decide_eq_true (show mkRat 1 2 = mkRat 1 2 from rfl)]
         rintro e_ u4 ⟨rfl, hB⟩
         have H_u4 := Lib.hid (Mo.call H_u3.out hB)
         have k0u4c0 := ((H_u4.out.var 0 rfl)).cell 0 rfl
         have k0u4c1 := ((H_u4.out.var 0 rfl)).cell 1 rfl
         have k0u4c2 := ((H_u4.out.var 0 rfl)).cell 2 rfl
         have k1u4c0 := ((H_u4.out.var 1 rfl)).cell 0 rfl
         have k1u4c1 := ((H_u4.out.var 1 rfl)).cell 1 rfl
         have k1u4c2 := ((H_u4.out.var 1 rfl)).cell 2 rfl
         have k2u4c0 := ((H_u4.out.var 2 rfl)).cell 0 rfl
         have k2u4c1 := ((H_u4.out.var 2 rfl)).cell 1 rfl
         have k2u4c2 := ((H_u4.out.var 2 rfl)).cell 2 rfl
         have k3u4c0 := ((H_u4.out.var 3 rfl)).cell 0 rfl
         have k3u4c1 := ((H_u4.out.var 3 rfl)).cell 1 rfl
         have k3u4c2 := ((H_u4.out.var 3 rfl)).cell 2 rfl
         have B5_u4 := Lib.hid (below_seq B5_u3.out hB)
         have B9_u4 := Lib.hid (below_seq B9_u3.out hB)
         have ca0u4 := cell_belowE B9_u4.out C0.out
         have ca1u4 := cell_belowE B9_u4.out C1.out
         have ca2u4 := cell_belowE B9_u4.out C2.out
         have h_u4 : Mo w u4 [(w2.heap.size, 28, #[.bool b2, .slice A2 x2.length c2, .slice B2 y2.length d2]), (w4.heap.size, 28, #[.bool b4, .slice A4 x4.length c4, .slice B4 y4.length d4]), (w10.heap.size, 28, #[.bool b10, .slice A10 x10.length c10, .slice B10 y10.length d10]), (w10.heap.size + 1, 28, #[.bool b11, .slice A11 x11.length c11, .slice B11 y11.length d11])] [(A10, c10, x10), (B10, d10, y10), (A11, c11, x11), (B11, d11, y11)] := H_u4.out.sub [2, 3, 4, 5]
         clear H_u4
         have H_u4 := Lib.hid h_u4
         clear h_u4
         clear hB)
      | (go_at_call 42
         with_reducible (show Calls Tryz.prog _ #[.int .i64 1, .int .i64 1] u4 _)
         refine (part_ok u4 1 1 (by omega) (by omega) (by omega) (by omega)).mono ?_
         rw [show (1 : Int).toNat = 1 from rfl]
         rintro e_ u5 ⟨b22, A22, c22, x22, B22, d22, y22, rfl, HQa22, HQb22, HQc22, hx22, hy22, hB⟩
         have H_u5 := Lib.hid (Mo.num (Mo.num (Mo.call H_u4.out hB) hx22) hy22)
         have k0u5c0 := ((H_u5.out.var 0 rfl)).cell 0 rfl
         have k0u5c1 := ((H_u5.out.var 0 rfl)).cell 1 rfl
         have k0u5c2 := ((H_u5.out.var 0 rfl)).cell 2 rfl
         have k1u5c0 := ((H_u5.out.var 1 rfl)).cell 0 rfl
         have k1u5c1 := ((H_u5.out.var 1 rfl)).cell 1 rfl
         have k1u5c2 := ((H_u5.out.var 1 rfl)).cell 2 rfl
         have k2u5c0 := ((H_u5.out.var 2 rfl)).cell 0 rfl
         have k2u5c1 := ((H_u5.out.var 2 rfl)).cell 1 rfl
         have k2u5c2 := ((H_u5.out.var 2 rfl)).cell 2 rfl
         have k3u5c0 := ((H_u5.out.var 3 rfl)).cell 0 rfl
         have k3u5c1 := ((H_u5.out.var 3 rfl)).cell 1 rfl
         have k3u5c2 := ((H_u5.out.var 3 rfl)).cell 2 rfl
         have B5_u5 := Lib.hid (below_seq B5_u4.out hB)
         have B9_u5 := Lib.hid (below_seq B9_u4.out hB)
         have ca0u5 := cell_belowE B9_u5.out C0.out
         have ca1u5 := cell_belowE B9_u5.out C1.out
         have ca2u5 := cell_belowE B9_u5.out C2.out
         clear hB hx22 hy22)
      | (go_at_call 42
         with_reducible (show Calls Tryz.prog _ #[.int .i64 2, .int .i64 1] u5 _)
         refine (part_ok u5 2 1 (by omega) (by omega) (by omega) (by omega)).mono ?_
         rw [show (1 : Int).toNat = 1 from rfl]
         rintro e_ u6 ⟨b23, A23, c23, x23, B23, d23, y23, rfl, HQa23, HQb23, HQc23, hx23, hy23, hB⟩
         have H_u6 := Lib.hid (Mo.num (Mo.num (Mo.call H_u5.out hB) hx23) hy23)
         have k0u6c0 := ((H_u6.out.var 0 rfl)).cell 0 rfl
         have k0u6c1 := ((H_u6.out.var 0 rfl)).cell 1 rfl
         have k0u6c2 := ((H_u6.out.var 0 rfl)).cell 2 rfl
         have k1u6c0 := ((H_u6.out.var 1 rfl)).cell 0 rfl
         have k1u6c1 := ((H_u6.out.var 1 rfl)).cell 1 rfl
         have k1u6c2 := ((H_u6.out.var 1 rfl)).cell 2 rfl
         have k2u6c0 := ((H_u6.out.var 2 rfl)).cell 0 rfl
         have k2u6c1 := ((H_u6.out.var 2 rfl)).cell 1 rfl
         have k2u6c2 := ((H_u6.out.var 2 rfl)).cell 2 rfl
         have k3u6c0 := ((H_u6.out.var 3 rfl)).cell 0 rfl
         have k3u6c1 := ((H_u6.out.var 3 rfl)).cell 1 rfl
         have k3u6c2 := ((H_u6.out.var 3 rfl)).cell 2 rfl
         have B5_u6 := Lib.hid (below_seq B5_u5.out hB)
         have B9_u6 := Lib.hid (below_seq B9_u5.out hB)
         have ca0u6 := cell_belowE B9_u6.out C0.out
         have ca1u6 := cell_belowE B9_u6.out C1.out
         have ca2u6 := cell_belowE B9_u6.out C2.out
         clear hB hx23 hy23)
      | (go_at_call 42
         with_reducible (show Calls Tryz.prog _ #[.int .i64 3, .int .i64 1] u6 _)
         refine (part_ok u6 3 1 (by omega) (by omega) (by omega) (by omega)).mono ?_
         rw [show (1 : Int).toNat = 1 from rfl]
         rintro e_ u7 ⟨b24, A24, c24, x24, B24, d24, y24, rfl, HQa24, HQb24, HQc24, hx24, hy24, hB⟩
         have H_u7 := Lib.hid (Mo.num (Mo.num (Mo.call H_u6.out hB) hx24) hy24)
         have k0u7c0 := ((H_u7.out.var 0 rfl)).cell 0 rfl
         have k0u7c1 := ((H_u7.out.var 0 rfl)).cell 1 rfl
         have k0u7c2 := ((H_u7.out.var 0 rfl)).cell 2 rfl
         have k1u7c0 := ((H_u7.out.var 1 rfl)).cell 0 rfl
         have k1u7c1 := ((H_u7.out.var 1 rfl)).cell 1 rfl
         have k1u7c2 := ((H_u7.out.var 1 rfl)).cell 2 rfl
         have k2u7c0 := ((H_u7.out.var 2 rfl)).cell 0 rfl
         have k2u7c1 := ((H_u7.out.var 2 rfl)).cell 1 rfl
         have k2u7c2 := ((H_u7.out.var 2 rfl)).cell 2 rfl
         have k3u7c0 := ((H_u7.out.var 3 rfl)).cell 0 rfl
         have k3u7c1 := ((H_u7.out.var 3 rfl)).cell 1 rfl
         have k3u7c2 := ((H_u7.out.var 3 rfl)).cell 2 rfl
         have B5_u7 := Lib.hid (below_seq B5_u6.out hB)
         have B9_u7 := Lib.hid (below_seq B9_u6.out hB)
         have ca0u7 := cell_belowE B9_u7.out C0.out
         have ca1u7 := cell_belowE B9_u7.out C1.out
         have ca2u7 := cell_belowE B9_u7.out C2.out
         clear hB hx24 hy24)
      | (go_at_call 18
         have HNL3 : Hid (nfL [⟨b22, A22, c22, x22, B22, d22, y22⟩, ⟨b23, A23, c23, x23, B23, d23, y23⟩, ⟨b24, A24, c24, x24, B24, d24, y24⟩] [mkRat 1 1, mkRat 2 1, mkRat 3 1]) := ⟨rfl, fun j r hj => aw3 hj HQa22.out HQb22.out HQc22.out HQa23.out HQb23.out HQc23.out HQa24.out HQb24.out HQc24.out⟩
         have hbl := (Below.refl u7.heap.size u7).alloc (Nat.le_refl _) (.cells #[.bool b22, .slice A22 x22.length c22, .slice B22 y22.length d22, .bool b23, .slice A23 x23.length c23, .slice B23 y23.length d23, .bool b24, .slice A24 x24.length c24, .slice B24 y24.length d24] 28 (0, 0))
         refine (equals_ok _ TA (some ⟨u7.heap.size, 0, none⟩) tc 3 rs [⟨b22, A22, c22, x22, B22, d22, y22⟩, ⟨b23, A23, c23, x23, B23, d23, y23⟩, ⟨b24, A24, c24, x24, B24, d24, y24⟩] (HTT.out.below (below_seq B5_u7.out hbl)) (lit3 u7 ⟨b22, A22, c22, x22, B22, d22, y22⟩ ⟨b23, A23, c23, x23, B23, d23, y23⟩ ⟨b24, A24, c24, x24, B24, d24, y24⟩ ⟨(H_u7.out.rn 4 rfl), (H_u7.out.rn 5 rfl)⟩ ⟨(H_u7.out.rn 6 rfl), (H_u7.out.rn 7 rfl)⟩ ⟨(H_u7.out.rn 8 rfl), (H_u7.out.rn 9 rfl)⟩) [mkRat 1 1, mkRat 2 1, mkRat 3 1] [mkRat 1 1, mkRat 2 1, mkRat 3 1] HNL.out HNL3.out).mono ?_
         rw [decide_eq_true (show ([mkRat 1 1, mkRat 2 1, mkRat 3 1] : List Rat) = [mkRat 1 1, mkRat 2 1, mkRat 3 1] from rfl)]
         rintro e_ u8 ⟨rfl, hB⟩
         have hB := below_seq hbl hB
         have H_u8 := Lib.hid (Mo.call H_u7.out hB)
         have k0u8c0 := ((H_u8.out.var 0 rfl)).cell 0 rfl
         have k0u8c1 := ((H_u8.out.var 0 rfl)).cell 1 rfl
         have k0u8c2 := ((H_u8.out.var 0 rfl)).cell 2 rfl
         have k1u8c0 := ((H_u8.out.var 1 rfl)).cell 0 rfl
         have k1u8c1 := ((H_u8.out.var 1 rfl)).cell 1 rfl
         have k1u8c2 := ((H_u8.out.var 1 rfl)).cell 2 rfl
         have k2u8c0 := ((H_u8.out.var 2 rfl)).cell 0 rfl
         have k2u8c1 := ((H_u8.out.var 2 rfl)).cell 1 rfl
         have k2u8c2 := ((H_u8.out.var 2 rfl)).cell 2 rfl
         have k3u8c0 := ((H_u8.out.var 3 rfl)).cell 0 rfl
         have k3u8c1 := ((H_u8.out.var 3 rfl)).cell 1 rfl
         have k3u8c2 := ((H_u8.out.var 3 rfl)).cell 2 rfl
         have B5_u8 := Lib.hid (below_seq B5_u7.out hB)
         have B9_u8 := Lib.hid (below_seq B9_u7.out hB)
         have ca0u8 := cell_belowE B9_u8.out C0.out
         have ca1u8 := cell_belowE B9_u8.out C1.out
         have ca2u8 := cell_belowE B9_u8.out C2.out
         have h_u8 : Mo w u8 [(w2.heap.size, 28, #[.bool b2, .slice A2 x2.length c2, .slice B2 y2.length d2]), (w4.heap.size, 28, #[.bool b4, .slice A4 x4.length c4, .slice B4 y4.length d4]), (w10.heap.size, 28, #[.bool b10, .slice A10 x10.length c10, .slice B10 y10.length d10]), (w10.heap.size + 1, 28, #[.bool b11, .slice A11 x11.length c11, .slice B11 y11.length d11])] [(A10, c10, x10), (B10, d10, y10), (A11, c11, x11), (B11, d11, y11)] := H_u8.out.sub [0, 1, 2, 3]
         clear H_u8
         have H_u8 := Lib.hid h_u8
         clear h_u8
         clear hB hbl)
      | (go_at_call 42
         with_reducible (show Calls Tryz.prog _ #[.int .i64 1, .int .i64 1] u8 _)
         refine (part_ok u8 1 1 (by omega) (by omega) (by omega) (by omega)).mono ?_
         rw [show (1 : Int).toNat = 1 from rfl]
         rintro e_ u9 ⟨b25, A25, c25, x25, B25, d25, y25, rfl, HQa25, HQb25, HQc25, hx25, hy25, hB⟩
         have H_u9 := Lib.hid (Mo.num (Mo.num (Mo.call H_u8.out hB) hx25) hy25)
         have k0u9c0 := ((H_u9.out.var 0 rfl)).cell 0 rfl
         have k0u9c1 := ((H_u9.out.var 0 rfl)).cell 1 rfl
         have k0u9c2 := ((H_u9.out.var 0 rfl)).cell 2 rfl
         have k1u9c0 := ((H_u9.out.var 1 rfl)).cell 0 rfl
         have k1u9c1 := ((H_u9.out.var 1 rfl)).cell 1 rfl
         have k1u9c2 := ((H_u9.out.var 1 rfl)).cell 2 rfl
         have k2u9c0 := ((H_u9.out.var 2 rfl)).cell 0 rfl
         have k2u9c1 := ((H_u9.out.var 2 rfl)).cell 1 rfl
         have k2u9c2 := ((H_u9.out.var 2 rfl)).cell 2 rfl
         have k3u9c0 := ((H_u9.out.var 3 rfl)).cell 0 rfl
         have k3u9c1 := ((H_u9.out.var 3 rfl)).cell 1 rfl
         have k3u9c2 := ((H_u9.out.var 3 rfl)).cell 2 rfl
         have B5_u9 := Lib.hid (below_seq B5_u8.out hB)
         have B9_u9 := Lib.hid (below_seq B9_u8.out hB)
         have ca0u9 := cell_belowE B9_u9.out C0.out
         have ca1u9 := cell_belowE B9_u9.out C1.out
         have ca2u9 := cell_belowE B9_u9.out C2.out
         clear hB hx25 hy25)
      | (go_at_call_of 12 x25
         refine (equal_ok u9 b10 b25 A10 B10 A25 B25 c10 d10 c25 d25 x10 y10 x25 y25 (H_u9.out.rn 0 rfl) (H_u9.out.rn 1 rfl) (H_u9.out.rn 4 rfl) (H_u9.out.rn 5 rfl) (mkRat 1 1) (mkRat 1 1) HQa10.out HQb10.out HQc10.out HQa25.out HQb25.out HQc25.out).mono ?_
         rw [decide_eq_true (show mkRat 1 1 = mkRat 1 1 from rfl)]
         rintro e_ v1 ⟨rfl, hB⟩
         have H_v1 := Lib.hid (Mo.call H_u9.out hB)
         have k0v1c0 := ((H_v1.out.var 0 rfl)).cell 0 rfl
         have k0v1c1 := ((H_v1.out.var 0 rfl)).cell 1 rfl
         have k0v1c2 := ((H_v1.out.var 0 rfl)).cell 2 rfl
         have k1v1c0 := ((H_v1.out.var 1 rfl)).cell 0 rfl
         have k1v1c1 := ((H_v1.out.var 1 rfl)).cell 1 rfl
         have k1v1c2 := ((H_v1.out.var 1 rfl)).cell 2 rfl
         have k2v1c0 := ((H_v1.out.var 2 rfl)).cell 0 rfl
         have k2v1c1 := ((H_v1.out.var 2 rfl)).cell 1 rfl
         have k2v1c2 := ((H_v1.out.var 2 rfl)).cell 2 rfl
         have k3v1c0 := ((H_v1.out.var 3 rfl)).cell 0 rfl
         have k3v1c1 := ((H_v1.out.var 3 rfl)).cell 1 rfl
         have k3v1c2 := ((H_v1.out.var 3 rfl)).cell 2 rfl
         have B5_v1 := Lib.hid (below_seq B5_u9.out hB)
         have B9_v1 := Lib.hid (below_seq B9_u9.out hB)
         have ca0v1 := cell_belowE B9_v1.out C0.out
         have ca1v1 := cell_belowE B9_v1.out C1.out
         have ca2v1 := cell_belowE B9_v1.out C2.out
         have h_v1 : Mo w v1 [(w2.heap.size, 28, #[.bool b2, .slice A2 x2.length c2, .slice B2 y2.length d2]), (w4.heap.size, 28, #[.bool b4, .slice A4 x4.length c4, .slice B4 y4.length d4]), (w10.heap.size, 28, #[.bool b10, .slice A10 x10.length c10, .slice B10 y10.length d10]), (w10.heap.size + 1, 28, #[.bool b11, .slice A11 x11.length c11, .slice B11 y11.length d11])] [(A11, c11, x11), (B11, d11, y11)] := H_v1.out.sub [2, 3]
         clear H_v1
         have H_v1 := Lib.hid h_v1
         clear h_v1
         clear hB)
      | (go_at_call 42
         with_reducible (show Calls Tryz.prog _ #[.int .i64 1, .int .i64 2] v1 _)
         refine (part_ok v1 1 2 (by omega) (by omega) (by omega) (by omega)).mono ?_
         rw [show (2 : Int).toNat = 2 from rfl]
         rintro e_ v2 ⟨b26, A26, c26, x26, B26, d26, y26, rfl, HQa26, HQb26, HQc26, hx26, hy26, hB⟩
         have H_v2 := Lib.hid (Mo.num (Mo.num (Mo.call H_v1.out hB) hx26) hy26)
         have k0v2c0 := ((H_v2.out.var 0 rfl)).cell 0 rfl
         have k0v2c1 := ((H_v2.out.var 0 rfl)).cell 1 rfl
         have k0v2c2 := ((H_v2.out.var 0 rfl)).cell 2 rfl
         have k1v2c0 := ((H_v2.out.var 1 rfl)).cell 0 rfl
         have k1v2c1 := ((H_v2.out.var 1 rfl)).cell 1 rfl
         have k1v2c2 := ((H_v2.out.var 1 rfl)).cell 2 rfl
         have k2v2c0 := ((H_v2.out.var 2 rfl)).cell 0 rfl
         have k2v2c1 := ((H_v2.out.var 2 rfl)).cell 1 rfl
         have k2v2c2 := ((H_v2.out.var 2 rfl)).cell 2 rfl
         have k3v2c0 := ((H_v2.out.var 3 rfl)).cell 0 rfl
         have k3v2c1 := ((H_v2.out.var 3 rfl)).cell 1 rfl
         have k3v2c2 := ((H_v2.out.var 3 rfl)).cell 2 rfl
         have B5_v2 := Lib.hid (below_seq B5_v1.out hB)
         have B9_v2 := Lib.hid (below_seq B9_v1.out hB)
         have ca0v2 := cell_belowE B9_v2.out C0.out
         have ca1v2 := cell_belowE B9_v2.out C1.out
         have ca2v2 := cell_belowE B9_v2.out C2.out
         clear hB hx26 hy26)
      | (go_at_call_of 12 x26
         refine (equal_ok v2 b11 b26 A11 B11 A26 B26 c11 d11 c26 d26 x11 y11 x26 y26 (H_v2.out.rn 0 rfl) (H_v2.out.rn 1 rfl) (H_v2.out.rn 2 rfl) (H_v2.out.rn 3 rfl) (mkRat 1 2) (mkRat 1 2) HQa11.out HQb11.out HQc11.out HQa26.out HQb26.out HQc26.out).mono ?_
         rw [decide_eq_true (show mkRat 1 2 = mkRat 1 2 from rfl)]
         rintro e_ v3 ⟨rfl, hB⟩
         have H_v3 := Lib.hid (Mo.call H_v2.out hB)
         have k0v3c0 := ((H_v3.out.var 0 rfl)).cell 0 rfl
         have k0v3c1 := ((H_v3.out.var 0 rfl)).cell 1 rfl
         have k0v3c2 := ((H_v3.out.var 0 rfl)).cell 2 rfl
         have k1v3c0 := ((H_v3.out.var 1 rfl)).cell 0 rfl
         have k1v3c1 := ((H_v3.out.var 1 rfl)).cell 1 rfl
         have k1v3c2 := ((H_v3.out.var 1 rfl)).cell 2 rfl
         have k2v3c0 := ((H_v3.out.var 2 rfl)).cell 0 rfl
         have k2v3c1 := ((H_v3.out.var 2 rfl)).cell 1 rfl
         have k2v3c2 := ((H_v3.out.var 2 rfl)).cell 2 rfl
         have k3v3c0 := ((H_v3.out.var 3 rfl)).cell 0 rfl
         have k3v3c1 := ((H_v3.out.var 3 rfl)).cell 1 rfl
         have k3v3c2 := ((H_v3.out.var 3 rfl)).cell 2 rfl
         have B5_v3 := Lib.hid (below_seq B5_v2.out hB)
         have B9_v3 := Lib.hid (below_seq B9_v2.out hB)
         have ca0v3 := cell_belowE B9_v3.out C0.out
         have ca1v3 := cell_belowE B9_v3.out C1.out
         have ca2v3 := cell_belowE B9_v3.out C2.out
         have h_v3 : Mo w v3 [(w2.heap.size, 28, #[.bool b2, .slice A2 x2.length c2, .slice B2 y2.length d2]), (w4.heap.size, 28, #[.bool b4, .slice A4 x4.length c4, .slice B4 y4.length d4]), (w10.heap.size, 28, #[.bool b10, .slice A10 x10.length c10, .slice B10 y10.length d10]), (w10.heap.size + 1, 28, #[.bool b11, .slice A11 x11.length c11, .slice B11 y11.length d11])] [] := H_v3.out.sub []
         clear H_v3
         have H_v3 := Lib.hid h_v3
         clear h_v3
         clear hB))
  | fail
  go_wp2_with fail
  go_ret
  exact ⟨rfl, below_seq HB0.out H_v3.out.below⟩

end Go.Proofs.YtocpncjmcaecoaaGreat.M
