/- Ratios of the reference: differences, the integer part. -/
import Derived.Test.YtocpncjmcaecoaaGreatRefAdd
import Derived.Test.YtocpncjmcaecoaaGreatRefIntC
namespace Go.Proofs.YtocpncjmcaecoaaGreat.M
set_option maxRecDepth 10000
open Go.RowKit
set_option linter.unusedVariables false
set_option linter.unusedSimpArgs false
theorem qv_is2 {b : Bool} {x y : List Int} {q : Rat} (h1 : b = decide (q.num < 0)) (h2 : x = limbs q.num.natAbs) (h3 : y = limbs q.den) : qv b x y = q := by rw [h1, h2, h3]; exact qv_norm q
/-- The integer part of a fraction. -/
theorem qv_floor {b : Bool} {xs ys : List Int} (hy : Lim ys) : qn b xs ys / qd ys = (qv b xs ys).num / ((qv b xs ys).den : Int) := by
  have h0 := qd_pos hy
  obtain ⟨m, h1, h2, h3⟩ := mk_parts (n := qn b xs ys) (d := (qd ys).toNat) (by omega)
  rw [← qv_parts hy] at h2 h3
  have h4 : qd ys = ((qv b xs ys).den : Int) * (m : Int) := by
    have : (((qd ys).toNat : Nat) : Int) = (((qv b xs ys).den * m : Nat) : Int) := by rw [← h3]
    rw [Int.natCast_mul] at this
    omega
  rw [h2, h4]
  exact Int.mul_ediv_mul_of_pos_left _ _ (by omega)
/-- The parts of a normal form. -/
theorem nq_parts {b : Bool} {x y : List Int} {q : Rat} (h1 : b = decide (q.num < 0)) (h2 : x = limbs q.num.natAbs) (h3 : y = limbs q.den) : qn b x y = q.num ∧ qd y = (q.den : Int) := by
  have h := q.den_nz
  have hv : V y = (q.den : Int) := by rw [h3, V_limbs]
  unfold qn qd
  rw [hv, if_neg (by omega), if_neg (by omega), h1, h2]
  exact ⟨zv_norm _, rfl⟩
set_option maxHeartbeats 1600000 in
theorem rqsubV_ok (w : World) (p q : Bool) (P P2 Q Q2 : Option Addr) (cp cp2 cq cq2 : Nat) (xs ys us vs : List Int) (hx : RN w P cp xs) (hy : RN w P2 cp2 ys) (hu : RN w Q cq us) (hw : RN w Q2 cq2 vs) (hsxs : xs.length ≤ 35184372088790) (hsys : ys.length ≤ 35184372088790) (hsus : us.length ≤ 35184372088790) (hsvs : vs.length ≤ 35184372088790) (hm1 : xs.length + vs.length + 2 ≤ 70368744177664) (hm2 : us.length + ys.length + 2 ≤ 70368744177664) (hb3 : ys.length + vs.length + 3 ≤ 35184372088800) (hl1 : (limbs (qn p xs ys * (qv q us vs).den).natAbs).length ≤ 35184372088790) (hl2 : (limbs ((qv q us vs).num * qd ys).natAbs).length ≤ 35184372088790) :
    Calls Tryz.prog 38 #[.agg #[.bool p, .slice P xs.length cp, .slice P2 ys.length cp2], .agg #[.bool q, .slice Q us.length cq, .slice Q2 vs.length cq2]] w (RetQ (qv p xs ys - qv q us vs) w) := by
  have HX := Lib.hid hx
  have HY := Lib.hid hy
  have HU := Lib.hid hu
  have HW := Lib.hid hw
  clear hx hy hu hw
  have HL1 := Lib.hid hl1
  have HL2 := Lib.hid hl2
  clear hl1 hl2
  go_enter Tryz.func38, Tryz.ntmps38
  go_upto_region 1 with fail
  obtain ⟨W, hW⟩ : ∃ W, W = (((w.alloc (.cells #[.bool p, .slice P xs.length cp, .slice P2 ys.length cp2] 28)).alloc (.cells #[.bool q, .slice Q us.length cq, .slice Q2 vs.length cq2] 28)).alloc (.cells #[.bool false, .slice none 0 0, .slice none 0 0] 28)) := ⟨_, rfl⟩
  rw [← hW]
  have H_W : Mo w W [(w.heap.size, 28, #[.bool p, .slice P xs.length cp, .slice P2 ys.length cp2]), (w.heap.size + 1, 28, #[.bool q, .slice Q us.length cq, .slice Q2 vs.length cq2]), (w.heap.size + 1 + 1, 28, #[.bool false, .slice none 0 0, .slice none 0 0])] [] := by
    rw [hW]
    have h := ((((Mo.start w).alloc (t := 28) (cs := #[.bool p, .slice P xs.length cp, .slice P2 ys.length cp2]) (nd_rat _ _ _ _ _ _ _)).alloc (t := 28) (cs := #[.bool q, .slice Q us.length cq, .slice Q2 vs.length cq2]) (nd_rat _ _ _ _ _ _ _)).alloc (t := 28) (cs := #[.bool false, .slice none 0 0, .slice none 0 0]) (nd_rat _ _ _ _ _ _ _))
    simp only [size_alloc, List.nil_append, List.cons_append] at h
    exact h
  clear hW
  obtain ⟨gW2, hgW2⟩ : ∃ g, w.heap.size + 1 + 1 = g := ⟨_, rfl⟩
  rw [hgW2] at H_W ⊢
  clear hgW2
  obtain ⟨gW1, hgW1⟩ : ∃ g, w.heap.size + 1 = g := ⟨_, rfl⟩
  rw [hgW1] at H_W ⊢
  clear hgW1
  have neW01 : w.heap.size ≠ gW1 := H_W.apart 0 1 _ _ _ _ _ _ rfl rfl (by decide)
  have neW02 : w.heap.size ≠ gW2 := H_W.apart 0 2 _ _ _ _ _ _ rfl rfl (by decide)
  have neW10 : gW1 ≠ w.heap.size := H_W.apart 1 0 _ _ _ _ _ _ rfl rfl (by decide)
  have neW12 : gW1 ≠ gW2 := H_W.apart 1 2 _ _ _ _ _ _ rfl rfl (by decide)
  have neW20 : gW2 ≠ w.heap.size := H_W.apart 2 0 _ _ _ _ _ _ rfl rfl (by decide)
  have neW21 : gW2 ≠ gW1 := H_W.apart 2 1 _ _ _ _ _ _ rfl rfl (by decide)
  have H_W := Lib.hid H_W
  have k0Wc0 := ((H_W.out.var 0 rfl)).cell 0 rfl
  have k0Wc1 := ((H_W.out.var 0 rfl)).cell 1 rfl
  have k0Wc2 := ((H_W.out.var 0 rfl)).cell 2 rfl
  have k1Wc0 := ((H_W.out.var 1 rfl)).cell 0 rfl
  have k1Wc1 := ((H_W.out.var 1 rfl)).cell 1 rfl
  have k1Wc2 := ((H_W.out.var 1 rfl)).cell 2 rfl
  have H_Wd := Lib.hid H_W.out.drew
  first
  | go_region_held3 (fun w' => w'.cell? ⟨w.heap.size, 0, none⟩ = some (.bool p) ∧ w'.cell? ⟨w.heap.size, 1, none⟩ = some (.slice P xs.length cp) ∧ w'.cell? ⟨w.heap.size, 2, none⟩ = some (.slice P2 ys.length cp2) ∧ w'.cell? ⟨gW1, 0, none⟩ = some (.bool q) ∧ w'.cell? ⟨gW1, 1, none⟩ = some (.slice Q us.length cq) ∧ w'.cell? ⟨gW1, 2, none⟩ = some (.slice Q2 vs.length cq2)) (go_keep)
     (first
      | (go_at_call 69
         refine (rqneg_ok W.drew q Q Q2 cq cq2 us vs (HU.out.below H_Wd.out.below) (HW.out.below H_Wd.out.below) (by omega) (by omega)).mono ?_
         rintro e_ w1 ⟨b3, A3, c3, x3, B3, d3, y3, rfl, HQ1, HQ2, HQ3, hx3, hy3, hB⟩
         have H_w1 := Lib.hid (Mo.num (Mo.num (Mo.call H_Wd.out hB) hx3) hy3)
         have k0w1c0 := ((H_w1.out.var 0 rfl)).cell 0 rfl
         have k0w1c1 := ((H_w1.out.var 0 rfl)).cell 1 rfl
         have k0w1c2 := ((H_w1.out.var 0 rfl)).cell 2 rfl
         have k1w1c0 := ((H_w1.out.var 1 rfl)).cell 0 rfl
         have k1w1c1 := ((H_w1.out.var 1 rfl)).cell 1 rfl
         have k1w1c2 := ((H_w1.out.var 1 rfl)).cell 2 rfl
         have HN3 : Hid (qv b3 x3 y3 = -qv q us vs) := qv_is2 HQ1.out HQ2.out HQ3.out
         have hl3 := qlen (b := q) HU.out.2 HW.out.2
         have HLX3 : Hid (x3.length ≤ us.length) := by show _ ≤ _; rw [HQ2.out, Rat.neg_num, Int.natAbs_neg]; exact hl3.1
         have HLY3 : Hid (y3.length ≤ vs.length + 1) := by show _ ≤ _; rw [HQ3.out, Rat.neg_den]; exact hl3.2
         clear hl3
         clear hB hx3 hy3)
      | (go_at_call 39
         refine (rqaddV_ok w1 p b3 P P2 A3 B3 cp cp2 c3 d3 xs ys x3 y3 (HX.out.below H_w1.out.below) (HY.out.below H_w1.out.below) (H_w1.out.rn 0 rfl) (H_w1.out.rn 1 rfl) (by omega) (by omega) (by have := HLX3.out; omega) (by have := HLY3.out; omega) (by have := HLY3.out; omega) (by have := HLX3.out; omega) (by have := HLY3.out; omega) (by rw [(nq_parts HQ1.out HQ2.out HQ3.out).2, Rat.neg_den]; exact HL1.out) (by rw [(nq_parts HQ1.out HQ2.out HQ3.out).1, Rat.neg_num, Int.neg_mul, Int.natAbs_neg]; exact HL2.out)).mono ?_
         rintro e_ w2 ⟨b4, A4, c4, x4, B4, d4, y4, rfl, HR1, HR2, HR3, hx4, hy4, hB⟩
         have H_w2 := Lib.hid (Mo.num (Mo.num (Mo.call H_w1.out hB) hx4) hy4)
         have k0w2c0 := ((H_w2.out.var 0 rfl)).cell 0 rfl
         have k0w2c1 := ((H_w2.out.var 0 rfl)).cell 1 rfl
         have k0w2c2 := ((H_w2.out.var 0 rfl)).cell 2 rfl
         have k1w2c0 := ((H_w2.out.var 1 rfl)).cell 0 rfl
         have k1w2c1 := ((H_w2.out.var 1 rfl)).cell 1 rfl
         have k1w2c2 := ((H_w2.out.var 1 rfl)).cell 2 rfl
         have k2w2c0 := ((H_w2.out.var 2 rfl)).cell 0 rfl
         have k2w2c1 := ((H_w2.out.var 2 rfl)).cell 1 rfl
         have k2w2c2 := ((H_w2.out.var 2 rfl)).cell 2 rfl
         have k2w2f0 := ((H_w2.out.var 2 rfl)).thaw 0
         have k2w2f1 := ((H_w2.out.var 2 rfl)).thaw 1
         have k2w2f2 := ((H_w2.out.var 2 rfl)).thaw 2
         rw [HN3.out, ← Rat.sub_eq_add_neg] at HR1 HR2 HR3
         clear hB hx4 hy4))
  | fail
  go_wp2_with fail
  have hr0 := (H_w2.out).set 2 (j := 0) (v := .bool b4) (cs' := #[.bool b4, .slice none 0 0, .slice none 0 0]) rfl rfl (nd_rat _ _ _ _ _ _ _)
  have hr1 := (hr0).set 2 (j := 1) (v := .slice A4 x4.length c4) (cs' := #[.bool b4, .slice A4 x4.length c4, .slice none 0 0]) rfl rfl (nd_rat _ _ _ _ _ _ _)
  have hr2 := (hr1).set 2 (j := 2) (v := .slice B4 y4.length d4) (cs' := #[.bool b4, .slice A4 x4.length c4, .slice B4 y4.length d4]) rfl rfl (nd_rat _ _ _ _ _ _ _)
  have v3 : Vr (((w2.setCell ⟨gW2, 0, none⟩ (.bool b4)).setCell ⟨gW2, 1, none⟩ (.slice A4 x4.length c4)).setCell ⟨gW2, 2, none⟩ (.slice B4 y4.length d4)) gW2 28 #[.bool b4, .slice A4 x4.length c4, .slice B4 y4.length d4] := hr2.var 2 rfl
  refine bodyPost_ret (v := .agg #[.bool b4, .slice A4 x4.length c4, .slice B4 y4.length d4]) (by simp [results, Tryz.results38, go_sem, v3.cell 0 rfl, v3.cell 1 rfl, v3.cell 2 rfl]) rfl ?_
  exact ⟨b4, A4, c4, x4, B4, d4, y4, rfl, HR1, HR2, HR3, hr2.rn 2 rfl, hr2.rn 3 rfl, hr2.below⟩
theorem rqsub_ok (w : World) (p q : Bool) (P P2 Q Q2 : Option Addr) (cp cp2 cq cq2 : Nat) (xs ys us vs : List Int) (hx : RN w P cp xs) (hy : RN w P2 cp2 ys) (hu : RN w Q cq us) (hw : RN w Q2 cq2 vs) (hb1 : xs.length + vs.length + 4 ≤ 35184372088790) (hb2 : us.length + ys.length + 4 ≤ 35184372088790) (hb3 : ys.length + vs.length + 3 ≤ 35184372088790) :
    Calls Tryz.prog 38 #[.agg #[.bool p, .slice P xs.length cp, .slice P2 ys.length cp2], .agg #[.bool q, .slice Q us.length cq, .slice Q2 vs.length cq2]] w (RetQ (qv p xs ys - qv q us vs) w) := by
  have hq := qlen (b := q) hu.2 hw.2
  refine rqsubV_ok w p q P P2 Q Q2 cp cp2 cq cq2 xs ys us vs hx hy hu hw (by omega) (by omega) (by omega) (by omega) (by omega) (by omega) (by omega) ?_ ?_
  · rw [Int.natAbs_mul, Int.natAbs_natCast]
    have h1 := nat_mul_len (qn p xs ys).natAbs (qv q us vs).den
    have h2 := qn_len (b := p) (ys := ys) hx.2
    omega
  · rw [Int.natAbs_mul]
    have h1 := nat_mul_len (qv q us vs).num.natAbs (qd ys).natAbs
    have h3 := qd_len hy.2
    have h4 : (qd ys).natAbs = (qd ys).toNat := by have := qd_pos hy.2; omega
    rw [h4] at h1 ⊢
    omega

end Go.Proofs.YtocpncjmcaecoaaGreat.M
