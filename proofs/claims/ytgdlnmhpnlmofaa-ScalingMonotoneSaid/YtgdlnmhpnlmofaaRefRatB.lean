/- Rational numbers of the reference: making, comparison, product. -/
import Derived.Test.YtgdlnmhpnlmofaaRefRat
namespace Go.Proofs.Ytgdlnmhpnlmofaa.M
set_option maxRecDepth 10000
open Go.RowKit
set_option linter.unusedVariables false
set_option linter.unusedSimpArgs false
theorem qn_len {b : Bool} {xs ys : List Int} (h : Lim xs) : (limbs (qn b xs ys).natAbs).length ≤ xs.length := by
  unfold qn
  split
  · exact Nat.zero_le _
  · rw [zv_abs b h]
    have h1 := limbs_div_len h 1
    rwa [Nat.div_one] at h1
theorem qd_len {ys : List Int} (h : Lim ys) : (limbs (qd ys).toNat).length ≤ ys.length + 1 := by
  unfold qd
  split
  · exact Nat.le_trans (limbs_len (m := 1) (by decide)) (by omega)
  · have h1 := limbs_div_len h 1
    rw [Nat.div_one] at h1
    omega
theorem below_on {w W1 w2 : World} {B : Nat} (h : Below B w W1) (hB : Below W1.heap.size W1 w2) (hs : B ≤ w.heap.size := by exact Nat.le_refl _) : Below B w w2 := h.trans (hB.mono (Nat.le_trans hs h.size))

set_option maxHeartbeats 6400000 in
theorem rqcmp_ok (w : World) (p q : Bool) (P P2 Q Q2 : Option Addr) (cp cp2 cq cq2 : Nat) (xs ys us vs : List Int) (hx : RN w P cp xs) (hy : RN w P2 cp2 ys) (hu : RN w Q cq us) (hw : RN w Q2 cq2 vs) (hsxs : xs.length ≤ 35184372088800) (hsys : ys.length ≤ 35184372088800) (hsus : us.length ≤ 35184372088800) (hsvs : vs.length ≤ 35184372088800) :
    Calls Try.prog 43 #[.agg #[.bool p, .slice P xs.length cp, .slice P2 ys.length cp2], .agg #[.bool q, .slice Q us.length cq, .slice Q2 vs.length cq2]] w (fun e w' => e = .returned (.int .i64 (cmpQ (qv p xs ys) (qv q us vs))) ∧ Below w.heap.size w w') := by
  have HX := Lib.hid hx
  have HY := Lib.hid hy
  have HU := Lib.hid hu
  have HW := Lib.hid hw
  clear hx hy hu hw
  go_enter Try.func43, Try.ntmps43
  go_wp2_with fail
  obtain ⟨W, hW⟩ : ∃ W, W = ((w.alloc (.cells #[.bool p, .slice P xs.length cp, .slice P2 ys.length cp2] 33)).alloc (.cells #[.bool q, .slice Q us.length cq, .slice Q2 vs.length cq2] 33)) := ⟨_, rfl⟩
  rw [← hW]
  have hBW : Below w.heap.size w W := by rw [hW]; exact (((Below.refl _ _).alloc (Nat.le_refl _) _).alloc (by simp only [size_alloc]; omega) _)
  have vW0 : Vr W (w.heap.size) 33 #[.bool p, .slice P xs.length cp, .slice P2 ys.length cp2] := by rw [hW]; exact ((Vr.new' _ _ _ (by simp only [size_alloc])).alloc _)
  have vW1 : Vr W (w.heap.size + 1) 33 #[.bool q, .slice Q us.length cq, .slice Q2 vs.length cq2] := by rw [hW]; exact (Vr.new' _ _ _ (by simp only [size_alloc]))
  clear hW
  obtain ⟨gW1, hgW1⟩ : ∃ g, w.heap.size + 1 = g := ⟨_, rfl⟩
  rw [hgW1] at vW1 ⊢
  have hneW01 : w.heap.size ≠ gW1 := by omega
  have hgeW1 : w.heap.size ≤ gW1 := by omega
  have hneW10 : gW1 ≠ w.heap.size := by omega
  have HVW0 := Lib.hid vW0
  have HVW1 := Lib.hid vW1
  have HBW := Lib.hid hBW
  clear hBW vW0 vW1 hgW1
  have V0_W := HVW0
  have V1_W := HVW1
  have B_W := HBW
  go_upto_region 1 with fail
  go_cut [5] (fun sv wc => ∃ (g : Nat) (bz : Bool) (G : Option Addr) (cz : Nat) (z : List Int), sv = .pointer (some ⟨g, 0, none⟩) ∧ Hid (Vr wc g 31 #[.bool bz, .slice G z.length cz]) ∧ Hid (zv bz z = qn p xs ys * qd vs) ∧ Hid (z.length ≤ xs.length + vs.length + 1) ∧ Hid (RN wc G cz z) ∧ Hid (Below W.heap.size W wc))
  case first =>
    have o1c0 := (V0_W.out).cell 0 rfl
    have o1c1 := (V0_W.out).cell 1 rfl
    have o1c2 := (V0_W.out).cell 2 rfl
    have q1c0 := (V1_W.out).cell 0 rfl
    have q1c1 := (V1_W.out).cell 1 rfl
    have q1c2 := (V1_W.out).cell 2 rfl
    have V0_Wd := Lib.hid V0_W.out.drew
    have V1_Wd := Lib.hid V1_W.out.drew
    have B_Wd := Lib.hid B_W.out.drew
    have C_Wd : Hid (Below W.heap.size W W.drew) := (Below.refl _ _).drew
    have neV0_Wd : W.heap.size ≠ w.heap.size := Nat.ne_of_gt V0_W.out.lt
    have neV1_Wd : W.heap.size ≠ gW1 := Nat.ne_of_gt V1_W.out.lt
    go_region_held3 (fun w' => w'.cell? ⟨w.heap.size, 0, none⟩ = some (.bool p) ∧ w'.cell? ⟨w.heap.size, 1, none⟩ = some (.slice P xs.length cp) ∧ w'.cell? ⟨w.heap.size, 2, none⟩ = some (.slice P2 ys.length cp2) ∧ w'.cell? ⟨gW1, 0, none⟩ = some (.bool q) ∧ w'.cell? ⟨gW1, 1, none⟩ = some (.slice Q us.length cq) ∧ w'.cell? ⟨gW1, 2, none⟩ = some (.slice Q2 vs.length cq2)) (go_keep)
      (first
        | (go_at_call_of 50 P
           refine (top_ok _ p P P2 cp cp2 xs ys (HX.out.below (by first | exact B_Wd.out | exact B_Wd.out.alloc B_Wd.out.size _)) (HY.out.below (by first | exact B_Wd.out | exact B_Wd.out.alloc B_Wd.out.size _)) hsxs hsys).mono ?_
           rintro e a1 ⟨b1, A1, c1, z1, rfl, HB1, HZ1, hz1, hB⟩
           have V0_a1 := Lib.hid (Vr.below' (by first | exact V0_Wd.out | exact V0_Wd.out.alloc _) hB)
           have V0_a1c0 := (V0_a1.out).cell 0 rfl
           have V0_a1c1 := (V0_a1.out).cell 1 rfl
           have V0_a1c2 := (V0_a1.out).cell 2 rfl
           have V1_a1 := Lib.hid (Vr.below' (by first | exact V1_Wd.out | exact V1_Wd.out.alloc _) hB)
           have V1_a1c0 := (V1_a1.out).cell 0 rfl
           have V1_a1c1 := (V1_a1.out).cell 1 rfl
           have V1_a1c2 := (V1_a1.out).cell 2 rfl
           try have VN_a1 : Hid (Vr a1 W.heap.size 31 #[.bool false, .slice none 0 0]) := Vr.below' (Vr.new W.drew _ _) hB
           have B_a1 := Lib.hid (below_on (by first | exact B_Wd.out | exact B_Wd.out.alloc B_Wd.out.size _) hB)
           have neV0_a1 : a1.heap.size ≠ w.heap.size := Nat.ne_of_gt V0_a1.out.lt
           have neV1_a1 : a1.heap.size ≠ gW1 := Nat.ne_of_gt V1_a1.out.lt
           have Z_a1 := Lib.hid hz1
           have C_a1 := Lib.hid (below_on (by first | exact C_Wd.out | exact C_Wd.out.alloc C_Wd.out.size _) hB)
           clear hz1
           clear hB)
        | (go_at_call_of 52 Q
           refine (low_ok _ q Q Q2 cq cq2 us vs (HU.out.below (by first | exact B_a1.out | exact B_a1.out.alloc B_a1.out.size _)) (HW.out.below (by first | exact B_a1.out | exact B_a1.out.alloc B_a1.out.size _)) hsus hsvs).mono ?_
           rintro e e1 ⟨D1, d1, y1, rfl, HY1, hy1, hB⟩
           have V0_e1 := Lib.hid (Vr.below' (by first | exact V0_a1.out | exact V0_a1.out.alloc _) hB)
           have V0_e1c0 := (V0_e1.out).cell 0 rfl
           have V0_e1c1 := (V0_e1.out).cell 1 rfl
           have V0_e1c2 := (V0_e1.out).cell 2 rfl
           have V1_e1 := Lib.hid (Vr.below' (by first | exact V1_a1.out | exact V1_a1.out.alloc _) hB)
           have V1_e1c0 := (V1_e1.out).cell 0 rfl
           have V1_e1c1 := (V1_e1.out).cell 1 rfl
           have V1_e1c2 := (V1_e1.out).cell 2 rfl
           have Z_e1 := Lib.hid (RN.below (by first | exact Z_a1.out | exact Z_a1.out.below ((Below.refl _ _).alloc (Nat.le_refl _) _)) hB)
           try have VN_e1 := Lib.hid (Vr.below' VN_a1.out hB)
           try have VN_e1 := Lib.hid (Vr.below' (Vr.new _ _ _) hB)
           have B_e1 := Lib.hid (below_on (by first | exact B_a1.out | exact B_a1.out.alloc B_a1.out.size _) hB)
           have neV0_e1 : e1.heap.size ≠ w.heap.size := Nat.ne_of_gt V0_e1.out.lt
           have neV1_e1 : e1.heap.size ≠ gW1 := Nat.ne_of_gt V1_e1.out.lt
           have Y_e1 := Lib.hid hy1
           have C_e1 := Lib.hid (below_on (by first | exact C_a1.out | exact C_a1.out.alloc C_a1.out.size _) hB)
           clear hy1
           clear hB)
        | (go_at_call 51
           refine (rimake_ok _ false D1 d1 y1 (by first | exact Y_e1.out | exact Y_e1.out.below ((Below.refl _ _).alloc (Nat.le_refl _) _)) (by rw [HY1.out]; exact Nat.le_trans (qd_len HW.out.2) (by omega))).mono ?_
           rintro e f1 ⟨bb1, E1, ee1, m1, rfl, HBM1, HM1, hm1, hB⟩
           have V0_f1 := Lib.hid (Vr.below' (by first | exact V0_e1.out | exact V0_e1.out.alloc _) hB)
           have V0_f1c0 := (V0_f1.out).cell 0 rfl
           have V0_f1c1 := (V0_f1.out).cell 1 rfl
           have V0_f1c2 := (V0_f1.out).cell 2 rfl
           have V1_f1 := Lib.hid (Vr.below' (by first | exact V1_e1.out | exact V1_e1.out.alloc _) hB)
           have V1_f1c0 := (V1_f1.out).cell 0 rfl
           have V1_f1c1 := (V1_f1.out).cell 1 rfl
           have V1_f1c2 := (V1_f1.out).cell 2 rfl
           have Z_f1 := Lib.hid (RN.below (by first | exact Z_e1.out | exact Z_e1.out.below ((Below.refl _ _).alloc (Nat.le_refl _) _)) hB)
           try have VN_f1 := Lib.hid (Vr.below' VN_e1.out hB)
           try have VN_f1 := Lib.hid (Vr.below' (Vr.new _ _ _) hB)
           have B_f1 := Lib.hid (below_on (by first | exact B_e1.out | exact B_e1.out.alloc B_e1.out.size _) hB)
           have neV0_f1 : f1.heap.size ≠ w.heap.size := Nat.ne_of_gt V0_f1.out.lt
           have neV1_f1 : f1.heap.size ≠ gW1 := Nat.ne_of_gt V1_f1.out.lt
           have M_f1 := Lib.hid hm1
           have C_f1 := Lib.hid (below_on (by first | exact C_e1.out | exact C_e1.out.alloc C_e1.out.size _) hB)
           clear hm1
           clear hB)
        | (go_at_call 49
           refine (rimul_ok _ b1 bb1 A1 E1 c1 ee1 z1 m1 (by first | exact Z_f1.out | exact Z_f1.out.below ((Below.refl _ _).alloc (Nat.le_refl _) _)) (by first | exact M_f1.out | exact M_f1.out.below ((Below.refl _ _).alloc (Nat.le_refl _) _)) (by rw [HZ1.out, HM1.out]; have h1 := qn_len (b := p) (ys := ys) HX.out.2; have h2 := qd_len HW.out.2; rw [zv_f, HY1.out, V_limbs, Int.natAbs_natCast]; omega)).mono ?_
           rintro e h1 ⟨bp1, G1, g1, p1, rfl, HBP1, HP1, hp1, hB⟩
           have V0_h1 := Lib.hid (Vr.below' (by first | exact V0_f1.out | exact V0_f1.out.alloc _) hB)
           have V0_h1c0 := (V0_h1.out).cell 0 rfl
           have V0_h1c1 := (V0_h1.out).cell 1 rfl
           have V0_h1c2 := (V0_h1.out).cell 2 rfl
           have V1_h1 := Lib.hid (Vr.below' (by first | exact V1_f1.out | exact V1_f1.out.alloc _) hB)
           have V1_h1c0 := (V1_h1.out).cell 0 rfl
           have V1_h1c1 := (V1_h1.out).cell 1 rfl
           have V1_h1c2 := (V1_h1.out).cell 2 rfl
           try have VN_h1 := Lib.hid (Vr.below' VN_f1.out hB)
           try have VN_h1 := Lib.hid (Vr.below' (Vr.new _ _ _) hB)
           have B_h1 := Lib.hid (below_on (by first | exact B_f1.out | exact B_f1.out.alloc B_f1.out.size _) hB)
           have neV0_h1 : h1.heap.size ≠ w.heap.size := Nat.ne_of_gt V0_h1.out.lt
           have neV1_h1 : h1.heap.size ≠ gW1 := Nat.ne_of_gt V1_h1.out.lt
           have P_h1 := Lib.hid hp1
           have C_h1 := Lib.hid (below_on (by first | exact C_f1.out | exact C_f1.out.alloc C_f1.out.size _) hB)
           try have vn0 := VN_h1.out.cell 0 rfl
           try have vn1 := VN_h1.out.cell 1 rfl
           try have vf0 := VN_h1.out.thaw 0
           try have vf1 := VN_h1.out.thaw 1
           clear hp1
           clear hB))
    all_goals
      (have ez : zv b1 z1 * zv bb1 m1 = qn p xs ys * qd vs := by
         have h := qd_pos HW.out.2
         rw [HB1.out, HZ1.out, zv_norm, HBM1.out, HM1.out, zv_norm, zv_f, HY1.out, V_limbs, Int.toNat_of_nonneg (by omega)]
       have hpz : zv bp1 p1 = qn p xs ys * qd vs := by
         rw [HBP1.out, HP1.out, zv_norm]
         exact ez
       have hpl : p1.length ≤ xs.length + vs.length + 1 := by
         have h1 := zmul_len (b := b1) (b' := bb1) Z_f1.out.2 M_f1.out.2
         have h2 := qn_len (b := p) (ys := ys) HX.out.2
         have h3 := qd_len HW.out.2
         rw [← HP1.out] at h1
         have h4 : z1.length ≤ xs.length := by rw [HZ1.out]; exact h2
         have h5 : m1.length ≤ vs.length + 1 := by
           rw [HM1.out, zv_f, HY1.out, V_limbs, Int.natAbs_natCast]
           exact h3
         omega
       have HPZ := Lib.hid hpz
       have HPL := Lib.hid hpl
       clear ez hpz hpl
       go_wp2_with fail
       go_meet
       first
         | exact ⟨_, bp1, G1, g1, p1, rfl, Vr.new _ _ _, HPZ, HPL, P_h1.out.below ((Below.refl _ _).alloc (Nat.le_refl _) _), C_h1.out.alloc C_h1.out.size _⟩
         | exact ⟨_, bp1, G1, g1, p1, rfl, (VN_h1.out.set 0 _).set 1 _, HPZ, HPL, (P_h1.out.apart VN_h1.out (nd_int _ _ _ _) 0 _).apart (VN_h1.out.set 0 _) (nd_int _ _ _ _) 1 _, below_set (below_set C_h1.out (by first | exact Nat.le_refl _ | exact C_a1.out.size | exact C_e1.out.size | exact C_f1.out.size | exact C_h1.out.size) _) (by first | exact Nat.le_refl _ | exact C_a1.out.size | exact C_e1.out.size | exact C_f1.out.size | exact C_h1.out.size) _⟩)
  case rest =>
    obtain ⟨gc1, bz1, GZ1, cz1, z1, rfl, VZ1, EZ1, LZ1, PZ1, CZ1⟩ := hcut
    obtain ⟨T, rfl⟩ : ∃ T, T = wc := ⟨_, rfl⟩
    have V0_T := Lib.hid (V0_W.out.below' CZ1.out)
    have V1_T := Lib.hid (V1_W.out.below' CZ1.out)
    have B_T := Lib.hid (B_W.out.trans (CZ1.out.mono B_W.out.size))
    go_upto_region 2 with fail
    go_cut [6] (fun sv wc => ∃ (g : Nat) (bz : Bool) (G : Option Addr) (cz : Nat) (z : List Int), sv = .pointer (some ⟨g, 0, none⟩) ∧ Hid (Vr wc g 31 #[.bool bz, .slice G z.length cz]) ∧ Hid (zv bz z = qn q us vs * qd ys) ∧ Hid (z.length ≤ us.length + ys.length + 1) ∧ Hid (RN wc G cz z) ∧ Hid (Below T.heap.size T wc))
    case first =>
      have o2c0 := (V0_T.out).cell 0 rfl
      have o2c1 := (V0_T.out).cell 1 rfl
      have o2c2 := (V0_T.out).cell 2 rfl
      have q2c0 := (V1_T.out).cell 0 rfl
      have q2c1 := (V1_T.out).cell 1 rfl
      have q2c2 := (V1_T.out).cell 2 rfl
      have V0_Td := Lib.hid V0_T.out.drew
      have V1_Td := Lib.hid V1_T.out.drew
      have B_Td := Lib.hid B_T.out.drew
      have C_Td : Hid (Below T.heap.size T T.drew) := (Below.refl _ _).drew
      have neV0_Td : T.heap.size ≠ w.heap.size := Nat.ne_of_gt V0_T.out.lt
      have neV1_Td : T.heap.size ≠ gW1 := Nat.ne_of_gt V1_T.out.lt
      go_region_held3 (fun w' => w'.cell? ⟨w.heap.size, 0, none⟩ = some (.bool p) ∧ w'.cell? ⟨w.heap.size, 1, none⟩ = some (.slice P xs.length cp) ∧ w'.cell? ⟨w.heap.size, 2, none⟩ = some (.slice P2 ys.length cp2) ∧ w'.cell? ⟨gW1, 0, none⟩ = some (.bool q) ∧ w'.cell? ⟨gW1, 1, none⟩ = some (.slice Q us.length cq) ∧ w'.cell? ⟨gW1, 2, none⟩ = some (.slice Q2 vs.length cq2)) (go_keep)
        (first
          | (go_at_call_of 50 Q
             refine (top_ok _ q Q Q2 cq cq2 us vs (HU.out.below (by first | exact B_Td.out | exact B_Td.out.alloc B_Td.out.size _)) (HW.out.below (by first | exact B_Td.out | exact B_Td.out.alloc B_Td.out.size _)) hsus hsvs).mono ?_
             rintro e a2 ⟨b2, A2, c2, z2, rfl, HB2, HZ2, hz2, hB⟩
             have V0_a2 := Lib.hid (Vr.below' (by first | exact V0_Td.out | exact V0_Td.out.alloc _) hB)
             have V0_a2c0 := (V0_a2.out).cell 0 rfl
             have V0_a2c1 := (V0_a2.out).cell 1 rfl
             have V0_a2c2 := (V0_a2.out).cell 2 rfl
             have V1_a2 := Lib.hid (Vr.below' (by first | exact V1_Td.out | exact V1_Td.out.alloc _) hB)
             have V1_a2c0 := (V1_a2.out).cell 0 rfl
             have V1_a2c1 := (V1_a2.out).cell 1 rfl
             have V1_a2c2 := (V1_a2.out).cell 2 rfl
             try have VN_a2 : Hid (Vr a2 T.heap.size 31 #[.bool false, .slice none 0 0]) := Vr.below' (Vr.new T.drew _ _) hB
             have B_a2 := Lib.hid (below_on (by first | exact B_Td.out | exact B_Td.out.alloc B_Td.out.size _) hB)
             have neV0_a2 : a2.heap.size ≠ w.heap.size := Nat.ne_of_gt V0_a2.out.lt
             have neV1_a2 : a2.heap.size ≠ gW1 := Nat.ne_of_gt V1_a2.out.lt
             have Z_a2 := Lib.hid hz2
             have C_a2 := Lib.hid (below_on (by first | exact C_Td.out | exact C_Td.out.alloc C_Td.out.size _) hB)
             clear hz2
             clear hB)
          | (go_at_call_of 52 P
             refine (low_ok _ p P P2 cp cp2 xs ys (HX.out.below (by first | exact B_a2.out | exact B_a2.out.alloc B_a2.out.size _)) (HY.out.below (by first | exact B_a2.out | exact B_a2.out.alloc B_a2.out.size _)) hsxs hsys).mono ?_
             rintro e e2 ⟨D2, d2, y2, rfl, HY2, hy2, hB⟩
             have V0_e2 := Lib.hid (Vr.below' (by first | exact V0_a2.out | exact V0_a2.out.alloc _) hB)
             have V0_e2c0 := (V0_e2.out).cell 0 rfl
             have V0_e2c1 := (V0_e2.out).cell 1 rfl
             have V0_e2c2 := (V0_e2.out).cell 2 rfl
             have V1_e2 := Lib.hid (Vr.below' (by first | exact V1_a2.out | exact V1_a2.out.alloc _) hB)
             have V1_e2c0 := (V1_e2.out).cell 0 rfl
             have V1_e2c1 := (V1_e2.out).cell 1 rfl
             have V1_e2c2 := (V1_e2.out).cell 2 rfl
             have Z_e2 := Lib.hid (RN.below (by first | exact Z_a2.out | exact Z_a2.out.below ((Below.refl _ _).alloc (Nat.le_refl _) _)) hB)
             try have VN_e2 := Lib.hid (Vr.below' VN_a2.out hB)
             try have VN_e2 := Lib.hid (Vr.below' (Vr.new _ _ _) hB)
             have B_e2 := Lib.hid (below_on (by first | exact B_a2.out | exact B_a2.out.alloc B_a2.out.size _) hB)
             have neV0_e2 : e2.heap.size ≠ w.heap.size := Nat.ne_of_gt V0_e2.out.lt
             have neV1_e2 : e2.heap.size ≠ gW1 := Nat.ne_of_gt V1_e2.out.lt
             have Y_e2 := Lib.hid hy2
             have C_e2 := Lib.hid (below_on (by first | exact C_a2.out | exact C_a2.out.alloc C_a2.out.size _) hB)
             clear hy2
             clear hB)
          | (go_at_call 51
             refine (rimake_ok _ false D2 d2 y2 (by first | exact Y_e2.out | exact Y_e2.out.below ((Below.refl _ _).alloc (Nat.le_refl _) _)) (by rw [HY2.out]; exact Nat.le_trans (qd_len HY.out.2) (by omega))).mono ?_
             rintro e f2 ⟨bb2, E2, ee2, m2, rfl, HBM2, HM2, hm2, hB⟩
             have V0_f2 := Lib.hid (Vr.below' (by first | exact V0_e2.out | exact V0_e2.out.alloc _) hB)
             have V0_f2c0 := (V0_f2.out).cell 0 rfl
             have V0_f2c1 := (V0_f2.out).cell 1 rfl
             have V0_f2c2 := (V0_f2.out).cell 2 rfl
             have V1_f2 := Lib.hid (Vr.below' (by first | exact V1_e2.out | exact V1_e2.out.alloc _) hB)
             have V1_f2c0 := (V1_f2.out).cell 0 rfl
             have V1_f2c1 := (V1_f2.out).cell 1 rfl
             have V1_f2c2 := (V1_f2.out).cell 2 rfl
             have Z_f2 := Lib.hid (RN.below (by first | exact Z_e2.out | exact Z_e2.out.below ((Below.refl _ _).alloc (Nat.le_refl _) _)) hB)
             try have VN_f2 := Lib.hid (Vr.below' VN_e2.out hB)
             try have VN_f2 := Lib.hid (Vr.below' (Vr.new _ _ _) hB)
             have B_f2 := Lib.hid (below_on (by first | exact B_e2.out | exact B_e2.out.alloc B_e2.out.size _) hB)
             have neV0_f2 : f2.heap.size ≠ w.heap.size := Nat.ne_of_gt V0_f2.out.lt
             have neV1_f2 : f2.heap.size ≠ gW1 := Nat.ne_of_gt V1_f2.out.lt
             have M_f2 := Lib.hid hm2
             have C_f2 := Lib.hid (below_on (by first | exact C_e2.out | exact C_e2.out.alloc C_e2.out.size _) hB)
             clear hm2
             clear hB)
          | (go_at_call 49
             refine (rimul_ok _ b2 bb2 A2 E2 c2 ee2 z2 m2 (by first | exact Z_f2.out | exact Z_f2.out.below ((Below.refl _ _).alloc (Nat.le_refl _) _)) (by first | exact M_f2.out | exact M_f2.out.below ((Below.refl _ _).alloc (Nat.le_refl _) _)) (by rw [HZ2.out, HM2.out]; have h1 := qn_len (b := q) (ys := vs) HU.out.2; have h2 := qd_len HY.out.2; rw [zv_f, HY2.out, V_limbs, Int.natAbs_natCast]; omega)).mono ?_
             rintro e h2 ⟨bp2, G2, g2, p2, rfl, HBP2, HP2, hp2, hB⟩
             have V0_h2 := Lib.hid (Vr.below' (by first | exact V0_f2.out | exact V0_f2.out.alloc _) hB)
             have V0_h2c0 := (V0_h2.out).cell 0 rfl
             have V0_h2c1 := (V0_h2.out).cell 1 rfl
             have V0_h2c2 := (V0_h2.out).cell 2 rfl
             have V1_h2 := Lib.hid (Vr.below' (by first | exact V1_f2.out | exact V1_f2.out.alloc _) hB)
             have V1_h2c0 := (V1_h2.out).cell 0 rfl
             have V1_h2c1 := (V1_h2.out).cell 1 rfl
             have V1_h2c2 := (V1_h2.out).cell 2 rfl
             try have VN_h2 := Lib.hid (Vr.below' VN_f2.out hB)
             try have VN_h2 := Lib.hid (Vr.below' (Vr.new _ _ _) hB)
             have B_h2 := Lib.hid (below_on (by first | exact B_f2.out | exact B_f2.out.alloc B_f2.out.size _) hB)
             have neV0_h2 : h2.heap.size ≠ w.heap.size := Nat.ne_of_gt V0_h2.out.lt
             have neV1_h2 : h2.heap.size ≠ gW1 := Nat.ne_of_gt V1_h2.out.lt
             have P_h2 := Lib.hid hp2
             have C_h2 := Lib.hid (below_on (by first | exact C_f2.out | exact C_f2.out.alloc C_f2.out.size _) hB)
             try have vn0 := VN_h2.out.cell 0 rfl
             try have vn1 := VN_h2.out.cell 1 rfl
             try have vf0 := VN_h2.out.thaw 0
             try have vf1 := VN_h2.out.thaw 1
             clear hp2
             clear hB))
      all_goals
        (have ez : zv b2 z2 * zv bb2 m2 = qn q us vs * qd ys := by
           have h := qd_pos HY.out.2
           rw [HB2.out, HZ2.out, zv_norm, HBM2.out, HM2.out, zv_norm, zv_f, HY2.out, V_limbs, Int.toNat_of_nonneg (by omega)]
         have hpz : zv bp2 p2 = qn q us vs * qd ys := by
           rw [HBP2.out, HP2.out, zv_norm]
           exact ez
         have hpl : p2.length ≤ us.length + ys.length + 1 := by
           have h1 := zmul_len (b := b2) (b' := bb2) Z_f2.out.2 M_f2.out.2
           have h2 := qn_len (b := q) (ys := vs) HU.out.2
           have h3 := qd_len HY.out.2
           rw [← HP2.out] at h1
           have h4 : z2.length ≤ us.length := by rw [HZ2.out]; exact h2
           have h5 : m2.length ≤ ys.length + 1 := by
             rw [HM2.out, zv_f, HY2.out, V_limbs, Int.natAbs_natCast]
             exact h3
           omega
         have HPZ := Lib.hid hpz
         have HPL := Lib.hid hpl
         clear ez hpz hpl
         go_wp2_with fail
         go_meet
         first
           | exact ⟨_, bp2, G2, g2, p2, rfl, Vr.new _ _ _, HPZ, HPL, P_h2.out.below ((Below.refl _ _).alloc (Nat.le_refl _) _), C_h2.out.alloc C_h2.out.size _⟩
           | exact ⟨_, bp2, G2, g2, p2, rfl, (VN_h2.out.set 0 _).set 1 _, HPZ, HPL, (P_h2.out.apart VN_h2.out (nd_int _ _ _ _) 0 _).apart (VN_h2.out.set 0 _) (nd_int _ _ _ _) 1 _, below_set (below_set C_h2.out (by first | exact Nat.le_refl _ | exact C_a2.out.size | exact C_e2.out.size | exact C_f2.out.size | exact C_h2.out.size) _) (by first | exact Nat.le_refl _ | exact C_a2.out.size | exact C_e2.out.size | exact C_f2.out.size | exact C_h2.out.size) _⟩)
    case rest =>
      obtain ⟨gc2, bz2, GZ2, cz2, z2, rfl, VZ2, EZ2, LZ2, PZ2, CZ2⟩ := hcut
      have VZ1b := Lib.hid (VZ1.out.below' CZ2.out)
      have PZ1b := Lib.hid (PZ1.out.below CZ2.out)
      have B_Z := Lib.hid (B_T.out.trans (CZ2.out.mono B_T.out.size))
      have rc0 := (VZ1b.out).cell 0 rfl
      have rc1 := (VZ1b.out).cell 1 rfl
      have sc0 := (VZ2.out).cell 0 rfl
      have sc1 := (VZ2.out).cell 1 rfl
      go_wp2_with fail
      refine (ricmp_ok wc bz1 bz2 GZ1 GZ2 cz1 cz2 z1 z2 PZ1b.out PZ2.out (by have := LZ1.out; omega) (by have := LZ2.out; omega)).mono ?_
      rintro e w9 ⟨rfl, hB9⟩
      have HB9 := Lib.hid (B_Z.out.trans (hB9.mono B_Z.out.size))
      clear hB9
      go_wp2_with fail
      go_ret
      refine ⟨?_, HB9.out⟩
      rw [EZ1.out, EZ2.out, cmp_qv HY.out.2 HW.out.2]
      rfl

end Go.Proofs.Ytgdlnmhpnlmofaa.M
