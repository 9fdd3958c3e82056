/- Sums and differences of two ratios of the reference. -/
import Derived.Test.YtocpncjmcaecoaaGreatRefIntB
namespace Go.Proofs.YtocpncjmcaecoaaGreat.M
set_option maxRecDepth 10000
open Go.RowKit
set_option linter.unusedVariables false
set_option linter.unusedSimpArgs false
theorem Vr.ne {w : World} {g g' t t' : Nat} {cs cs' : Array Value} (h1 : Vr w g t cs) (h2 : Vr w g' t' cs') (ht : t ≠ t') : g ≠ g' := by
  intro e
  subst e
  unfold Vr at h1 h2
  rw [h1] at h2
  injection h2 with h2
  injection h2 with _ h3 _
  exact ht h3
set_option maxHeartbeats 6400000 in
theorem rqaddV_ok (w : World) (p q : Bool) (P P2 Q Q2 : Option Addr) (cp cp2 cq cq2 : Nat) (xs ys us vs : List Int) (hx : RN w P cp xs) (hy : RN w P2 cp2 ys) (hu : RN w Q cq us) (hw : RN w Q2 cq2 vs) (hsxs : xs.length ≤ 35184372088800) (hsys : ys.length ≤ 35184372088800) (hsus : us.length ≤ 35184372088800) (hsvs : vs.length ≤ 35184372088800) (hm1 : xs.length + vs.length + 1 ≤ 70368744177664) (hm2 : us.length + ys.length + 1 ≤ 70368744177664) (hb3 : ys.length + vs.length + 2 ≤ 35184372088800) (hl1 : (limbs (qn p xs ys * qd vs).natAbs).length ≤ 35184372088790) (hl2 : (limbs (qn q us vs * qd ys).natAbs).length ≤ 35184372088790) :
    Calls Tryz.prog 39 #[.agg #[.bool p, .slice P xs.length cp, .slice P2 ys.length cp2], .agg #[.bool q, .slice Q us.length cq, .slice Q2 vs.length cq2]] w (RetQ (qv p xs ys + qv q us vs) w) := by
  have HX := Lib.hid hx
  have HY := Lib.hid hy
  have HU := Lib.hid hu
  have HW := Lib.hid hw
  clear hx hy hu hw
  have HL1 := Lib.hid hl1
  have HL2 := Lib.hid hl2
  clear hl1 hl2
  go_enter Tryz.func39, Tryz.ntmps39
  go_upto_region 1 with fail
  obtain ⟨W, hW⟩ : ∃ W, W = (((w.alloc (.cells #[.bool p, .slice P xs.length cp, .slice P2 ys.length cp2] 28)).alloc (.cells #[.bool q, .slice Q us.length cq, .slice Q2 vs.length cq2] 28)).alloc (.cells #[.bool false, .slice none 0 0, .slice none 0 0] 28)) := ⟨_, rfl⟩
  rw [← hW]
  have hBW : Below w.heap.size w W := by rw [hW]; exact ((((Below.refl _ _).alloc (Nat.le_refl _) _).alloc (by simp only [size_alloc]; omega) _).alloc (by simp only [size_alloc]; omega) _)
  have vW0 : Vr W (w.heap.size) 28 #[.bool p, .slice P xs.length cp, .slice P2 ys.length cp2] := by rw [hW]; exact (((Vr.new' _ _ _ (by simp only [size_alloc])).alloc _).alloc _)
  have vW1 : Vr W (w.heap.size + 1) 28 #[.bool q, .slice Q us.length cq, .slice Q2 vs.length cq2] := by rw [hW]; exact ((Vr.new' _ _ _ (by simp only [size_alloc])).alloc _)
  have vW2 : Vr W (w.heap.size + 1 + 1) 28 #[.bool false, .slice none 0 0, .slice none 0 0] := by rw [hW]; exact (Vr.new' _ _ _ (by simp only [size_alloc]))
  clear hW
  obtain ⟨gW2, hgW2⟩ : ∃ g, w.heap.size + 1 + 1 = g := ⟨_, rfl⟩
  rw [hgW2] at vW2 ⊢
  obtain ⟨gW1, hgW1⟩ : ∃ g, w.heap.size + 1 = g := ⟨_, rfl⟩
  rw [hgW1] at vW1 ⊢
  have hneW01 : w.heap.size ≠ gW1 := by omega
  have hneW02 : w.heap.size ≠ gW2 := by omega
  have hgeW1 : w.heap.size ≤ gW1 := by omega
  have hneW10 : gW1 ≠ w.heap.size := by omega
  have hneW12 : gW1 ≠ gW2 := by omega
  have hgeW2 : w.heap.size ≤ gW2 := by omega
  have hneW20 : gW2 ≠ w.heap.size := by omega
  have hneW21 : gW2 ≠ gW1 := by omega
  have HVW0 := Lib.hid vW0
  have HVW1 := Lib.hid vW1
  have HVW2 := Lib.hid vW2
  have HBW := Lib.hid hBW
  clear hBW vW0 vW1 vW2 hgW1 hgW2
  have V0_W := HVW0
  have V1_W := HVW1
  have VR_W := HVW2
  have B_W := HBW
  go_cut [5] (fun sv wc => ∃ (g : Nat) (bz : Bool) (G : Option Addr) (cz : Nat) (z : List Int), sv = .pointer (some ⟨g, 0, none⟩) ∧ Hid (Vr wc g 26 #[.bool bz, .slice G z.length cz]) ∧ Hid (zv bz z = qn p xs ys * qd vs) ∧ Hid (z = limbs (qn p xs ys * qd vs).natAbs) ∧ Hid (z.length ≤ xs.length + vs.length + 1) ∧ Hid (RN wc G cz z) ∧ Hid (Below W.heap.size W wc))
  case first =>
    have o1c0 := (V0_W.out).cell 0 rfl
    have o1c1 := (V0_W.out).cell 1 rfl
    have o1c2 := (V0_W.out).cell 2 rfl
    have q1c0 := (V1_W.out).cell 0 rfl
    have q1c1 := (V1_W.out).cell 1 rfl
    have q1c2 := (V1_W.out).cell 2 rfl
    have V0_Wd := Lib.hid V0_W.out.drew
    have V1_Wd := Lib.hid V1_W.out.drew
    have B_Wd := Lib.hid B_W.out.drew
    have C_Wd : Hid (Below W.heap.size W W.drew) := (Below.refl _ _).drew
    have neV0_Wd : W.heap.size ≠ w.heap.size := Nat.ne_of_gt V0_W.out.lt
    have neV1_Wd : W.heap.size ≠ gW1 := Nat.ne_of_gt V1_W.out.lt
    go_region_held3 (fun w' => w'.cell? ⟨w.heap.size, 0, none⟩ = some (.bool p) ∧ w'.cell? ⟨w.heap.size, 1, none⟩ = some (.slice P xs.length cp) ∧ w'.cell? ⟨w.heap.size, 2, none⟩ = some (.slice P2 ys.length cp2) ∧ w'.cell? ⟨gW1, 0, none⟩ = some (.bool q) ∧ w'.cell? ⟨gW1, 1, none⟩ = some (.slice Q us.length cq) ∧ w'.cell? ⟨gW1, 2, none⟩ = some (.slice Q2 vs.length cq2)) (go_keep)
      (first
        | (go_at_call_of 64 P
           refine (top_ok _ p P P2 cp cp2 xs ys (HX.out.below (by first | exact B_Wd.out | exact B_Wd.out.alloc B_Wd.out.size _)) (HY.out.below (by first | exact B_Wd.out | exact B_Wd.out.alloc B_Wd.out.size _)) (by omega) (by omega)).mono ?_
           rintro e a1 ⟨b1, A1, c1, z1, rfl, HB1, HZ1, hz1, hB⟩
           have V0_a1 := Lib.hid (Vr.below' (by first | exact V0_Wd.out | exact V0_Wd.out.alloc _) hB)
           have V0_a1c0 := (V0_a1.out).cell 0 rfl
           have V0_a1c1 := (V0_a1.out).cell 1 rfl
           have V0_a1c2 := (V0_a1.out).cell 2 rfl
           have V1_a1 := Lib.hid (Vr.below' (by first | exact V1_Wd.out | exact V1_Wd.out.alloc _) hB)
           have V1_a1c0 := (V1_a1.out).cell 0 rfl
           have V1_a1c1 := (V1_a1.out).cell 1 rfl
           have V1_a1c2 := (V1_a1.out).cell 2 rfl
           try have VN_a1 : Hid (Vr a1 W.heap.size 26 #[.bool false, .slice none 0 0]) := Vr.below' (Vr.new W.drew _ _) hB
           have B_a1 := Lib.hid (below_on (by first | exact B_Wd.out | exact B_Wd.out.alloc B_Wd.out.size _) hB)
           have neV0_a1 : a1.heap.size ≠ w.heap.size := Nat.ne_of_gt V0_a1.out.lt
           have neV1_a1 : a1.heap.size ≠ gW1 := Nat.ne_of_gt V1_a1.out.lt
           have Z_a1 := Lib.hid hz1
           have C_a1 := Lib.hid (below_on (by first | exact C_Wd.out | exact C_Wd.out.alloc C_Wd.out.size _) hB)
           clear hz1
           clear hB)
        | (go_at_call_of 66 Q
           refine (low_ok _ q Q Q2 cq cq2 us vs (HU.out.below (by first | exact B_a1.out | exact B_a1.out.alloc B_a1.out.size _)) (HW.out.below (by first | exact B_a1.out | exact B_a1.out.alloc B_a1.out.size _)) (by omega) (by omega)).mono ?_
           rintro e e1 ⟨D1, d1, y1, rfl, HY1, hy1, hB⟩
           have V0_e1 := Lib.hid (Vr.below' (by first | exact V0_a1.out | exact V0_a1.out.alloc _) hB)
           have V0_e1c0 := (V0_e1.out).cell 0 rfl
           have V0_e1c1 := (V0_e1.out).cell 1 rfl
           have V0_e1c2 := (V0_e1.out).cell 2 rfl
           have V1_e1 := Lib.hid (Vr.below' (by first | exact V1_a1.out | exact V1_a1.out.alloc _) hB)
           have V1_e1c0 := (V1_e1.out).cell 0 rfl
           have V1_e1c1 := (V1_e1.out).cell 1 rfl
           have V1_e1c2 := (V1_e1.out).cell 2 rfl
           have Z_e1 := Lib.hid (RN.below (by first | exact Z_a1.out | exact Z_a1.out.below ((Below.refl _ _).alloc (Nat.le_refl _) _)) hB)
           try have VN_e1 := Lib.hid (Vr.below' VN_a1.out hB)
           try have VN_e1 := Lib.hid (Vr.below' (Vr.new _ _ _) hB)
           have B_e1 := Lib.hid (below_on (by first | exact B_a1.out | exact B_a1.out.alloc B_a1.out.size _) hB)
           have neV0_e1 : e1.heap.size ≠ w.heap.size := Nat.ne_of_gt V0_e1.out.lt
           have neV1_e1 : e1.heap.size ≠ gW1 := Nat.ne_of_gt V1_e1.out.lt
           have Y_e1 := Lib.hid hy1
           have C_e1 := Lib.hid (below_on (by first | exact C_a1.out | exact C_a1.out.alloc C_a1.out.size _) hB)
           clear hy1
           clear hB)
        | (go_at_call 65
           refine (rimake_ok _ false D1 d1 y1 (by first | exact Y_e1.out | exact Y_e1.out.below ((Below.refl _ _).alloc (Nat.le_refl _) _)) (by rw [HY1.out]; exact Nat.le_trans (qd_len HW.out.2) (by omega))).mono ?_
           rintro e f1 ⟨bb1, E1, ee1, m1, rfl, HBM1, HM1, hm1, hB⟩
           have V0_f1 := Lib.hid (Vr.below' (by first | exact V0_e1.out | exact V0_e1.out.alloc _) hB)
           have V0_f1c0 := (V0_f1.out).cell 0 rfl
           have V0_f1c1 := (V0_f1.out).cell 1 rfl
           have V0_f1c2 := (V0_f1.out).cell 2 rfl
           have V1_f1 := Lib.hid (Vr.below' (by first | exact V1_e1.out | exact V1_e1.out.alloc _) hB)
           have V1_f1c0 := (V1_f1.out).cell 0 rfl
           have V1_f1c1 := (V1_f1.out).cell 1 rfl
           have V1_f1c2 := (V1_f1.out).cell 2 rfl
           have Z_f1 := Lib.hid (RN.below (by first | exact Z_e1.out | exact Z_e1.out.below ((Below.refl _ _).alloc (Nat.le_refl _) _)) hB)
           try have VN_f1 := Lib.hid (Vr.below' VN_e1.out hB)
           try have VN_f1 := Lib.hid (Vr.below' (Vr.new _ _ _) hB)
           have B_f1 := Lib.hid (below_on (by first | exact B_e1.out | exact B_e1.out.alloc B_e1.out.size _) hB)
           have neV0_f1 : f1.heap.size ≠ w.heap.size := Nat.ne_of_gt V0_f1.out.lt
           have neV1_f1 : f1.heap.size ≠ gW1 := Nat.ne_of_gt V1_f1.out.lt
           have M_f1 := Lib.hid hm1
           have C_f1 := Lib.hid (below_on (by first | exact C_e1.out | exact C_e1.out.alloc C_e1.out.size _) hB)
           clear hm1
           clear hB)
        | (go_at_call 63
           refine (rimul_ok _ b1 bb1 A1 E1 c1 ee1 z1 m1 (by first | exact Z_f1.out | exact Z_f1.out.below ((Below.refl _ _).alloc (Nat.le_refl _) _)) (by first | exact M_f1.out | exact M_f1.out.below ((Below.refl _ _).alloc (Nat.le_refl _) _)) (by rw [HZ1.out, HM1.out]; have h1 := qn_len (b := p) (ys := ys) HX.out.2; have h2 := qd_len HW.out.2; rw [zv_f, HY1.out, V_limbs, Int.natAbs_natCast]; omega)).mono ?_
           rintro e h1 ⟨bp1, G1, g1, p1, rfl, HBP1, HP1, hp1, hB⟩
           have V0_h1 := Lib.hid (Vr.below' (by first | exact V0_f1.out | exact V0_f1.out.alloc _) hB)
           have V0_h1c0 := (V0_h1.out).cell 0 rfl
           have V0_h1c1 := (V0_h1.out).cell 1 rfl
           have V0_h1c2 := (V0_h1.out).cell 2 rfl
           have V1_h1 := Lib.hid (Vr.below' (by first | exact V1_f1.out | exact V1_f1.out.alloc _) hB)
           have V1_h1c0 := (V1_h1.out).cell 0 rfl
           have V1_h1c1 := (V1_h1.out).cell 1 rfl
           have V1_h1c2 := (V1_h1.out).cell 2 rfl
           try have VN_h1 := Lib.hid (Vr.below' VN_f1.out hB)
           try have VN_h1 := Lib.hid (Vr.below' (Vr.new _ _ _) hB)
           have B_h1 := Lib.hid (below_on (by first | exact B_f1.out | exact B_f1.out.alloc B_f1.out.size _) hB)
           have neV0_h1 : h1.heap.size ≠ w.heap.size := Nat.ne_of_gt V0_h1.out.lt
           have neV1_h1 : h1.heap.size ≠ gW1 := Nat.ne_of_gt V1_h1.out.lt
           have P_h1 := Lib.hid hp1
           have C_h1 := Lib.hid (below_on (by first | exact C_f1.out | exact C_f1.out.alloc C_f1.out.size _) hB)
           try have vn0 := VN_h1.out.cell 0 rfl
           try have vn1 := VN_h1.out.cell 1 rfl
           try have vf0 := VN_h1.out.thaw 0
           try have vf1 := VN_h1.out.thaw 1
           clear hp1
           clear hB))
    all_goals
      (have ez : zv b1 z1 * zv bb1 m1 = qn p xs ys * qd vs := by
         have h := qd_pos HW.out.2
         rw [HB1.out, HZ1.out, zv_norm, HBM1.out, HM1.out, zv_norm, zv_f, HY1.out, V_limbs, Int.toNat_of_nonneg (by omega)]
       have hpz : zv bp1 p1 = qn p xs ys * qd vs := by
         rw [HBP1.out, HP1.out, zv_norm]
         exact ez
       have hpl : p1.length ≤ xs.length + vs.length + 1 := by
         have h1 := zmul_len (b := b1) (b' := bb1) Z_f1.out.2 M_f1.out.2
         have h2 := qn_len (b := p) (ys := ys) HX.out.2
         have h3 := qd_len HW.out.2
         rw [← HP1.out] at h1
         have h4 : z1.length ≤ xs.length := by rw [HZ1.out]; exact h2
         have h5 : m1.length ≤ vs.length + 1 := by
           rw [HM1.out, zv_f, HY1.out, V_limbs, Int.natAbs_natCast]
           exact h3
         omega
       have hpn : p1 = limbs (qn p xs ys * qd vs).natAbs := by rw [HP1.out, ez]
       have HPN := Lib.hid hpn
       clear hpn
       have HPZ := Lib.hid hpz
       have HPL := Lib.hid hpl
       clear ez hpz hpl
       go_wp2_with fail
       go_meet
       first
         | exact ⟨_, bp1, G1, g1, p1, rfl, Vr.new _ _ _, HPZ, HPN, HPL, P_h1.out.below ((Below.refl _ _).alloc (Nat.le_refl _) _), C_h1.out.alloc C_h1.out.size _⟩
         | exact ⟨_, bp1, G1, g1, p1, rfl, (VN_h1.out.set 0 _).set 1 _, HPZ, HPN, HPL, (P_h1.out.apart VN_h1.out (nd_int _ _ _ _) 0 _).apart (VN_h1.out.set 0 _) (nd_int _ _ _ _) 1 _, below_set (below_set C_h1.out (by first | exact Nat.le_refl _ | exact C_a1.out.size | exact C_e1.out.size | exact C_f1.out.size | exact C_h1.out.size) _) (by first | exact Nat.le_refl _ | exact C_a1.out.size | exact C_e1.out.size | exact C_f1.out.size | exact C_h1.out.size) _⟩)
  case rest =>
    obtain ⟨gc1, bz1, GZ1, cz1, z1, rfl, VZ1, EZ1, NZ1, LZ1, PZ1, CZ1⟩ := hcut
    obtain ⟨T, rfl⟩ : ∃ T, T = wc := ⟨_, rfl⟩
    have V0_T := Lib.hid (V0_W.out.below' CZ1.out)
    have V1_T := Lib.hid (V1_W.out.below' CZ1.out)
    have VR_T := Lib.hid (VR_W.out.below' CZ1.out)
    have B_T := Lib.hid (B_W.out.trans (CZ1.out.mono B_W.out.size))
    go_upto_region 2 with fail
    go_cut [6] (fun sv wc => ∃ (g : Nat) (bz : Bool) (G : Option Addr) (cz : Nat) (z : List Int), sv = .pointer (some ⟨g, 0, none⟩) ∧ Hid (Vr wc g 26 #[.bool bz, .slice G z.length cz]) ∧ Hid (zv bz z = qn q us vs * qd ys) ∧ Hid (z = limbs (qn q us vs * qd ys).natAbs) ∧ Hid (z.length ≤ us.length + ys.length + 1) ∧ Hid (RN wc G cz z) ∧ Hid (Below T.heap.size T wc))
    case first =>
      have o2c0 := (V0_T.out).cell 0 rfl
      have o2c1 := (V0_T.out).cell 1 rfl
      have o2c2 := (V0_T.out).cell 2 rfl
      have q2c0 := (V1_T.out).cell 0 rfl
      have q2c1 := (V1_T.out).cell 1 rfl
      have q2c2 := (V1_T.out).cell 2 rfl
      have V0_Td := Lib.hid V0_T.out.drew
      have V1_Td := Lib.hid V1_T.out.drew
      have B_Td := Lib.hid B_T.out.drew
      have C_Td : Hid (Below T.heap.size T T.drew) := (Below.refl _ _).drew
      have neV0_Td : T.heap.size ≠ w.heap.size := Nat.ne_of_gt V0_T.out.lt
      have neV1_Td : T.heap.size ≠ gW1 := Nat.ne_of_gt V1_T.out.lt
      go_region_held3 (fun w' => w'.cell? ⟨w.heap.size, 0, none⟩ = some (.bool p) ∧ w'.cell? ⟨w.heap.size, 1, none⟩ = some (.slice P xs.length cp) ∧ w'.cell? ⟨w.heap.size, 2, none⟩ = some (.slice P2 ys.length cp2) ∧ w'.cell? ⟨gW1, 0, none⟩ = some (.bool q) ∧ w'.cell? ⟨gW1, 1, none⟩ = some (.slice Q us.length cq) ∧ w'.cell? ⟨gW1, 2, none⟩ = some (.slice Q2 vs.length cq2)) (go_keep)
        (first
          | (go_at_call_of 64 Q
             refine (top_ok _ q Q Q2 cq cq2 us vs (HU.out.below (by first | exact B_Td.out | exact B_Td.out.alloc B_Td.out.size _)) (HW.out.below (by first | exact B_Td.out | exact B_Td.out.alloc B_Td.out.size _)) (by omega) (by omega)).mono ?_
             rintro e a2 ⟨b2, A2, c2, z2, rfl, HB2, HZ2, hz2, hB⟩
             have V0_a2 := Lib.hid (Vr.below' (by first | exact V0_Td.out | exact V0_Td.out.alloc _) hB)
             have V0_a2c0 := (V0_a2.out).cell 0 rfl
             have V0_a2c1 := (V0_a2.out).cell 1 rfl
             have V0_a2c2 := (V0_a2.out).cell 2 rfl
             have V1_a2 := Lib.hid (Vr.below' (by first | exact V1_Td.out | exact V1_Td.out.alloc _) hB)
             have V1_a2c0 := (V1_a2.out).cell 0 rfl
             have V1_a2c1 := (V1_a2.out).cell 1 rfl
             have V1_a2c2 := (V1_a2.out).cell 2 rfl
             try have VN_a2 : Hid (Vr a2 T.heap.size 26 #[.bool false, .slice none 0 0]) := Vr.below' (Vr.new T.drew _ _) hB
             have B_a2 := Lib.hid (below_on (by first | exact B_Td.out | exact B_Td.out.alloc B_Td.out.size _) hB)
             have neV0_a2 : a2.heap.size ≠ w.heap.size := Nat.ne_of_gt V0_a2.out.lt
             have neV1_a2 : a2.heap.size ≠ gW1 := Nat.ne_of_gt V1_a2.out.lt
             have Z_a2 := Lib.hid hz2
             have C_a2 := Lib.hid (below_on (by first | exact C_Td.out | exact C_Td.out.alloc C_Td.out.size _) hB)
             clear hz2
             clear hB)
          | (go_at_call_of 66 P
             refine (low_ok _ p P P2 cp cp2 xs ys (HX.out.below (by first | exact B_a2.out | exact B_a2.out.alloc B_a2.out.size _)) (HY.out.below (by first | exact B_a2.out | exact B_a2.out.alloc B_a2.out.size _)) (by omega) (by omega)).mono ?_
             rintro e e2 ⟨D2, d2, y2, rfl, HY2, hy2, hB⟩
             have V0_e2 := Lib.hid (Vr.below' (by first | exact V0_a2.out | exact V0_a2.out.alloc _) hB)
             have V0_e2c0 := (V0_e2.out).cell 0 rfl
             have V0_e2c1 := (V0_e2.out).cell 1 rfl
             have V0_e2c2 := (V0_e2.out).cell 2 rfl
             have V1_e2 := Lib.hid (Vr.below' (by first | exact V1_a2.out | exact V1_a2.out.alloc _) hB)
             have V1_e2c0 := (V1_e2.out).cell 0 rfl
             have V1_e2c1 := (V1_e2.out).cell 1 rfl
             have V1_e2c2 := (V1_e2.out).cell 2 rfl
             have Z_e2 := Lib.hid (RN.below (by first | exact Z_a2.out | exact Z_a2.out.below ((Below.refl _ _).alloc (Nat.le_refl _) _)) hB)
             try have VN_e2 := Lib.hid (Vr.below' VN_a2.out hB)
             try have VN_e2 := Lib.hid (Vr.below' (Vr.new _ _ _) hB)
             have B_e2 := Lib.hid (below_on (by first | exact B_a2.out | exact B_a2.out.alloc B_a2.out.size _) hB)
             have neV0_e2 : e2.heap.size ≠ w.heap.size := Nat.ne_of_gt V0_e2.out.lt
             have neV1_e2 : e2.heap.size ≠ gW1 := Nat.ne_of_gt V1_e2.out.lt
             have Y_e2 := Lib.hid hy2
             have C_e2 := Lib.hid (below_on (by first | exact C_a2.out | exact C_a2.out.alloc C_a2.out.size _) hB)
             clear hy2
             clear hB)
          | (go_at_call 65
             refine (rimake_ok _ false D2 d2 y2 (by first | exact Y_e2.out | exact Y_e2.out.below ((Below.refl _ _).alloc (Nat.le_refl _) _)) (by rw [HY2.out]; exact Nat.le_trans (qd_len HY.out.2) (by omega))).mono ?_
             rintro e f2 ⟨bb2, E2, ee2, m2, rfl, HBM2, HM2, hm2, hB⟩
             have V0_f2 := Lib.hid (Vr.below' (by first | exact V0_e2.out | exact V0_e2.out.alloc _) hB)
             have V0_f2c0 := (V0_f2.out).cell 0 rfl
             have V0_f2c1 := (V0_f2.out).cell 1 rfl
             have V0_f2c2 := (V0_f2.out).cell 2 rfl
             have V1_f2 := Lib.hid (Vr.below' (by first | exact V1_e2.out | exact V1_e2.out.alloc _) hB)
             have V1_f2c0 := (V1_f2.out).cell 0 rfl
             have V1_f2c1 := (V1_f2.out).cell 1 rfl
             have V1_f2c2 := (V1_f2.out).cell 2 rfl
             have Z_f2 := Lib.hid (RN.below (by first | exact Z_e2.out | exact Z_e2.out.below ((Below.refl _ _).alloc (Nat.le_refl _) _)) hB)
             try have VN_f2 := Lib.hid (Vr.below' VN_e2.out hB)
             try have VN_f2 := Lib.hid (Vr.below' (Vr.new _ _ _) hB)
             have B_f2 := Lib.hid (below_on (by first | exact B_e2.out | exact B_e2.out.alloc B_e2.out.size _) hB)
             have neV0_f2 : f2.heap.size ≠ w.heap.size := Nat.ne_of_gt V0_f2.out.lt
             have neV1_f2 : f2.heap.size ≠ gW1 := Nat.ne_of_gt V1_f2.out.lt
             have M_f2 := Lib.hid hm2
             have C_f2 := Lib.hid (below_on (by first | exact C_e2.out | exact C_e2.out.alloc C_e2.out.size _) hB)
             clear hm2
             clear hB)
          | (go_at_call 63
             refine (rimul_ok _ b2 bb2 A2 E2 c2 ee2 z2 m2 (by first | exact Z_f2.out | exact Z_f2.out.below ((Below.refl _ _).alloc (Nat.le_refl _) _)) (by first | exact M_f2.out | exact M_f2.out.below ((Below.refl _ _).alloc (Nat.le_refl _) _)) (by rw [HZ2.out, HM2.out]; have h1 := qn_len (b := q) (ys := vs) HU.out.2; have h2 := qd_len HY.out.2; rw [zv_f, HY2.out, V_limbs, Int.natAbs_natCast]; omega)).mono ?_
             rintro e h2 ⟨bp2, G2, g2, p2, rfl, HBP2, HP2, hp2, hB⟩
             have V0_h2 := Lib.hid (Vr.below' (by first | exact V0_f2.out | exact V0_f2.out.alloc _) hB)
             have V0_h2c0 := (V0_h2.out).cell 0 rfl
             have V0_h2c1 := (V0_h2.out).cell 1 rfl
             have V0_h2c2 := (V0_h2.out).cell 2 rfl
             have V1_h2 := Lib.hid (Vr.below' (by first | exact V1_f2.out | exact V1_f2.out.alloc _) hB)
             have V1_h2c0 := (V1_h2.out).cell 0 rfl
             have V1_h2c1 := (V1_h2.out).cell 1 rfl
             have V1_h2c2 := (V1_h2.out).cell 2 rfl
             try have VN_h2 := Lib.hid (Vr.below' VN_f2.out hB)
             try have VN_h2 := Lib.hid (Vr.below' (Vr.new _ _ _) hB)
             have B_h2 := Lib.hid (below_on (by first | exact B_f2.out | exact B_f2.out.alloc B_f2.out.size _) hB)
             have neV0_h2 : h2.heap.size ≠ w.heap.size := Nat.ne_of_gt V0_h2.out.lt
             have neV1_h2 : h2.heap.size ≠ gW1 := Nat.ne_of_gt V1_h2.out.lt
             have P_h2 := Lib.hid hp2
             have C_h2 := Lib.hid (below_on (by first | exact C_f2.out | exact C_f2.out.alloc C_f2.out.size _) hB)
             try have vn0 := VN_h2.out.cell 0 rfl
             try have vn1 := VN_h2.out.cell 1 rfl
             try have vf0 := VN_h2.out.thaw 0
             try have vf1 := VN_h2.out.thaw 1
             clear hp2
             clear hB))
      all_goals
        (have ez : zv b2 z2 * zv bb2 m2 = qn q us vs * qd ys := by
           have h := qd_pos HY.out.2
           rw [HB2.out, HZ2.out, zv_norm, HBM2.out, HM2.out, zv_norm, zv_f, HY2.out, V_limbs, Int.toNat_of_nonneg (by omega)]
         have hpz : zv bp2 p2 = qn q us vs * qd ys := by
           rw [HBP2.out, HP2.out, zv_norm]
           exact ez
         have hpl : p2.length ≤ us.length + ys.length + 1 := by
           have h1 := zmul_len (b := b2) (b' := bb2) Z_f2.out.2 M_f2.out.2
           have h2 := qn_len (b := q) (ys := vs) HU.out.2
           have h3 := qd_len HY.out.2
           rw [← HP2.out] at h1
           have h4 : z2.length ≤ us.length := by rw [HZ2.out]; exact h2
           have h5 : m2.length ≤ ys.length + 1 := by
             rw [HM2.out, zv_f, HY2.out, V_limbs, Int.natAbs_natCast]
             exact h3
           omega
         have hpn : p2 = limbs (qn q us vs * qd ys).natAbs := by rw [HP2.out, ez]
         have HPN := Lib.hid hpn
         clear hpn
         have HPZ := Lib.hid hpz
         have HPL := Lib.hid hpl
         clear ez hpz hpl
         go_wp2_with fail
         go_meet
         first
           | exact ⟨_, bp2, G2, g2, p2, rfl, Vr.new _ _ _, HPZ, HPN, HPL, P_h2.out.below ((Below.refl _ _).alloc (Nat.le_refl _) _), C_h2.out.alloc C_h2.out.size _⟩
           | exact ⟨_, bp2, G2, g2, p2, rfl, (VN_h2.out.set 0 _).set 1 _, HPZ, HPN, HPL, (P_h2.out.apart VN_h2.out (nd_int _ _ _ _) 0 _).apart (VN_h2.out.set 0 _) (nd_int _ _ _ _) 1 _, below_set (below_set C_h2.out (by first | exact Nat.le_refl _ | exact C_a2.out.size | exact C_e2.out.size | exact C_f2.out.size | exact C_h2.out.size) _) (by first | exact Nat.le_refl _ | exact C_a2.out.size | exact C_e2.out.size | exact C_f2.out.size | exact C_h2.out.size) _⟩)
    case rest =>
      obtain ⟨gc2, bz2, GZ2, cz2, z2, rfl, VZ2, EZ2, NZ2, LZ2, PZ2, CZ2⟩ := hcut
      obtain ⟨Y, rfl⟩ : ∃ Y, Y = wc := ⟨_, rfl⟩
      have V0_Y := Lib.hid (V0_T.out.below' CZ2.out)
      have V1_Y := Lib.hid (V1_T.out.below' CZ2.out)
      have VR_Y := Lib.hid (VR_T.out.below' CZ2.out)
      have VA_Y := Lib.hid (VZ1.out.below' CZ2.out)
      have VB_Y := VZ2
      have N_Y := Lib.hid (PZ1.out.below CZ2.out)
      have O_Y := PZ2
      have B_Y := Lib.hid (B_T.out.trans (CZ2.out.mono B_T.out.size))
      have nra : gW2 ≠ gc1 := Vr.ne VR_Y.out VA_Y.out (by decide)
      have nrb : gW2 ≠ gc2 := Vr.ne VR_Y.out VB_Y.out (by decide)
      have LY1 : Hid (z1.length ≤ 35184372088790) := by show _ ≤ _; rw [NZ1.out]; exact HL1.out
      have LY2 : Hid (z2.length ≤ 35184372088790) := by show _ ≤ _; rw [NZ2.out]; exact HL2.out
      go_upto_region 3 with fail
      have V0_Yc0 := (V0_Y.out).cell 0 rfl
      have V0_Yc1 := (V0_Y.out).cell 1 rfl
      have V0_Yc2 := (V0_Y.out).cell 2 rfl
      have V1_Yc0 := (V1_Y.out).cell 0 rfl
      have V1_Yc1 := (V1_Y.out).cell 1 rfl
      have V1_Yc2 := (V1_Y.out).cell 2 rfl
      have VA_Yc0 := (VA_Y.out).cell 0 rfl
      have VA_Yc1 := (VA_Y.out).cell 1 rfl
      have VB_Yc0 := (VB_Y.out).cell 0 rfl
      have VB_Yc1 := (VB_Y.out).cell 1 rfl
      have V0_Yd := Lib.hid V0_Y.out.drew
      have V1_Yd := Lib.hid V1_Y.out.drew
      have VA_Yd := Lib.hid VA_Y.out.drew
      have VB_Yd := Lib.hid VB_Y.out.drew
      have VR_Yd := Lib.hid VR_Y.out.drew
      have N_Yd := Lib.hid (N_Y.out.below (Below.refl _ _).drew)
      have O_Yd := Lib.hid (O_Y.out.below (Below.refl _ _).drew)
      have B_Yd := Lib.hid B_Y.out.drew
      first
      | go_region_held3 (fun w' => w'.cell? ⟨w.heap.size, 0, none⟩ = some (.bool p) ∧ w'.cell? ⟨w.heap.size, 1, none⟩ = some (.slice P xs.length cp) ∧ w'.cell? ⟨w.heap.size, 2, none⟩ = some (.slice P2 ys.length cp2) ∧ w'.cell? ⟨gW1, 0, none⟩ = some (.bool q) ∧ w'.cell? ⟨gW1, 1, none⟩ = some (.slice Q us.length cq) ∧ w'.cell? ⟨gW1, 2, none⟩ = some (.slice Q2 vs.length cq2) ∧ w'.cell? ⟨gc1, 0, none⟩ = some (.bool bz1) ∧ w'.cell? ⟨gc1, 1, none⟩ = some (.slice GZ1 z1.length cz1) ∧ w'.cell? ⟨gc2, 0, none⟩ = some (.bool bz2) ∧ w'.cell? ⟨gc2, 1, none⟩ = some (.slice GZ2 z2.length cz2)) (go_keep)
         (first
          | (go_at_call 70
             refine (riadd_ok Y.drew bz1 bz2 GZ1 GZ2 cz1 cz2 z1 z2 N_Yd.out O_Yd.out (by have := LY1.out; omega) (by have := LY2.out; omega)).mono ?_
             rintro e_ a9 ⟨b9, A9, c9, z9, rfl, HB9, HZ9, hz9, hB⟩
             have V0_a9 := Lib.hid (Vr.below' V0_Yd.out hB)
             have V0_a9c0 := (V0_a9.out).cell 0 rfl
             have V0_a9c1 := (V0_a9.out).cell 1 rfl
             have V0_a9c2 := (V0_a9.out).cell 2 rfl
             have V1_a9 := Lib.hid (Vr.below' V1_Yd.out hB)
             have V1_a9c0 := (V1_a9.out).cell 0 rfl
             have V1_a9c1 := (V1_a9.out).cell 1 rfl
             have V1_a9c2 := (V1_a9.out).cell 2 rfl
             have VA_a9 := Lib.hid (Vr.below' VA_Yd.out hB)
             have VA_a9c0 := (VA_a9.out).cell 0 rfl
             have VA_a9c1 := (VA_a9.out).cell 1 rfl
             have VB_a9 := Lib.hid (Vr.below' VB_Yd.out hB)
             have VB_a9c0 := (VB_a9.out).cell 0 rfl
             have VB_a9c1 := (VB_a9.out).cell 1 rfl
             have VR_a9 := Lib.hid (Vr.below' VR_Yd.out hB)
             have VR_a9c0 := (VR_a9.out).cell 0 rfl
             have VR_a9c1 := (VR_a9.out).cell 1 rfl
             have VR_a9c2 := (VR_a9.out).cell 2 rfl
             have VR_a9f0 := (VR_a9.out).thaw 0
             have VR_a9f1 := (VR_a9.out).thaw 1
             have VR_a9f2 := (VR_a9.out).thaw 2
             have N_a9 := Lib.hid (RN.below N_Yd.out hB)
             have O_a9 := Lib.hid (RN.below O_Yd.out hB)
             have B_a9 := Lib.hid (below_on B_Yd.out hB)
             have S_a9 := Lib.hid hz9
             have HLS : Hid (z9.length ≤ 35184372088791) := by show _ ≤ _; rw [HZ9.out]; exact Nat.le_trans (zadd_max N_Yd.out.2 O_Yd.out.2) (by have := LY1.out; have := LY2.out; omega)
             clear hB hz9)
          | (go_at_call_of 66 P
             refine (low_ok a9 p P P2 cp cp2 xs ys (HX.out.below B_a9.out) (HY.out.below B_a9.out) (by omega) (by omega)).mono ?_
             rintro e_ a4 ⟨D4, d4, y4, rfl, HY4, hy4, hB⟩
             have V0_a4 := Lib.hid (Vr.below' V0_a9.out hB)
             have V0_a4c0 := (V0_a4.out).cell 0 rfl
             have V0_a4c1 := (V0_a4.out).cell 1 rfl
             have V0_a4c2 := (V0_a4.out).cell 2 rfl
             have V1_a4 := Lib.hid (Vr.below' V1_a9.out hB)
             have V1_a4c0 := (V1_a4.out).cell 0 rfl
             have V1_a4c1 := (V1_a4.out).cell 1 rfl
             have V1_a4c2 := (V1_a4.out).cell 2 rfl
             have VA_a4 := Lib.hid (Vr.below' VA_a9.out hB)
             have VA_a4c0 := (VA_a4.out).cell 0 rfl
             have VA_a4c1 := (VA_a4.out).cell 1 rfl
             have VB_a4 := Lib.hid (Vr.below' VB_a9.out hB)
             have VB_a4c0 := (VB_a4.out).cell 0 rfl
             have VB_a4c1 := (VB_a4.out).cell 1 rfl
             have VR_a4 := Lib.hid (Vr.below' VR_a9.out hB)
             have VR_a4c0 := (VR_a4.out).cell 0 rfl
             have VR_a4c1 := (VR_a4.out).cell 1 rfl
             have VR_a4c2 := (VR_a4.out).cell 2 rfl
             have VR_a4f0 := (VR_a4.out).thaw 0
             have VR_a4f1 := (VR_a4.out).thaw 1
             have VR_a4f2 := (VR_a4.out).thaw 2
             have N_a4 := Lib.hid (RN.below N_a9.out hB)
             have O_a4 := Lib.hid (RN.below O_a9.out hB)
             have S_a4 := Lib.hid (RN.below S_a9.out hB)
             have B_a4 := Lib.hid (below_on B_a9.out hB)
             have L_a4 := Lib.hid hy4
             clear hB hy4)
          | (go_at_call_of 66 Q
             refine (low_ok a4 q Q Q2 cq cq2 us vs (HU.out.below B_a4.out) (HW.out.below B_a4.out) (by omega) (by omega)).mono ?_
             rintro e_ a5 ⟨D5, d5, y5, rfl, HY5, hy5, hB⟩
             have V0_a5 := Lib.hid (Vr.below' V0_a4.out hB)
             have V0_a5c0 := (V0_a5.out).cell 0 rfl
             have V0_a5c1 := (V0_a5.out).cell 1 rfl
             have V0_a5c2 := (V0_a5.out).cell 2 rfl
             have V1_a5 := Lib.hid (Vr.below' V1_a4.out hB)
             have V1_a5c0 := (V1_a5.out).cell 0 rfl
             have V1_a5c1 := (V1_a5.out).cell 1 rfl
             have V1_a5c2 := (V1_a5.out).cell 2 rfl
             have VA_a5 := Lib.hid (Vr.below' VA_a4.out hB)
             have VA_a5c0 := (VA_a5.out).cell 0 rfl
             have VA_a5c1 := (VA_a5.out).cell 1 rfl
             have VB_a5 := Lib.hid (Vr.below' VB_a4.out hB)
             have VB_a5c0 := (VB_a5.out).cell 0 rfl
             have VB_a5c1 := (VB_a5.out).cell 1 rfl
             have VR_a5 := Lib.hid (Vr.below' VR_a4.out hB)
             have VR_a5c0 := (VR_a5.out).cell 0 rfl
             have VR_a5c1 := (VR_a5.out).cell 1 rfl
             have VR_a5c2 := (VR_a5.out).cell 2 rfl
             have VR_a5f0 := (VR_a5.out).thaw 0
             have VR_a5f1 := (VR_a5.out).thaw 1
             have VR_a5f2 := (VR_a5.out).thaw 2
             have N_a5 := Lib.hid (RN.below N_a4.out hB)
             have O_a5 := Lib.hid (RN.below O_a4.out hB)
             have S_a5 := Lib.hid (RN.below S_a4.out hB)
             have L_a5 := Lib.hid (RN.below L_a4.out hB)
             have B_a5 := Lib.hid (below_on B_a4.out hB)
             have K_a5 := Lib.hid hy5
             clear hB hy5)
          | (go_at_call 68
             refine (rmul_ok a5 D4 D5 d4 d5 y4 y5 L_a5.out K_a5.out (by rw [HY4.out, HY5.out]; have h1 := qd_len HY.out.2; have h2 := qd_len HW.out.2; omega)).mono ?_
             rintro e_ a6 ⟨D6, d6, y6, rfl, HY6, hy6, hB⟩
             have V0_a6 := Lib.hid (Vr.below' V0_a5.out hB)
             have V0_a6c0 := (V0_a6.out).cell 0 rfl
             have V0_a6c1 := (V0_a6.out).cell 1 rfl
             have V0_a6c2 := (V0_a6.out).cell 2 rfl
             have V1_a6 := Lib.hid (Vr.below' V1_a5.out hB)
             have V1_a6c0 := (V1_a6.out).cell 0 rfl
             have V1_a6c1 := (V1_a6.out).cell 1 rfl
             have V1_a6c2 := (V1_a6.out).cell 2 rfl
             have VA_a6 := Lib.hid (Vr.below' VA_a5.out hB)
             have VA_a6c0 := (VA_a6.out).cell 0 rfl
             have VA_a6c1 := (VA_a6.out).cell 1 rfl
             have VB_a6 := Lib.hid (Vr.below' VB_a5.out hB)
             have VB_a6c0 := (VB_a6.out).cell 0 rfl
             have VB_a6c1 := (VB_a6.out).cell 1 rfl
             have VR_a6 := Lib.hid (Vr.below' VR_a5.out hB)
             have VR_a6c0 := (VR_a6.out).cell 0 rfl
             have VR_a6c1 := (VR_a6.out).cell 1 rfl
             have VR_a6c2 := (VR_a6.out).cell 2 rfl
             have VR_a6f0 := (VR_a6.out).thaw 0
             have VR_a6f1 := (VR_a6.out).thaw 1
             have VR_a6f2 := (VR_a6.out).thaw 2
             have N_a6 := Lib.hid (RN.below N_a5.out hB)
             have O_a6 := Lib.hid (RN.below O_a5.out hB)
             have S_a6 := Lib.hid (RN.below S_a5.out hB)
             have L_a6 := Lib.hid (RN.below L_a5.out hB)
             have K_a6 := Lib.hid (RN.below K_a5.out hB)
             have B_a6 := Lib.hid (below_on B_a5.out hB)
             have M_a6 := Lib.hid hy6
             have HVM : Hid (V y6 = qd ys * qd vs) := by show _ = _; have h1 := qd_pos HY.out.2; have h2 := qd_pos HW.out.2; rw [HY6.out, V_limbs, HY4.out, HY5.out, V_limbs, V_limbs, Int.toNat_natCast, Int.toNat_natCast, Int.natCast_mul, Int.toNat_of_nonneg (by omega), Int.toNat_of_nonneg (by omega)]
             have hm6 : y6.length ≤ ys.length + vs.length + 2 := by have h1 := mul_len L_a5.out.2 K_a5.out.2; have h3 := qd_len HY.out.2; have h4 := qd_len HW.out.2; rw [← HY6.out] at h1; have h5 : y4.length ≤ ys.length + 1 := (by rw [HY4.out]; exact h3); have h6 : y5.length ≤ vs.length + 1 := (by rw [HY5.out]; exact h4); omega
             have HM6 := Lib.hid hm6
             clear hm6
             clear hB hy6)
          | (go_at_call 67
             refine (reduce_ok a6 b9 A9 D6 c9 d6 z9 y6 S_a6.out M_a6.out (by have := HLS.out; omega) (by have := HM6.out; omega) (by rw [HVM.out]; have h1 := qd_pos HY.out.2; have h2 := qd_pos HW.out.2; have h3 := Int.mul_pos h1 h2; omega)).mono ?_
             rintro e_ a7 ⟨b7, A7, c7, x7, B7, d7, y7, rfl, HR1, HR2, HR3, hr1, hr2, hB⟩
             have V0_a7 := Lib.hid (Vr.below' V0_a6.out hB)
             have V0_a7c0 := (V0_a7.out).cell 0 rfl
             have V0_a7c1 := (V0_a7.out).cell 1 rfl
             have V0_a7c2 := (V0_a7.out).cell 2 rfl
             have V1_a7 := Lib.hid (Vr.below' V1_a6.out hB)
             have V1_a7c0 := (V1_a7.out).cell 0 rfl
             have V1_a7c1 := (V1_a7.out).cell 1 rfl
             have V1_a7c2 := (V1_a7.out).cell 2 rfl
             have VA_a7 := Lib.hid (Vr.below' VA_a6.out hB)
             have VA_a7c0 := (VA_a7.out).cell 0 rfl
             have VA_a7c1 := (VA_a7.out).cell 1 rfl
             have VB_a7 := Lib.hid (Vr.below' VB_a6.out hB)
             have VB_a7c0 := (VB_a7.out).cell 0 rfl
             have VB_a7c1 := (VB_a7.out).cell 1 rfl
             have VR_a7 := Lib.hid (Vr.below' VR_a6.out hB)
             have VR_a7c0 := (VR_a7.out).cell 0 rfl
             have VR_a7c1 := (VR_a7.out).cell 1 rfl
             have VR_a7c2 := (VR_a7.out).cell 2 rfl
             have VR_a7f0 := (VR_a7.out).thaw 0
             have VR_a7f1 := (VR_a7.out).thaw 1
             have VR_a7f2 := (VR_a7.out).thaw 2
             have B_a7 := Lib.hid (below_on B_a6.out hB)
             have X_a7 := Lib.hid hr1
             have R_a7 := Lib.hid hr2
             clear hB hr1 hr2))
      | fail
      have hqm : qv b9 z9 y6 = qv p xs ys + qv q us vs := by
        have h1 := qd_pos HY.out.2
        have h2 := qd_pos HW.out.2
        have e1 : zv b9 z9 = qn p xs ys * qd vs + qn q us vs * qd ys := by rw [HB9.out, HZ9.out, zv_norm, EZ1.out, EZ2.out]
        rw [qv_parts HY.out.2, qv_parts HW.out.2, Rat.mkRat_add_mkRat _ _ (by omega) (by omega)]
        unfold qv
        rw [e1, HVM.out, Int.toNat_of_nonneg (by omega), Int.toNat_of_nonneg (by omega)]
        congr 1
        have h3 := Int.mul_nonneg (Int.le_of_lt h1) (Int.le_of_lt h2)
        have h4 : (((qd ys).toNat * (qd vs).toNat : Nat) : Int) = qd ys * qd vs := by rw [Int.natCast_mul, Int.toNat_of_nonneg (by omega), Int.toNat_of_nonneg (by omega)]
        omega
      have HQM := Lib.hid hqm
      clear hqm
      go_wp2_with fail
      have X_y1 := (X_a7.out).apart (VR_a7.out) (nd_rat _ _ _ _ _ _ _) 0 (.bool b7)
      have R_y1 := (R_a7.out).apart (VR_a7.out) (nd_rat _ _ _ _ _ _ _) 0 (.bool b7)
      have VR_y1 := (VR_a7.out).set 0 (.bool b7)
      have X_y2 := (X_y1).apart (VR_y1) (nd_rat _ _ _ _ _ _ _) 1 (.slice A7 x7.length c7)
      have R_y2 := (R_y1).apart (VR_y1) (nd_rat _ _ _ _ _ _ _) 1 (.slice A7 x7.length c7)
      have VR_y2 := (VR_y1).set 1 (.slice A7 x7.length c7)
      have X_y3 := (X_y2).apart (VR_y2) (nd_rat _ _ _ _ _ _ _) 2 (.slice B7 y7.length d7)
      have R_y3 := (R_y2).apart (VR_y2) (nd_rat _ _ _ _ _ _ _) 2 (.slice B7 y7.length d7)
      have VR_y3 := (VR_y2).set 2 (.slice B7 y7.length d7)
      have VR_yy : Vr (((a7.setCell ⟨gW2, 0, none⟩ (.bool b7)).setCell ⟨gW2, 1, none⟩ (.slice A7 x7.length c7)).setCell ⟨gW2, 2, none⟩ (.slice B7 y7.length d7)) gW2 28 #[.bool b7, .slice A7 x7.length c7, .slice B7 y7.length d7] := VR_y3
      refine bodyPost_ret (v := .agg #[.bool b7, .slice A7 x7.length c7, .slice B7 y7.length d7]) (by simp [results, Tryz.results39, go_sem, VR_yy.cell 0 rfl, VR_yy.cell 1 rfl, VR_yy.cell 2 rfl]) rfl ?_
      exact ⟨b7, A7, c7, x7, B7, d7, y7, rfl, by rw [← HQM.out]; exact HR1, by rw [← HQM.out]; exact HR2, by rw [← HQM.out]; exact HR3, X_y3, R_y3, (below_set (below_set (below_set B_a7.out hgeW2 _) hgeW2 _) hgeW2 _)⟩
theorem cross_len {b : Bool} {xs ys vs : List Int} (hx : Lim xs) (hv : Lim vs) : (limbs (qn b xs ys * qd vs).natAbs).length ≤ xs.length + vs.length + 1 := by
  rw [Int.natAbs_mul]
  have h1 := nat_mul_len (qn b xs ys).natAbs (qd vs).natAbs
  have h2 := qn_len (b := b) (ys := ys) hx
  have h3 := qd_len hv
  have h4 : (qd vs).natAbs = (qd vs).toNat := by have := qd_pos hv; omega
  rw [h4] at h1 ⊢
  omega
theorem rqadd_ok (w : World) (p q : Bool) (P P2 Q Q2 : Option Addr) (cp cp2 cq cq2 : Nat) (xs ys us vs : List Int) (hx : RN w P cp xs) (hy : RN w P2 cp2 ys) (hu : RN w Q cq us) (hw : RN w Q2 cq2 vs) (hb1 : xs.length + vs.length + 4 ≤ 35184372088790) (hb2 : us.length + ys.length + 4 ≤ 35184372088790) (hb3 : ys.length + vs.length + 2 ≤ 35184372088790) :
    Calls Tryz.prog 39 #[.agg #[.bool p, .slice P xs.length cp, .slice P2 ys.length cp2], .agg #[.bool q, .slice Q us.length cq, .slice Q2 vs.length cq2]] w (RetQ (qv p xs ys + qv q us vs) w) :=
  rqaddV_ok w p q P P2 Q Q2 cp cp2 cq cq2 xs ys us vs hx hy hu hw (by omega) (by omega) (by omega) (by omega) (by omega) (by omega) (by omega) (Nat.le_trans (cross_len hx.2 hw.2) (by omega)) (Nat.le_trans (cross_len hu.2 hy.2) (by omega))

end Go.Proofs.YtocpncjmcaecoaaGreat.M
