/- The law EquateRanks: its walk. -/
import Derived.Test.YtocpncjmcaecoaaGreatEqH
import Derived.Test.YtocpncjmcaecoaaGreatRfC
namespace Go.Proofs.YtocpncjmcaecoaaGreat.M
set_option maxRecDepth 10000
open Go.RowKit
set_option linter.unusedVariables false
set_option linter.unusedSimpArgs false

set_option maxHeartbeats 12800000 in
theorem ranks_ok (w : World) (FA : Option Addr) (fc : Nat) (f : List Int) (hf : Rk w .i64 FA fc f) (xb : Bool) (xA xD : Option Addr) (xc xe : Nat) (xn xd : List Int) (hxn : RN w xA xc xn) (hxd : RN w xD xe xd) (sxn : xn.length ≤ 35184372088100) (sxd : xd.length ≤ 35184372088100) (pb : Bool) (pA pD : Option Addr) (pc pe : Nat) (pn pd : List Int) (hpn : RN w pA pc pn) (hpd : RN w pD pe pd) (spn : pn.length ≤ 35184372088100) (spd : pd.length ≤ 35184372088100) :
    Calls Tryz.prog 3 #[.slice FA f.length fc, .agg #[.bool xb, .slice xA xn.length xc, .slice xD xd.length xe], .agg #[.bool pb, .slice pA pn.length pc, .slice pD pd.length pe]] w (RetT w) := by
  have HR := Lib.hid hf
  have hcl := hf.1
  have hcm := hf.2.1
  clear hf
  have N_x := Lib.hid hxn
  have D_x := Lib.hid hxd
  clear hxn hxd
  have N_p := Lib.hid hpn
  have D_p := Lib.hid hpd
  clear hpn hpd
  go_enter Tryz.func3, Tryz.ntmps3
  obtain ⟨E, hE⟩ : ∃ E, validE f = E := ⟨_, rfl⟩
  have HE := Lib.hid hE
  obtain ⟨qx, hqx⟩ : ∃ qx, qv xb xn xd = qx := ⟨_, rfl⟩
  obtain ⟨qp, hqp⟩ : ∃ qp, qv pb pn pd = qp := ⟨_, rfl⟩
  have Q_x := Lib.hid hqx
  have Q_p := Lib.hid hqp
  obtain ⟨ra, hra⟩ : ∃ ra, rankQ f qx = ra := ⟨_, rfl⟩
  have HRA := Lib.hid hra
  have ee1 : (E == E) = true := beq_self_eq_true E
  have ee2 : (E != E) = false := bne_self_eq_false E
  clear hE hqx hqp hra
  go_upto_region 1 with fail
  obtain ⟨W, hW⟩ : ∃ W, W = ((w.alloc (.cells #[.bool xb, .slice xA xn.length xc, .slice xD xd.length xe] 28)).alloc (.cells #[.bool pb, .slice pA pn.length pc, .slice pD pd.length pe] 28)) := ⟨_, rfl⟩
  rw [← hW]
  have H_W : Mo w W [(w.heap.size, 28, #[.bool xb, .slice xA xn.length xc, .slice xD xd.length xe]), (w.heap.size + 1, 28, #[.bool pb, .slice pA pn.length pc, .slice pD pd.length pe])] [] := by
    rw [hW]
    have h := (((Mo.start w).alloc (t := 28) (cs := #[.bool xb, .slice xA xn.length xc, .slice xD xd.length xe]) (nd_rat _ _ _ _ _ _ _)).alloc (t := 28) (cs := #[.bool pb, .slice pA pn.length pc, .slice pD pd.length pe]) (nd_rat _ _ _ _ _ _ _))
    simp only [size_alloc, List.nil_append, List.cons_append] at h
    exact h
  clear hW
  obtain ⟨gW1, hgW1⟩ : ∃ g, w.heap.size + 1 = g := ⟨_, rfl⟩
  rw [hgW1] at H_W ⊢
  clear hgW1
  have neW01 : w.heap.size ≠ gW1 := H_W.apart 0 1 _ _ _ _ _ _ rfl rfl (by decide)
  have neW10 : gW1 ≠ w.heap.size := H_W.apart 1 0 _ _ _ _ _ _ rfl rfl (by decide)
  have H_W := Lib.hid H_W
  have k0Wc0 := ((H_W.out.var 0 rfl)).cell 0 rfl
  have k0Wc1 := ((H_W.out.var 0 rfl)).cell 1 rfl
  have k0Wc2 := ((H_W.out.var 0 rfl)).cell 2 rfl
  go_wp2_with fail
  refine (rank_okE W FA fc f (HR.out.below H_W.out.below) xb xA xD xc xe xn xd (N_x.out.below H_W.out.below) (D_x.out.below H_W.out.below) (by omega) (by omega)).mono ?_
  rw [Q_x.out, HRA.out, HE.out]
  rintro e_ r1 ⟨b1, A1, c1, x1, B1, d1, y1, rfl, HQa1, HQb1, HQc1, hx1, hy1, hB⟩
  have H_r1 := Lib.hid (Mo.num (Mo.num (Mo.call H_W.out hB) hx1) hy1)
  clear hB hx1 hy1
  go_upto_region 2 with fail
  obtain ⟨T1, hT1⟩ : ∃ T1, T1 = r1.alloc (.cells #[.bool b1, .slice A1 x1.length c1, .slice B1 y1.length d1] 28) := ⟨_, rfl⟩
  rw [← hT1]
  have H_T1 : Hid (Mo w T1 _ _) := Lib.hid (by rw [hT1]; exact H_r1.out.alloc (t := 28) (cs := #[.bool b1, .slice A1 x1.length c1, .slice B1 y1.length d1]) (nd_rat _ _ _ _ _ _ _))
  clear hT1
  have k0T1c0 := ((H_T1.out.var 0 rfl)).cell 0 rfl
  have k0T1c1 := ((H_T1.out.var 0 rfl)).cell 1 rfl
  have k0T1c2 := ((H_T1.out.var 0 rfl)).cell 2 rfl
  go_wp2_with fail
  refine (rrank_okE T1 FA fc f (HR.out.below H_T1.out.below) xb xA xD xc xe xn xd (N_x.out.below H_T1.out.below) (D_x.out.below H_T1.out.below) (by omega) (by omega)).mono ?_
  rw [Q_x.out, HRA.out, HE.out]
  rintro e_ r2 ⟨b2, A2, c2, x2, B2, d2, y2, rfl, HQa2, HQb2, HQc2, hx2, hy2, hB⟩
  have H_r2 := Lib.hid (Mo.num (Mo.num (Mo.call H_T1.out hB) hx2) hy2)
  clear hB hx2 hy2
  go_upto_region 3 with fail
  obtain ⟨T2, hT2⟩ : ∃ T2, T2 = r2.alloc (.cells #[.bool b2, .slice A2 x2.length c2, .slice B2 y2.length d2] 28) := ⟨_, rfl⟩
  rw [← hT2]
  have H_T2 : Hid (Mo w T2 _ _) := Lib.hid (by rw [hT2]; exact H_r2.out.alloc (t := 28) (cs := #[.bool b2, .slice A2 x2.length c2, .slice B2 y2.length d2]) (nd_rat _ _ _ _ _ _ _))
  clear hT2
  have k1T2c0 := ((H_T2.out.var 1 rfl)).cell 0 rfl
  have k1T2c1 := ((H_T2.out.var 1 rfl)).cell 1 rfl
  have k1T2c2 := ((H_T2.out.var 1 rfl)).cell 2 rfl
  go_wp2_with fail
  refine (inverse_ok T2 FA fc f (HR.out.below H_T2.out.below) pb pA pD pc pe pn pd (N_p.out.below H_T2.out.below) (D_p.out.below H_T2.out.below) (by omega) (by omega)).mono ?_
  rw [Q_p.out]
  rintro e_ r3 ⟨q3, e3, HI3, b3, A3, c3, x3, B3, d3, y3, rfl, HQa3, HQb3, HQc3, hx3, hy3, hB⟩
  have H_r3 := Lib.hid (Mo.num (Mo.num (Mo.call H_T2.out hB) hx3) hy3)
  clear hB hx3 hy3
  go_upto_region 4 with fail
  obtain ⟨T3, hT3⟩ : ∃ T3, T3 = r3.alloc (.cells #[.bool b3, .slice A3 x3.length c3, .slice B3 y3.length d3] 28) := ⟨_, rfl⟩
  rw [← hT3]
  have H_T3 : Hid (Mo w T3 _ _) := Lib.hid (by rw [hT3]; exact H_r3.out.alloc (t := 28) (cs := #[.bool b3, .slice A3 x3.length c3, .slice B3 y3.length d3]) (nd_rat _ _ _ _ _ _ _))
  clear hT3
  have k1T3c0 := ((H_T3.out.var 1 rfl)).cell 0 rfl
  have k1T3c1 := ((H_T3.out.var 1 rfl)).cell 1 rfl
  have k1T3c2 := ((H_T3.out.var 1 rfl)).cell 2 rfl
  go_wp2_with fail
  refine (rinverse_ok T3 FA fc f (HR.out.below H_T3.out.below) pb pA pD pc pe pn pd (N_p.out.below H_T3.out.below) (D_p.out.below H_T3.out.below) (by omega) (by omega)).mono ?_
  rw [Q_p.out]
  rintro e_ r4 ⟨q4, e4, HI4, b4, A4, c4, x4, B4, d4, y4, rfl, HQa4, HQb4, HQc4, hx4, hy4, hB⟩
  have H_r4 := Lib.hid (Mo.num (Mo.num (Mo.call H_T3.out hB) hx4) hy4)
  obtain ⟨rfl, rfl⟩ := invR_one HI3.out HI4.out
  clear hB hx4 hy4
  have ee3 : (e4 == e4) = true := beq_self_eq_true e4
  have ee4 : (e4 != e4) = false := bne_self_eq_false e4
  go_upto_region 5 with fail
  obtain ⟨T4, hT4⟩ : ∃ T4, T4 = r4.alloc (.cells #[.bool b4, .slice A4 x4.length c4, .slice B4 y4.length d4] 28) := ⟨_, rfl⟩
  rw [← hT4]
  have H_T4 : Hid (Mo w T4 _ _) := Lib.hid (by rw [hT4]; exact H_r4.out.alloc (t := 28) (cs := #[.bool b4, .slice A4 x4.length c4, .slice B4 y4.length d4]) (nd_rat _ _ _ _ _ _ _))
  clear hT4
  go_wp2_with fail
  refine (evalid_ok T4 FA fc f (HR.out.below H_T4.out.below)).mono ?_
  rintro e_ T4 ⟨rfl, rfl⟩
  rw [HE.out]
  go_wp2_with fail
  refine (rvalid_ok T4 FA fc f (HR.out.below H_T4.out.below)).mono ?_
  rintro e_ T4 ⟨rfl, rfl⟩
  rw [HE.out]
  have k2T4c0 := ((H_T4.out.var 2 rfl)).cell 0 rfl
  have k2T4c1 := ((H_T4.out.var 2 rfl)).cell 1 rfl
  have k2T4c2 := ((H_T4.out.var 2 rfl)).cell 2 rfl
  have k3T4c0 := ((H_T4.out.var 3 rfl)).cell 0 rfl
  have k3T4c1 := ((H_T4.out.var 3 rfl)).cell 1 rfl
  have k3T4c2 := ((H_T4.out.var 3 rfl)).cell 2 rfl
  go_wp2_with fail
  refine (equal_ok T4 b1 b2 A1 B1 A2 B2 c1 d1 c2 d2 x1 y1 x2 y2 (H_T4.out.rn 0 rfl) (H_T4.out.rn 1 rfl) (H_T4.out.rn 2 rfl) (H_T4.out.rn 3 rfl) ra ra HQa1.out HQb1.out HQc1.out HQa2.out HQb2.out HQc2.out).mono ?_
  rw [decide_eq_true (show ra = ra from rfl)]
  rintro e_ r5 ⟨rfl, hB⟩
  have H_r5 := Lib.hid (Mo.call H_T4.out hB)
  have k4r5c0 := ((H_r5.out.var 4 rfl)).cell 0 rfl
  have k4r5c1 := ((H_r5.out.var 4 rfl)).cell 1 rfl
  have k4r5c2 := ((H_r5.out.var 4 rfl)).cell 2 rfl
  have k5r5c0 := ((H_r5.out.var 5 rfl)).cell 0 rfl
  have k5r5c1 := ((H_r5.out.var 5 rfl)).cell 1 rfl
  have k5r5c2 := ((H_r5.out.var 5 rfl)).cell 2 rfl
  clear hB
  go_wp2_with fail
  refine (equal_ok r5 b3 b4 A3 B3 A4 B4 c3 d3 c4 d4 x3 y3 x4 y4 (H_r5.out.rn 4 rfl) (H_r5.out.rn 5 rfl) (H_r5.out.rn 6 rfl) (H_r5.out.rn 7 rfl) q4 q4 HQa3.out HQb3.out HQc3.out HQa4.out HQb4.out HQc4.out).mono ?_
  rw [decide_eq_true (show q4 = q4 from rfl)]
  rintro e_ r6 ⟨rfl, hB⟩
  have H_r6 := Lib.hid (Mo.call H_r5.out hB)
  clear hB
  go_wp2_with fail
  refine (awake_ok r6).mono ?_
  rintro e_ r7 ⟨rfl, hB⟩
  have H_r7 := Lib.hid (Mo.call H_r6.out hB)
  clear hB
  go_wp2_with fail
  go_ret
  exact ⟨rfl, H_r7.out.below⟩
theorem ranks_row (w : World) (A : Option Addr) (c : Nat) (l : List Int) (hp : Rk w .i64 A c l) (hwf : ∀ x ∈ l, (Lit.int .i64 x).wf = true) (hsz : l.length * 8 ≤ 140737488351232) (xb : Bool) (xA xD : Option Addr) (xc xe : Nat) (xn xd : List Int) (hxn : RN w xA xc xn) (hxd : RN w xD xe xd) (sxn : xn.length * 4 ≤ 140737488351232) (sxd : xd.length * 4 ≤ 140737488351232) (pb : Bool) (pA pD : Option Addr) (pc pe : Nat) (pn pd : List Int) (hpn : RN w pA pc pn) (hpd : RN w pD pe pd) (spn : pn.length * 4 ≤ 140737488351232) (spd : pd.length * 4 ≤ 140737488351232) :
    Calls Tryz.prog 3 #[.slice A l.length c, .agg #[.bool xb, .slice xA xn.length xc, .slice xD xd.length xe], .agg #[.bool pb, .slice pA pn.length pc, .slice pD pd.length pe]] w (RetT w) :=
  ranks_ok w A c l hp xb xA xD xc xe xn xd hxn hxd (by omega) (by omega) pb pA pD pc pe pn pd hpn hpd (by omega) (by omega)

end Go.Proofs.YtocpncjmcaecoaaGreat.M
