/- The law EquateProportions: its walk. -/
import Derived.Test.YtocpncjmcaecoaaEqH
import Derived.Test.YtocpncjmcaecoaaProP
import Derived.Test.YtocpncjmcaecoaaApp
namespace Go.Proofs.Ytocpncjmcaecoaa.M
set_option maxRecDepth 10000
open Go.RowKit
set_option linter.unusedVariables false
set_option linter.unusedSimpArgs false
/-- The first k frequencies, each c times as great. -/
def scl (f : List Int) (c : Int) (k : Nat) (l : List Int) : Prop := l.length = k ∧ ∀ i, i < k → dg l i = dg f i * c
theorem scl.next {f l : List Int} {c : Int} {k : Nat} (h : scl f c k l) : scl f c (k + 1) (l ++ [dg f k * c]) := by
  refine ⟨by rw [List.length_append, h.1]; rfl, fun i hi => ?_⟩
  rcases Nat.lt_or_ge i k with h1 | h1
  · rw [← h.2 i h1]
    unfold dg
    rw [List.getD_eq_getElem?_getD, List.getD_eq_getElem?_getD, List.getElem?_append_left (by rw [h.1]; exact h1)]
    first | rfl | rw [List.getD_eq_getElem?_getD]
  · obtain rfl : i = k := by omega
    unfold dg
    rw [List.getD_eq_getElem?_getD, List.getElem?_append_right (by rw [h.1]; exact Nat.le_refl _), h.1, Nat.sub_self]
    rfl

set_option maxHeartbeats 12800000 in
theorem proportions_ok (w : World) (FA : Option Addr) (fc : Nat) (f : List Int) (hf : Rk w .i64 FA fc f) (xb : Bool) (xA xD : Option Addr) (xc xe : Nat) (xn xd : List Int) (hxn : RN w xA xc xn) (hxd : RN w xD xe xd) (sxn : xn.length ≤ 35184372088100) (sxd : xd.length ≤ 35184372088100) (pb : Bool) (pA pD : Option Addr) (pc pe : Nat) (pn pd : List Int) (hpn : RN w pA pc pn) (hpd : RN w pD pe pd) (spn : pn.length ≤ 35184372088100) (spd : pd.length ≤ 35184372088100) (bv : Int) (hbv : 0 ≤ bv ∧ bv ≤ 255) :
    Calls Try.prog 3 #[.slice FA f.length fc, .agg #[.bool xb, .slice xA xn.length xc, .slice xD xd.length xe], .agg #[.bool pb, .slice pA pn.length pc, .slice pD pd.length pe], .int .u8 bv] w (RetT w) := by
  have HR := Lib.hid hf
  have hcl := hf.1
  have hcm := hf.2.1
  clear hf
  have N_x := Lib.hid hxn
  have D_x := Lib.hid hxd
  clear hxn hxd
  have N_p := Lib.hid hpn
  have D_p := Lib.hid hpd
  clear hpn hpd
  go_enter Try.func3, Try.ntmps3
  obtain ⟨E, hE⟩ : ∃ E, validE f = E := ⟨_, rfl⟩
  have HE := Lib.hid hE
  obtain ⟨qx, hqx⟩ : ∃ qx, qv xb xn xd = qx := ⟨_, rfl⟩
  obtain ⟨qp, hqp⟩ : ∃ qp, qv pb pn pd = qp := ⟨_, rfl⟩
  have Q_x := Lib.hid hqx
  have Q_p := Lib.hid hqp
  have Z_x : Hid (sz qx 35184372088101) := by show sz _ _; rw [← hqx]; exact sz_cells N_x.out.2 D_x.out.2 (by omega) (by omega)
  have Z_p : Hid (sz qp 35184372088101) := by show sz _ _; rw [← hqp]; exact sz_cells N_p.out.2 D_p.out.2 (by omega) (by omega)
  clear hE hqx hqp
  obtain ⟨i0, hi0, hz0, hz1, hz2⟩ := info_parts info_intE
  go_upto_region 1 with fail
  obtain ⟨W, hW⟩ : ∃ W, W = ((w.alloc (.cells #[.bool xb, .slice xA xn.length xc, .slice xD xd.length xe] 28)).alloc (.cells #[.bool pb, .slice pA pn.length pc, .slice pD pd.length pe] 28)) := ⟨_, rfl⟩
  rw [← hW]
  have H_W : Mo w W [(w.heap.size, 28, #[.bool xb, .slice xA xn.length xc, .slice xD xd.length xe]), (w.heap.size + 1, 28, #[.bool pb, .slice pA pn.length pc, .slice pD pd.length pe])] [] := by
    rw [hW]
    have h := (((Mo.start w).alloc (t := 28) (cs := #[.bool xb, .slice xA xn.length xc, .slice xD xd.length xe]) (nd_rat _ _ _ _ _ _ _)).alloc (t := 28) (cs := #[.bool pb, .slice pA pn.length pc, .slice pD pd.length pe]) (nd_rat _ _ _ _ _ _ _))
    simp only [size_alloc, List.nil_append, List.cons_append] at h
    exact h
  clear hW
  obtain ⟨gW1, hgW1⟩ : ∃ g, w.heap.size + 1 = g := ⟨_, rfl⟩
  rw [hgW1] at H_W ⊢
  clear hgW1
  have neW01 : w.heap.size ≠ gW1 := H_W.apart 0 1 _ _ _ _ _ _ rfl rfl (by decide)
  have neW10 : gW1 ≠ w.heap.size := H_W.apart 1 0 _ _ _ _ _ _ rfl rfl (by decide)
  have H_W := Lib.hid H_W
  go_wp2_with fail
  refine (evalid_ok W FA fc f (HR.out.below H_W.out.below)).mono ?_
  rintro e_ W ⟨rfl, rfl⟩
  rw [HE.out]
  by_cases h0 : E = 0
  rotate_left
  · have e1 : (E == 0) = false := beq_eq_false_iff_ne.2 h0
    have e2 : (E != 0) = true := by simpa using h0
    clear h0
    go_wp2_with fail
    refine (awake_ok W).mono ?_
    rintro e_ w9 ⟨rfl, hB⟩
    have H_w9 := Lib.hid (Mo.call H_W.out hB)
    clear hB
    go_wp2_with fail
    go_ret
    exact ⟨rfl, H_w9.out.below⟩
  subst h0
  obtain ⟨hl61, hfq, hTp⟩ := valid_parts HE.out
  have HFQ := Lib.hid hfq
  have hlp : 0 < f.length := by
    rcases Nat.eq_zero_or_pos f.length with h | h
    · rw [h, tot_zero] at hTp
      exact absurd hTp (by decide)
    · exact h
  clear hfq hTp
  have ew : IntKind.i64.wrap (bv + 1) = bv + 1 := IntWalk.i64_in _ (by omega)
  have ew2 : IntKind.i64.wrap bv = bv := IntWalk.i64_in _ (by omega)
  go_wp2_with fail
  go_loopw [9, 11, 37] (fun ov nv iv wr => ∃ (k : Nat) (l : List Int), iv = .int .i64 (k : Int) ∧ k ≤ f.length ∧ Hid (scl f (bv + 1) k l) ∧ OwnI wr W.heap.size 3 .i64 ov l ∧ Hid (Below W.heap.size W wr)) (fun _ _ iv _ => f.length - (intOf iv).toNat)
  case atStart => exact ⟨0, [], rfl, Nat.zero_le _, ⟨rfl, fun i hi => by omega⟩, World.ownsRow_nil _ _ _ 1, Below.refl _ _⟩
  case round =>
    obtain ⟨k, l, rfl, hk, HL, HO, HB⟩ := hrel
    obtain ⟨A10, c10, rfl, hr10⟩ := own_rk HO
    have HR10 := Lib.hid hr10
    clear hr10
    have hll : l.length ≤ 61 := by rw [HL.out.1]; omega
    have H_wr := Lib.hid (Mo.call H_W.out HB.out)
    by_cases hlt : k < f.length
    · have d1 : decide ((k : Int) < (f.length : Int)) = true := decide_eq_true (by omega)
      obtain ⟨ad, rfl, hcf⟩ := HR.out.2.2 k hlt
      have hcr := cell_belowE H_wr.out.below hcf
      have hnb := HFQ.out k hlt
      have HLN := Lib.hid HL.out.next
      obtain ⟨n, hn⟩ : ∃ n, dg f k = n := ⟨_, rfl⟩
      rw [hn] at hcr hnb HLN
      clear hn hcf
      have hm1 := Int.mul_nonneg hnb.1 (show 0 ≤ bv + 1 by omega)
      have hm2 : n * (bv + 1) ≤ 1000000 * 256 := Int.mul_le_mul hnb.2 (by omega) (by omega) (by decide)
      have ew3 : IntKind.i64.wrap (n * (bv + 1)) = n * (bv + 1) := IntWalk.i64_in _ (by omega)
      have HB4 := HB.out
      clear HB
      go_wp2_with (at_builtin; refine wpList_append2 rfl _ _ 22 rfl Try.underlying22 hi0 hz0 hz1 hz2 rfl rfl HO HB4 HB4.size ?_ ?_; (omega))
      intro v1 w7 HO7 HB7 HG7 HM7
      clear HG7 HM7 HO HB4
      go_wp2_with fail
      go_roundw
      case rel => exact ⟨k + 1, l ++ [n * (bv + 1)], by go_num, hlt, HLN, HO7, HB7⟩
      case measure => simp [intOf]; omega
    · have d1 : decide ((k : Int) < (f.length : Int)) = false := decide_eq_false (by omega)
      have d2_ : decide (k < f.length) = false := decide_eq_false hlt
      have hkl : k = f.length := by omega
      clear hlt hk HO
      subst hkl
      have HTM : Hid (timesL f l (bv + 1)) := HL.out
      obtain ⟨G, hG⟩ : ∃ G, validE l = G := ⟨_, rfl⟩
      have HGE := Lib.hid hG
      clear hG
      go_wp2_with fail
      refine (evalid_ok wr A10 c10 l HR10.out).mono ?_
      rintro e_ wr ⟨rfl, rfl⟩
      rw [HGE.out]
      have BL_wr : Hid (Below wr.heap.size wr wr) := Below.refl _ _
      go_upto_if 52 with fail
      go_cut [12] (fun s_ wc => Hid (Below w.heap.size w wc))
      case first =>
        by_cases hg0 : G = 0
        rotate_left
        · have e1 : (G == 0) = false := beq_eq_false_iff_ne.2 hg0
          clear hg0
          go_wp2_with fail
          go_meet
          exact H_wr.out.below
        subst hg0
        have hbp : 0 < bv + 1 := by omega
        obtain ⟨ra, hra⟩ : ∃ ra, rankQ f qx = ra := ⟨_, rfl⟩
        have HRA := Lib.hid hra
        have HRB : Hid (rankQ l qx = ra) := by show _ = _; rw [times_rank HTM.out hbp HE.out HGE.out]; exact hra
        have ZRA : Hid (sz ra 35184372088121) := by show sz _ _; rw [← hra]; exact rank_sz Z_x.out
        clear hra
        have k0wrc0 := ((H_wr.out.var 0 rfl)).cell 0 rfl
        have k0wrc1 := ((H_wr.out.var 0 rfl)).cell 1 rfl
        have k0wrc2 := ((H_wr.out.var 0 rfl)).cell 2 rfl
        go_wp2_with fail
        refine (rank_okE wr FA fc f (HR.out.below H_wr.out.below) xb xA xD xc xe xn xd (N_x.out.below H_wr.out.below) (D_x.out.below H_wr.out.below) (by omega) (by omega)).mono ?_
        rw [Q_x.out, HRA.out, HE.out]
        rintro e_ r1 ⟨b1, A1, c1, x1, B1, d1, y1, rfl, HQa1, HQb1, HQc1, hx1, hy1, hB⟩
        have H_r1 := Lib.hid (Mo.num (Mo.num (Mo.call H_wr.out hB) hx1) hy1)
        have BL_r1 := Lib.hid (below_seq BL_wr.out hB)
        clear hB hx1 hy1
        go_upto_region 11 with fail
        obtain ⟨T1, hT1⟩ : ∃ T1, T1 = r1.alloc (.cells #[.bool b1, .slice A1 x1.length c1, .slice B1 y1.length d1] 28) := ⟨_, rfl⟩
        rw [← hT1]
        have BL_T1 : Hid (Below wr.heap.size wr T1) := by rw [hT1]; exact BL_r1.out.alloc BL_r1.out.size _
        have H_T1 : Hid (Mo w T1 _ _) := Lib.hid (by rw [hT1]; exact H_r1.out.alloc (t := 28) (cs := #[.bool b1, .slice A1 x1.length c1, .slice B1 y1.length d1]) (nd_rat _ _ _ _ _ _ _))
        clear hT1
        have k0T1c0 := ((H_T1.out.var 0 rfl)).cell 0 rfl
        have k0T1c1 := ((H_T1.out.var 0 rfl)).cell 1 rfl
        have k0T1c2 := ((H_T1.out.var 0 rfl)).cell 2 rfl
        go_wp2_with fail
        refine (rank_okE T1 A10 c10 l (HR10.out.below BL_T1.out) xb xA xD xc xe xn xd (N_x.out.below H_T1.out.below) (D_x.out.below H_T1.out.below) (by omega) (by omega)).mono ?_
        rw [Q_x.out, HRB.out, HGE.out]
        rintro e_ r2 ⟨b2, A2, c2, x2, B2, d2, y2, rfl, HQa2, HQb2, HQc2, hx2, hy2, hB⟩
        have H_r2 := Lib.hid (Mo.num (Mo.num (Mo.call H_T1.out hB) hx2) hy2)
        have BL_r2 := Lib.hid (below_seq BL_T1.out hB)
        clear hB hx2 hy2
        go_upto_region 12 with fail
        obtain ⟨T2, hT2⟩ : ∃ T2, T2 = r2.alloc (.cells #[.bool b2, .slice A2 x2.length c2, .slice B2 y2.length d2] 28) := ⟨_, rfl⟩
        rw [← hT2]
        have BL_T2 : Hid (Below wr.heap.size wr T2) := by rw [hT2]; exact BL_r2.out.alloc BL_r2.out.size _
        have H_T2 : Hid (Mo w T2 _ _) := Lib.hid (by rw [hT2]; exact H_r2.out.alloc (t := 28) (cs := #[.bool b2, .slice A2 x2.length c2, .slice B2 y2.length d2]) (nd_rat _ _ _ _ _ _ _))
        clear hT2
        have k1T2c0 := ((H_T2.out.var 1 rfl)).cell 0 rfl
        have k1T2c1 := ((H_T2.out.var 1 rfl)).cell 1 rfl
        have k1T2c2 := ((H_T2.out.var 1 rfl)).cell 2 rfl
        go_wp2_with fail
        refine (inverse_ok T2 FA fc f (HR.out.below H_T2.out.below) pb pA pD pc pe pn pd (N_p.out.below H_T2.out.below) (D_p.out.below H_T2.out.below) (by omega) (by omega)).mono ?_
        rw [Q_p.out]
        rintro e_ r3 ⟨q3, e3, HI3, b3, A3, c3, x3, B3, d3, y3, rfl, HQa3, HQb3, HQc3, hx3, hy3, hB⟩
        have H_r3 := Lib.hid (Mo.num (Mo.num (Mo.call H_T2.out hB) hx3) hy3)
        have BL_r3 := Lib.hid (below_seq BL_T2.out hB)
        clear hB hx3 hy3
        go_upto_region 13 with fail
        obtain ⟨T3, hT3⟩ : ∃ T3, T3 = r3.alloc (.cells #[.bool b3, .slice A3 x3.length c3, .slice B3 y3.length d3] 28) := ⟨_, rfl⟩
        rw [← hT3]
        have BL_T3 : Hid (Below wr.heap.size wr T3) := by rw [hT3]; exact BL_r3.out.alloc BL_r3.out.size _
        have H_T3 : Hid (Mo w T3 _ _) := Lib.hid (by rw [hT3]; exact H_r3.out.alloc (t := 28) (cs := #[.bool b3, .slice A3 x3.length c3, .slice B3 y3.length d3]) (nd_rat _ _ _ _ _ _ _))
        clear hT3
        have k1T3c0 := ((H_T3.out.var 1 rfl)).cell 0 rfl
        have k1T3c1 := ((H_T3.out.var 1 rfl)).cell 1 rfl
        have k1T3c2 := ((H_T3.out.var 1 rfl)).cell 2 rfl
        go_wp2_with fail
        refine (inverse_ok T3 A10 c10 l (HR10.out.below BL_T3.out) pb pA pD pc pe pn pd (N_p.out.below H_T3.out.below) (D_p.out.below H_T3.out.below) (by omega) (by omega)).mono ?_
        rw [Q_p.out]
        rintro e_ r4 ⟨q4, e4, HI4, b4, A4, c4, x4, B4, d4, y4, rfl, HQa4, HQb4, HQc4, hx4, hy4, hB⟩
        have H_r4 := Lib.hid (Mo.num (Mo.num (Mo.call H_T3.out hB) hx4) hy4)
        have BL_r4 := Lib.hid (below_seq BL_T3.out hB)
        obtain ⟨rfl, rfl⟩ := times_inv HTM.out hbp HE.out HGE.out HI3.out HI4.out
        clear hB hx4 hy4
        go_upto_region 14 with fail
        obtain ⟨T4, hT4⟩ : ∃ T4, T4 = r4.alloc (.cells #[.bool b4, .slice A4 x4.length c4, .slice B4 y4.length d4] 28) := ⟨_, rfl⟩
        rw [← hT4]
        have BL_T4 : Hid (Below wr.heap.size wr T4) := by rw [hT4]; exact BL_r4.out.alloc BL_r4.out.size _
        have H_T4 : Hid (Mo w T4 _ _) := Lib.hid (by rw [hT4]; exact H_r4.out.alloc (t := 28) (cs := #[.bool b4, .slice A4 x4.length c4, .slice B4 y4.length d4]) (nd_rat _ _ _ _ _ _ _))
        clear hT4
        have ee1 : (e4 == e4) = true := beq_self_eq_true e4
        have ee2 : (e4 != e4) = false := bne_self_eq_false e4
        have k2T4c0 := ((H_T4.out.var 2 rfl)).cell 0 rfl
        have k2T4c1 := ((H_T4.out.var 2 rfl)).cell 1 rfl
        have k2T4c2 := ((H_T4.out.var 2 rfl)).cell 2 rfl
        have k3T4c0 := ((H_T4.out.var 3 rfl)).cell 0 rfl
        have k3T4c1 := ((H_T4.out.var 3 rfl)).cell 1 rfl
        have k3T4c2 := ((H_T4.out.var 3 rfl)).cell 2 rfl
        go_wp2_with fail
        refine (equal_ok T4 b1 b2 A1 B1 A2 B2 c1 d1 c2 d2 x1 y1 x2 y2 (H_T4.out.rn 0 rfl) (H_T4.out.rn 1 rfl) (H_T4.out.rn 2 rfl) (H_T4.out.rn 3 rfl) ra ra HQa1.out HQb1.out HQc1.out HQa2.out HQb2.out HQc2.out).mono ?_
        rw [decide_eq_true (show ra = ra from rfl)]
        rintro e_ r5 ⟨rfl, hB⟩
        have H_r5 := Lib.hid (Mo.call H_T4.out hB)
        have k4r5c0 := ((H_r5.out.var 4 rfl)).cell 0 rfl
        have k4r5c1 := ((H_r5.out.var 4 rfl)).cell 1 rfl
        have k4r5c2 := ((H_r5.out.var 4 rfl)).cell 2 rfl
        have k5r5c0 := ((H_r5.out.var 5 rfl)).cell 0 rfl
        have k5r5c1 := ((H_r5.out.var 5 rfl)).cell 1 rfl
        have k5r5c2 := ((H_r5.out.var 5 rfl)).cell 2 rfl
        have BL_r5 := Lib.hid (below_seq BL_T4.out hB)
        clear hB
        go_wp2_with fail
        refine (equal_ok r5 b3 b4 A3 B3 A4 B4 c3 d3 c4 d4 x3 y3 x4 y4 (H_r5.out.rn 4 rfl) (H_r5.out.rn 5 rfl) (H_r5.out.rn 6 rfl) (H_r5.out.rn 7 rfl) q4 q4 HQa3.out HQb3.out HQc3.out HQa4.out HQb4.out HQc4.out).mono ?_
        rw [decide_eq_true (show q4 = q4 from rfl)]
        rintro e_ r6 ⟨rfl, hB⟩
        have H_r6 := Lib.hid (Mo.call H_r5.out hB)
        have BL_r6 := Lib.hid (below_seq BL_r5.out hB)
        clear hB
        have h_r6 : Mo w r6 [(w.heap.size, 28, #[.bool xb, .slice xA xn.length xc, .slice xD xd.length xe]), (gW1, 28, #[.bool pb, .slice pA pn.length pc, .slice pD pd.length pe]), (r1.heap.size, 28, #[.bool b1, .slice A1 x1.length c1, .slice B1 y1.length d1]), (r2.heap.size, 28, #[.bool b2, .slice A2 x2.length c2, .slice B2 y2.length d2]), (r3.heap.size, 28, #[.bool b3, .slice A3 x3.length c3, .slice B3 y3.length d3]), (r4.heap.size, 28, #[.bool b4, .slice A4 x4.length c4, .slice B4 y4.length d4])] [] := H_r6.out.sub []
        clear H_r6
        have H_r6 := Lib.hid h_r6
        clear h_r6
        obtain ⟨mq, hmq⟩ : ∃ mq, momM f = mq := ⟨_, rfl⟩
        obtain ⟨vq, hvq⟩ : ∃ vq, momV f = vq := ⟨_, rfl⟩
        have hmm := times_mom HTM.out hbp HE.out HGE.out
        rw [hmq, hvq] at hmm
        have HMM := Lib.hid hmm
        have HMQ := Lib.hid hmq
        have HVQ := Lib.hid hvq
        clear hmm hmq hvq
        go_wp2_with fail
        refine (moments_ok r6 FA fc f (HR.out.below H_r6.out.below)).mono ?_
        rw [HMQ.out, HVQ.out, HE.out]
        rintro e_ r7 ⟨b20, A20, c20, x20, B20, d20, y20, b21, A21, c21, x21, B21, d21, y21, rfl, HQa20, HQb20, HQc20, HQa21, HQb21, HQc21, hx20, hy20, hx21, hy21, hB⟩
        have H_r7 := Lib.hid (Mo.num (Mo.num (Mo.num (Mo.num (Mo.call H_r6.out hB) hx20) hy20) hx21) hy21)
        have BL_r7 := Lib.hid (below_seq BL_r6.out hB)
        clear hB hx20 hy20 hx21 hy21
        go_upto_region 17 with fail
        obtain ⟨T5, hT5⟩ : ∃ T5, T5 = (r7.alloc (.cells #[.bool b20, .slice A20 x20.length c20, .slice B20 y20.length d20] 28)).alloc (.cells #[.bool b21, .slice A21 x21.length c21, .slice B21 y21.length d21] 28) := ⟨_, rfl⟩
        rw [← hT5]
        have BL_T5 : Hid (Below wr.heap.size wr T5) := by rw [hT5]; exact (BL_r7.out.alloc BL_r7.out.size _).alloc (by have := BL_r7.out.size; simp only [size_alloc]; omega) _
        have H_T5 : Hid (Mo w T5 _ _) := Lib.hid (by rw [hT5]; exact (H_r7.out.alloc' (t := 28) (cs := #[.bool b20, .slice A20 x20.length c20, .slice B20 y20.length d20]) (r7.heap.size) rfl (nd_rat _ _ _ _ _ _ _)).alloc' (t := 28) (cs := #[.bool b21, .slice A21 x21.length c21, .slice B21 y21.length d21]) (r7.heap.size + 1) (by rw [size_alloc]) (nd_rat _ _ _ _ _ _ _))
        clear hT5
        go_wp2_with fail
        refine (moments_ok T5 A10 c10 l (HR10.out.below BL_T5.out)).mono ?_
        rw [HMM.out.1, HMM.out.2, HGE.out]
        rintro e_ r8 ⟨b22, A22, c22, x22, B22, d22, y22, b23, A23, c23, x23, B23, d23, y23, rfl, HQa22, HQb22, HQc22, HQa23, HQb23, HQc23, hx22, hy22, hx23, hy23, hB⟩
        have H_r8 := Lib.hid (Mo.num (Mo.num (Mo.num (Mo.num (Mo.call H_T5.out hB) hx22) hy22) hx23) hy23)
        have BL_r8 := Lib.hid (below_seq BL_T5.out hB)
        clear hB hx22 hy22 hx23 hy23
        go_upto_region 18 with fail
        obtain ⟨T6, hT6⟩ : ∃ T6, T6 = (r8.alloc (.cells #[.bool b22, .slice A22 x22.length c22, .slice B22 y22.length d22] 28)).alloc (.cells #[.bool b23, .slice A23 x23.length c23, .slice B23 y23.length d23] 28) := ⟨_, rfl⟩
        rw [← hT6]
        have BL_T6 : Hid (Below wr.heap.size wr T6) := by rw [hT6]; exact (BL_r8.out.alloc BL_r8.out.size _).alloc (by have := BL_r8.out.size; simp only [size_alloc]; omega) _
        have H_T6 : Hid (Mo w T6 _ _) := Lib.hid (by rw [hT6]; exact (H_r8.out.alloc' (t := 28) (cs := #[.bool b22, .slice A22 x22.length c22, .slice B22 y22.length d22]) (r8.heap.size) rfl (nd_rat _ _ _ _ _ _ _)).alloc' (t := 28) (cs := #[.bool b23, .slice A23 x23.length c23, .slice B23 y23.length d23]) (r8.heap.size + 1) (by rw [size_alloc]) (nd_rat _ _ _ _ _ _ _))
        clear hT6
        have k6T6c0 := ((H_T6.out.var 6 rfl)).cell 0 rfl
        have k6T6c1 := ((H_T6.out.var 6 rfl)).cell 1 rfl
        have k6T6c2 := ((H_T6.out.var 6 rfl)).cell 2 rfl
        have k8T6c0 := ((H_T6.out.var 8 rfl)).cell 0 rfl
        have k8T6c1 := ((H_T6.out.var 8 rfl)).cell 1 rfl
        have k8T6c2 := ((H_T6.out.var 8 rfl)).cell 2 rfl
        go_wp2_with fail
        refine (equal_ok T6 b20 b22 A20 B20 A22 B22 c20 d20 c22 d22 x20 y20 x22 y22 (H_T6.out.rn 0 rfl) (H_T6.out.rn 1 rfl) (H_T6.out.rn 4 rfl) (H_T6.out.rn 5 rfl) mq mq HQa20.out HQb20.out HQc20.out HQa22.out HQb22.out HQc22.out).mono ?_
        rw [decide_eq_true (show mq = mq from rfl)]
        rintro e_ r9 ⟨rfl, hB⟩
        have H_r9 := Lib.hid (Mo.call H_T6.out hB)
        have k7r9c0 := ((H_r9.out.var 7 rfl)).cell 0 rfl
        have k7r9c1 := ((H_r9.out.var 7 rfl)).cell 1 rfl
        have k7r9c2 := ((H_r9.out.var 7 rfl)).cell 2 rfl
        have k9r9c0 := ((H_r9.out.var 9 rfl)).cell 0 rfl
        have k9r9c1 := ((H_r9.out.var 9 rfl)).cell 1 rfl
        have k9r9c2 := ((H_r9.out.var 9 rfl)).cell 2 rfl
        have BL_r9 := Lib.hid (below_seq BL_T6.out hB)
        clear hB
        go_wp2_with fail
        refine (equal_ok r9 b21 b23 A21 B21 A23 B23 c21 d21 c23 d23 x21 y21 x23 y23 (H_r9.out.rn 2 rfl) (H_r9.out.rn 3 rfl) (H_r9.out.rn 6 rfl) (H_r9.out.rn 7 rfl) vq vq HQa21.out HQb21.out HQc21.out HQa23.out HQb23.out HQc23.out).mono ?_
        rw [decide_eq_true (show vq = vq from rfl)]
        rintro e_ r10 ⟨rfl, hB⟩
        have H_r10 := Lib.hid (Mo.call H_r9.out hB)
        have BL_r10 := Lib.hid (below_seq BL_r9.out hB)
        clear hB
        go_wp2_with fail
        go_meet
        exact H_r10.out.below
      case rest =>
        try clear HR10
        try clear HL
        try clear HTM
        try clear HGE
        try clear BL_wr
        try clear H_wr
        try clear HB
        try clear d1
        try clear d2_
        have H_wc : Hid (Mo w wc [] []) := (Mo.start w).call hcut.out
        clear hcut
        obtain ⟨u, hu⟩ : ∃ u, u = 0 :: f := ⟨_, rfl⟩
        have hul1 : u.length ≤ f.length + 1 := by rw [hu]; exact Nat.le_refl _
        have hul2 : f.length + 1 ≤ u.length := by rw [hu]; exact Nat.le_refl _
        obtain ⟨s, Wb, hr, hcap, hbk, hB⟩ := append_one (P := Try.prog) 22 22 3 i0 .i64 Try.underlying22 hi0 hz0 hz1 (wc.alloc (.cells #[.int .i64 0] 3 (0, 0))) wc.heap.size 3 0 (Bk.lit (w := wc) (e := 3) (k := .i64) [0]) FA fc f (HR.out.below (below_seq H_wc.out.below ((Below.refl _ wc).alloc (Nat.le_refl _) _))) hlp (by omega) (by rw [hz2]; omega)
        have hsz : (wc.alloc (.cells #[.int .i64 0] 3 (0, 0))).heap.size = wc.heap.size + 1 := by simp
        rw [hsz] at hr hbk hB
        have HB0 : Hid (Below w.heap.size w Wb) := below_seq H_wc.out.below (((Below.refl _ wc).alloc (Nat.le_refl _) (.cells #[.int .i64 0] 3 (0, 0))).trans (hB.mono (by omega)))
        have hU : Rk Wb .i64 (some ⟨wc.heap.size + 1, 0, none⟩) (0 :: f ++ s).length u := by
          have h := (hbk.reads hcap).takeC (m := f.length + 1) (by simp)
          rwa [show (0 :: f ++ s).take (f.length + 1) = u by rw [hu]; simp] at h
        obtain ⟨cp, hcp⟩ : ∃ cp, (0 :: f ++ s).length = cp := ⟨_, rfl⟩
        have hlu : 1 + f.length = u.length := by omega
        rw [hlu, hcp] at hr
        rw [hcp] at hU hcap
        have HU := Lib.hid hU
        have HVU := valid_up HE.out
        rw [← hu] at HVU
        have HVU := Lib.hid HVU
        have HUE := Lib.hid hu
        have H_Wb : Hid (Mo w Wb [] []) := (Mo.start w).call HB0.out
        clear hbk hB hsz hlu hcp hU hu
        obtain ⟨gu, hgu⟩ : ∃ gu, wc.heap.size + 1 = gu := ⟨_, rfl⟩
        rw [hgu] at hr HU
        clear hgu
        go_wp2_with (at_builtin; refine wpList_append_run rfl _ _ _ rfl _ _ _ rfl rfl hr ?_; clear hr)
        refine (evalid_ok Wb (some ⟨gu, 0, none⟩) cp u HU.out).mono ?_
        rintro e_ Wb ⟨rfl, rfl⟩
        rcases HVU.out with ⟨h61, hv⟩ | ⟨h61, hv⟩
        · rw [hv]
          have c1 : ((f.length : Int) == 61) = true := beq_iff_eq.2 (by omega)
          have c2 : (f.length == 61) = true := beq_iff_eq.2 h61
          clear hv h61 HVU
          go_wp2_with fail
          refine (awake_ok Wb).mono ?_
          rintro e_ w9 ⟨rfl, hB⟩
          have H_w9 := Lib.hid (Mo.call H_Wb.out hB)
          clear hB
          go_wp2_with fail
          go_ret
          exact ⟨rfl, H_w9.out.below⟩
        rw [hv]
        have HPE : Hid (pairE u f = 0) := by show _ = _; unfold pairE; rw [if_pos hv]; exact HE.out
        have HV0 := Lib.hid hv
        clear hv HVU
        go_wp2_with fail
        refine (etable_ok Wb (some ⟨gu, 0, none⟩) cp u FA fc f HU.out (HR.out.below HB0.out)).mono ?_
        rintro e_ w1 ⟨TA, tc, rs, e5, rfl, HTB, hT, hB⟩
        have H_w1 := Lib.hid (Mo.call H_Wb.out hB)
        have HTT := Lib.hid hT
        obtain rfl : e5 = 0 := by rw [tab_err HTB.out]; exact HPE.out
        clear hT
        clear hB
        have HTL : Hid (rs.length = u.length) := tab_len HTB.out HPE.out
        have m1 : ((rs.length : Int) == (u.length : Int)) = true := by rw [HTL.out]; exact beq_self_eq_true _
        have m2 : (rs.length == u.length) = true := by rw [HTL.out]; exact beq_self_eq_true _
        have m3 : ((rs.length : Int) != (u.length : Int)) = false := by rw [HTL.out]; exact bne_self_eq_false _
        have m4 : (rs.length != u.length) = false := by rw [HTL.out]; exact bne_self_eq_false _
        have hrl1 : rs.length ≤ f.length + 1 := by have := HTL.out; omega
        have hrl2 : f.length + 1 ≤ rs.length := by have := HTL.out; omega
        go_wp2_with fail
        go_loopw [29, 30, 153] (fun v1 v2 iv wr => ∃ (k : Nat), iv = .int .i64 (k : Int) ∧ k ≤ f.length ∧ Hid (Below w1.heap.size w1 wr)) (fun _ _ iv _ => f.length - (intOf iv).toNat)
        case atStart => exact ⟨0, rfl, Nat.zero_le _, Below.refl _ _⟩
        case round =>
          clear m1 m2 m3 m4
          obtain ⟨k, rfl, hk, HBq⟩ := hrel
          have H_wr := Lib.hid (Mo.call H_w1.out HBq.out)
          by_cases hlt : k < f.length
          rotate_left
          · have d1 : decide ((k : Int) < (f.length : Int)) = false := decide_eq_false (by omega)
            have d1' : decide (k < f.length) = false := decide_eq_false hlt
            clear hlt hk
            go_wp2_with fail
            refine (awake_ok wr).mono ?_
            rintro e_ w9 ⟨rfl, hB⟩
            have H_w9 := Lib.hid (Mo.call H_wr.out hB)
            clear hB
            go_wp2_with fail
            go_ret
            exact ⟨rfl, H_w9.out.below⟩
          have d1 : decide ((k : Int) < (f.length : Int)) = true := decide_eq_true (by omega)
          obtain ⟨j, hj⟩ : ∃ j, k + 1 = j := ⟨_, rfl⟩
          have ej1 : ((k : Int) + 1) = (j : Int) := by omega
          have ej2 : IntKind.i64.wrap (j : Int) = (j : Int) := IntWalk.i64_in _ (by omega)
          have ej3 : IntKind.i64.wrap ((k : Int) + 1) = (j : Int) := by rw [ej1]; exact ej2
          have bj1 : (0 : Int) ≤ (j : Int) := by omega
          have bj2 : (j : Int) < (rs.length : Int) := by omega
          have hjl : j < rs.length := by omega
          have HJ := Lib.hid hj
          obtain ⟨fd, hfd, hcf⟩ := (HR.out.below H_wr.out.below).2.2 k hlt
          subst hfd
          obtain ⟨n, hn⟩ : ∃ n, dg f k = n := ⟨_, rfl⟩
          rw [hn] at hcf
          have HN := Lib.hid hn
          obtain ⟨ad, b, A, c2, xs, B, d, ys, hTA, hr, h0, h1, h2, h3, h4⟩ := (HTT.out.below HBq.out).at hjl
          subst hTA
          have H3 := Lib.hid h3
          have H4 := Lib.hid h4
          have HRK : Hid (rs[k + 1]? = some ⟨b, A, c2, xs, B, d, ys⟩) := by show _ = _; rw [hj]; exact hr
          clear hn hr h3 h4 hj
          by_cases hn0 : 0 < n
          rotate_left
          · have dn : decide (0 < n) = false := decide_eq_false hn0
            have hn1 : n ≤ 0 := by omega
            clear hn0 h0 h1 h2 ej1 ej2 ej3
            go_wp2_with fail
            go_quiet (fail)
            go_wp2_with fail
            go_roundw
            case rel => exact ⟨k + 1, by go_num, hlt, by first | exact HBq | exact Lib.hid HBq.out.drew | exact Lib.hid (below_drewN HBq.out _)⟩
            case measure => simp [intOf]; omega
          have dn : decide (0 < n) = true := decide_eq_true hn0
          have hnf := tab_up HE.out (by rw [← HUE.out]; exact HV0.out) (by rw [← HUE.out]; exact HTB.out) HRK.out hlt (by rw [HN.out]; exact hn0)
          have HNF := Lib.hid hnf
          clear hnf
          go_upto_region 29 with fail
          have H_wrd := Lib.hid H_wr.out.drew
          first
          | go_region_held3 (fun w' => w'.cell? (ad.add (j * 3)) = some (.bool b) ∧ w'.cell? ⟨(ad.add (j * 3)).block, (ad.add (j * 3)).off + 1, none⟩ = some (.slice A xs.length c2) ∧ w'.cell? ⟨(ad.add (j * 3)).block, (ad.add (j * 3)).off + 2, none⟩ = some (.slice B ys.length d)) (go_keep)
             (first
              | (go_at_call 14
                 with_reducible (show Calls Try.prog _ _ wr.drew _)
                 refine (part_ok _ (k : Int) 1 (by omega) (by omega) (by omega) (by omega)).mono ?_
                 rw [show (1 : Int).toNat = 1 from rfl, mkRat_int]
                 rintro e_ u1 ⟨b3, A3, c3, x3, B3, d3, y3, rfl, HQa3, HQb3, HQc3, hx3, hy3, hB⟩
                 have H_u1 := Lib.hid (Mo.num (Mo.num (Mo.call H_wrd.out hB) hx3) hy3)
                 have HBQu1 := Lib.hid (below_seq (Below.refl wr.heap.size wr).drew hB)
                 have zh0u1 := cell_belowE HBQu1.out h0
                 have zh1u1 := cell_belowE HBQu1.out h1
                 have zh2u1 := cell_belowE HBQu1.out h2
                 clear hB hx3 hy3)
              | (go_at_call 11
                 with_reducible (show Calls Try.prog _ _ u1 _)
                 refine (equal_ok u1 b b3 A B A3 B3 c2 d c3 d3 xs ys x3 y3 (H3.out.below HBQu1.out) (H4.out.below HBQu1.out) (H_u1.out.rn 0 rfl) (H_u1.out.rn 1 rfl) (((k : Int) : Int) : Rat) (((k : Int) : Int) : Rat) HNF.out.1 HNF.out.2.1 HNF.out.2.2 HQa3.out HQb3.out HQc3.out).mono ?_
                 rw [decide_eq_true (show (((k : Int) : Int) : Rat) = (((k : Int) : Int) : Rat) from rfl)]
                 rintro e_ u2 ⟨rfl, hB⟩
                 have H_u2 := Lib.hid (Mo.call H_u1.out hB)
                 have HBQu2 := Lib.hid (below_seq HBQu1.out hB)
                 have zh0u2 := cell_belowE HBQu2.out h0
                 have zh1u2 := cell_belowE HBQu2.out h1
                 have zh2u2 := cell_belowE HBQu2.out h2
                 clear hB))
          | fail
          have HBe := Lib.hid (below_seq HBq.out HBQu2.out)
          clear ej1 ej2 ej3
          go_wp2_with fail
          go_roundw
          case rel => exact ⟨k + 1, by go_num, hlt, HBe⟩
          case measure => simp [intOf]; omega
theorem proportions_row (w : World) (A : Option Addr) (c : Nat) (l : List Int) (hp : Rk w .i64 A c l) (hwf : ∀ x ∈ l, (Lit.int .i64 x).wf = true) (hsz : l.length * 8 ≤ 140737488351232) (xb : Bool) (xA xD : Option Addr) (xc xe : Nat) (xn xd : List Int) (hxn : RN w xA xc xn) (hxd : RN w xD xe xd) (sxn : xn.length * 4 ≤ 140737488351232) (sxd : xd.length * 4 ≤ 140737488351232) (pb : Bool) (pA pD : Option Addr) (pc pe : Nat) (pn pd : List Int) (hpn : RN w pA pc pn) (hpd : RN w pD pe pd) (spn : pn.length * 4 ≤ 140737488351232) (spd : pd.length * 4 ≤ 140737488351232) (bv : Int) (hbv : 0 ≤ bv ∧ bv ≤ 255) :
    Calls Try.prog 3 #[.slice A l.length c, .agg #[.bool xb, .slice xA xn.length xc, .slice xD xd.length xe], .agg #[.bool pb, .slice pA pn.length pc, .slice pD pd.length pe], .int .u8 bv] w (RetT w) :=
  proportions_ok w A c l hp xb xA xD xc xe xn xd hxn hxd (by omega) (by omega) pb pA pD pc pe pn pd hpn hpd (by omega) (by omega) bv hbv

end Go.Proofs.Ytocpncjmcaecoaa.M
