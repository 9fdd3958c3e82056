/- The scores of several abilities, and the first that reaches a score, by the reference. -/
import Derived.Test.YtgdlnmhpnlmofaaRefScore
import Derived.Test.YtgdlnmhpnlmofaaLawReach
namespace Go.Proofs.Ytgdlnmhpnlmofaa.M
set_option maxRecDepth 10000
open Go.RowKit
set_option linter.unusedVariables false
set_option linter.unusedSimpArgs false
theorem reachP_one {rs : List Rt} {ss : List Int} {least k e0 k' e0' : Int} (h : ReachP rs ss least k e0) (h' : ReachP rs ss least k' e0') : k' = k ∧ e0' = e0 := by
  rcases h with ⟨h1, h2, h3⟩ | ⟨h1, ⟨i, h2, h3, h4, h5, h6⟩ | ⟨h2, h3, h4⟩⟩
  · obtain ⟨h4, h5⟩ := reach_dis h' h1
    exact ⟨h4.trans h2.symm, h5.trans h3.symm⟩
  · obtain ⟨h7, h8⟩ := reach_first h' h1 h2 h5 h6
    exact ⟨h7.trans h3.symm, h8.trans h4.symm⟩
  · obtain ⟨h7, h8⟩ := reach_none h' h1 h4
    exact ⟨h7.trans h2.symm, h8.trans h3.symm⟩
theorem reachQ_one {a b : Rat} {lo hi md : Int} {rs : List Rt} {least k e0 k' e0' : Int} (h : ReachQ a b lo hi md rs least k e0) (h' : ReachQ a b lo hi md rs least k' e0') : k' = k ∧ e0' = e0 := by
  unfold ReachQ at h h'
  rcases h with ⟨h1, h2, h3⟩ | ⟨h1, h2⟩
  · rcases h' with ⟨k1, k2, k3⟩ | ⟨k1, k2⟩
    · exact ⟨k2.trans h2.symm, k3.trans h3.symm⟩
    · exact absurd k1 h1
  · rcases h' with ⟨k1, k2, k3⟩ | ⟨k1, k2⟩
    · exact absurd h1 k1
    · exact reachP_one h2 k2

set_option maxHeartbeats 3200000 in
theorem rtable_ok (w : World) (la lb : Bool) (LA LD LB LE : Option Addr) (ca da cb db : Nat) (xa ya xb yb : List Int) (lo hi md : Int) (hxa : RN w LA ca xa) (hya : RN w LD da ya) (hxb : RN w LB cb xb) (hyb : RN w LE db yb) (sxa : xa.length ≤ 20) (sya : ya.length ≤ 20) (sxb : xb.length ≤ 20) (syb : yb.length ≤ 20) (S : Option Addr) (cS : Nat) (rs : List Rt) (hrs : Rs w S cS rs) (hsm : ∀ (j : Nat) (r : Rt), rs[j]? = some r → r.xs.length ≤ 20 ∧ r.ys.length ≤ 20) :
    Calls Try.prog 24 #[.agg #[.bool la, .slice LA xa.length ca, .slice LD ya.length da, .bool lb, .slice LB xb.length cb, .slice LE yb.length db, .int .i64 lo, .int .i64 hi, .int .i64 md], .slice S rs.length cS] w (RetTab (tabV (qv la xa ya) (qv lb xb yb) lo hi md rs) (chkE (linE (qv la xa ya) lo hi md) rs.length) w) := by
  have HXA := Lib.hid hxa
  have HYA := Lib.hid hya
  have HXB := Lib.hid hxb
  have HYB := Lib.hid hyb
  clear hxa hya hxb hyb
  have hmx : rs.length ≤ 9223372036854775807 := Nat.le_trans hrs.1 hrs.2.1
  have HRS := Lib.hid hrs
  clear hrs
  have HSM := Lib.hid hsm
  clear hsm
  go_enter Try.func24, Try.ntmps24
  obtain ⟨E, hE⟩ : ∃ E, linE (qv la xa ya) lo hi md = E := ⟨_, rfl⟩
  have HE := Lib.hid hE
  have hC : chkE (linE (qv la xa ya) lo hi md) rs.length = chkE E rs.length := by rw [hE]
  have HC := Lib.hid hC
  clear hE hC
  go_upto_region 1 with fail
  obtain ⟨W, hW⟩ : ∃ W, W = (w.alloc (.cells #[.bool la, .slice LA xa.length ca, .slice LD ya.length da, .bool lb, .slice LB xb.length cb, .slice LE yb.length db, .int .i64 lo, .int .i64 hi, .int .i64 md] 35)) := ⟨_, rfl⟩
  rw [← hW]
  have H_W : Mo w W [(w.heap.size, 35, #[.bool la, .slice LA xa.length ca, .slice LD ya.length da, .bool lb, .slice LB xb.length cb, .slice LE yb.length db, .int .i64 lo, .int .i64 hi, .int .i64 md])] [] := by
    rw [hW]
    have h := ((Mo.start w).alloc (t := 35) (cs := #[.bool la, .slice LA xa.length ca, .slice LD ya.length da, .bool lb, .slice LB xb.length cb, .slice LE yb.length db, .int .i64 lo, .int .i64 hi, .int .i64 md]) (nd_lin _ _ _ _ _ _ _ _ _ _ _ _ _ _ _ _ _))
    simp only [size_alloc, List.nil_append, List.cons_append] at h
    exact h
  clear hW
  have H_W := Lib.hid H_W
  have k0Wc0 := ((H_W.out.var 0 rfl)).cell 0 rfl
  have k0Wc1 := ((H_W.out.var 0 rfl)).cell 1 rfl
  have k0Wc2 := ((H_W.out.var 0 rfl)).cell 2 rfl
  have k0Wc3 := ((H_W.out.var 0 rfl)).cell 3 rfl
  have k0Wc4 := ((H_W.out.var 0 rfl)).cell 4 rfl
  have k0Wc5 := ((H_W.out.var 0 rfl)).cell 5 rfl
  have k0Wc6 := ((H_W.out.var 0 rfl)).cell 6 rfl
  have k0Wc7 := ((H_W.out.var 0 rfl)).cell 7 rfl
  have k0Wc8 := ((H_W.out.var 0 rfl)).cell 8 rfl
  go_wp2_with fail
  refine (rsvalid_ok W la lb LA LD LB LE ca da cb db xa ya xb yb lo hi md (HXA.out.below H_W.out.below) (HYA.out.below H_W.out.below) (HXB.out.below H_W.out.below) (HYB.out.below H_W.out.below) sxa sya sxb syb).mono ?_
  rw [HE.out]
  rintro e_ w1 ⟨rfl, hB⟩
  have H_w1 := Lib.hid (Mo.call H_W.out hB)
  have k0w1c0 := ((H_w1.out.var 0 rfl)).cell 0 rfl
  have k0w1c1 := ((H_w1.out.var 0 rfl)).cell 1 rfl
  have k0w1c2 := ((H_w1.out.var 0 rfl)).cell 2 rfl
  have k0w1c3 := ((H_w1.out.var 0 rfl)).cell 3 rfl
  have k0w1c4 := ((H_w1.out.var 0 rfl)).cell 4 rfl
  have k0w1c5 := ((H_w1.out.var 0 rfl)).cell 5 rfl
  have k0w1c6 := ((H_w1.out.var 0 rfl)).cell 6 rfl
  have k0w1c7 := ((H_w1.out.var 0 rfl)).cell 7 rfl
  have k0w1c8 := ((H_w1.out.var 0 rfl)).cell 8 rfl
  clear hB
  by_cases h0 : E = 0
  rotate_left
  · have e1 : (E == 0) = false := beq_eq_false_iff_ne.2 h0
    have e2 : (E != 0) = true := by simpa using h0
    have HN0 : Hid (chkE E rs.length = E) := by show _ = _; unfold chkE; rw [if_neg h0]
    have HN1 : Hid (E ≠ 0) := h0
    clear h0
    go_wp2_with fail
    go_ret2
    exact ⟨none, 0, [], by rw [HC.out, HN0.out]; rfl, by show _ = _; unfold tabV; rw [HC.out, HN0.out, if_neg (fun h => HN1.out h)], ⟨Nat.le_refl _, by omega, fun j hj => by simp at hj⟩, H_w1.out.below⟩
  subst h0
  by_cases h61 : 61 < rs.length
  · have d1 : decide ((61 : Int) < (rs.length : Int)) = true := decide_eq_true (by omega)
    have d2 : decide (61 < rs.length) = true := decide_eq_true h61
    have HN0 : Hid (chkE 0 rs.length = 5) := by show _ = _; unfold chkE; rw [if_pos rfl, if_pos h61]
    clear h61
    go_wp2_with fail
    go_ret2
    exact ⟨none, 0, [], by rw [HC.out, HN0.out]; rfl, by show _ = _; unfold tabV; rw [HC.out, HN0.out, if_neg (by decide)], ⟨Nat.le_refl _, by omega, fun j hj => by simp at hj⟩, H_w1.out.below⟩
  have d1 : decide ((61 : Int) < (rs.length : Int)) = false := decide_eq_false (by omega)
  have d2 : decide (61 < rs.length) = false := decide_eq_false h61
  have HN0 : Hid (chkE 0 rs.length = 0) := by show _ = _; unfold chkE; rw [if_pos rfl, if_neg h61]
  have hl61 : rs.length ≤ 61 := by omega
  obtain ⟨i0, hi0, hz0, hz1, hz2⟩ := info_parts info_int2
  go_wp2_with fail
  go_loopw [7, 8, 9, 10] (fun ov iv n9 n10 wr => ∃ (k : Nat) (l : List Int), iv = .int .i64 (k : Int) ∧ k ≤ rs.length ∧ Hid (l = scoresOf (qv la xa ya) (qv lb xb yb) lo hi md (rs.take k)) ∧ OwnI wr w1.heap.size 3 .i64 ov l ∧ Hid (Below w1.heap.size w1 wr)) (fun _ iv _ _ _ => rs.length - (intOf iv).toNat)
  case atStart => exact ⟨0, [], rfl, Nat.zero_le _, by simp [Hid, scoresOf], OwnI.nil2 _ _ _ _, Below.refl _ _⟩
  case round =>
    clear d1 d2
    obtain ⟨k, l, rfl, hk, HL, HO, HB⟩ := hrel
    obtain ⟨A10, c10, rfl, hr10⟩ := own_rk HO
    have HR10 := Lib.hid hr10
    clear hr10
    have hll : l.length ≤ 61 := by rw [HL.out, scores_len, List.length_take]; omega
    by_cases hlt : k < rs.length
    · have d1 : decide ((k : Int) < (rs.length : Int)) = true := decide_eq_true (by omega)
      have b1 : (0 : Int) ≤ (k : Int) := by omega
      have b2 : (k : Int) < (rs.length : Int) := by omega
      have H_wr := Lib.hid (Mo.call H_w1.out HB.out)
      have k0wrc0 := ((H_wr.out.var 0 rfl)).cell 0 rfl
      have k0wrc1 := ((H_wr.out.var 0 rfl)).cell 1 rfl
      have k0wrc2 := ((H_wr.out.var 0 rfl)).cell 2 rfl
      have k0wrc3 := ((H_wr.out.var 0 rfl)).cell 3 rfl
      have k0wrc4 := ((H_wr.out.var 0 rfl)).cell 4 rfl
      have k0wrc5 := ((H_wr.out.var 0 rfl)).cell 5 rfl
      have k0wrc6 := ((H_wr.out.var 0 rfl)).cell 6 rfl
      have k0wrc7 := ((H_wr.out.var 0 rfl)).cell 7 rfl
      have k0wrc8 := ((H_wr.out.var 0 rfl)).cell 8 rfl
      obtain ⟨ad, b, A, c2, xs, B, d, ys, rfl, hr, h0, h1, h2, h3, h4⟩ := (HRS.out.below H_wr.out.below).at hlt
      have HR := Lib.hid hr
      have H3 := Lib.hid h3
      have H4 := Lib.hid h4
      clear hr h3 h4
      have hsm := HSM.out _ _ HR.out
      obtain ⟨s, hs⟩ : ∃ s, scoreV (qv la xa ya) (qv lb xb yb) lo hi md (qv b xs ys) = s := ⟨_, rfl⟩
      have hsq : scoreQ (qv la xa ya) (qv lb xb yb) lo hi md (qv b xs ys) = s := by rw [← hs]; unfold scoreV; rw [if_pos HE.out]
      have HLN : Hid (l ++ [s] = scoresOf (qv la xa ya) (qv lb xb yb) lo hi md (rs.take (k + 1))) := by show _ = _; rw [scores_next HR.out, HL.out]; show _ = _ ++ [scoreQ (qv la xa ya) (qv lb xb yb) lo hi md (qv b xs ys)]; rw [hsq]
      have HS := Lib.hid hs
      clear hs hsq
      go_wp2_with fail
      have H_wrd := Lib.hid H_wr.out.drew
      first
      | go_region_held3 (fun w' => w'.cell? ⟨w.heap.size, 0, none⟩ = some (.bool la) ∧ w'.cell? ⟨w.heap.size, 1, none⟩ = some (.slice LA xa.length ca) ∧ w'.cell? ⟨w.heap.size, 2, none⟩ = some (.slice LD ya.length da) ∧ w'.cell? ⟨w.heap.size, 3, none⟩ = some (.bool lb) ∧ w'.cell? ⟨w.heap.size, 4, none⟩ = some (.slice LB xb.length cb) ∧ w'.cell? ⟨w.heap.size, 5, none⟩ = some (.slice LE yb.length db) ∧ w'.cell? ⟨w.heap.size, 6, none⟩ = some (.int .i64 lo) ∧ w'.cell? ⟨w.heap.size, 7, none⟩ = some (.int .i64 hi) ∧ w'.cell? ⟨w.heap.size, 8, none⟩ = some (.int .i64 md) ∧ w'.cell? (ad.add (k * 3)) = some (.bool b) ∧ w'.cell? ⟨(ad.add (k * 3)).block, (ad.add (k * 3)).off + 1, none⟩ = some (.slice A xs.length c2) ∧ w'.cell? ⟨(ad.add (k * 3)).block, (ad.add (k * 3)).off + 2, none⟩ = some (.slice B ys.length d)) (go_keep)
         (first
          | (go_at_call 15
             refine (rsScore_ok _ la lb LA LD LB LE ca da cb db xa ya xb yb lo hi md (HXA.out.below H_wrd.out.below) (HYA.out.below H_wrd.out.below) (HXB.out.below H_wrd.out.below) (HYB.out.below H_wrd.out.below) sxa sya sxb syb b A B c2 d xs ys (H3.out.below (Below.refl _ _).drew) (H4.out.below (Below.refl _ _).drew) hsm.1 hsm.2).mono ?_
             rw [HS.out, HE.out]
             rintro e_ v1 ⟨rfl, hB⟩
             have H_v1 := Lib.hid (Mo.call H_wrd.out hB)
             have k0v1c0 := ((H_v1.out.var 0 rfl)).cell 0 rfl
             have k0v1c1 := ((H_v1.out.var 0 rfl)).cell 1 rfl
             have k0v1c2 := ((H_v1.out.var 0 rfl)).cell 2 rfl
             have k0v1c3 := ((H_v1.out.var 0 rfl)).cell 3 rfl
             have k0v1c4 := ((H_v1.out.var 0 rfl)).cell 4 rfl
             have k0v1c5 := ((H_v1.out.var 0 rfl)).cell 5 rfl
             have k0v1c6 := ((H_v1.out.var 0 rfl)).cell 6 rfl
             have k0v1c7 := ((H_v1.out.var 0 rfl)).cell 7 rfl
             have k0v1c8 := ((H_v1.out.var 0 rfl)).cell 8 rfl
             have HB1 := Lib.hid (below_seq HB.out (below_seq (Below.refl _ _).drew hB))
             have HO1 := Lib.hid ((HO.below (Below.refl _ _).drew).below hB)
             have zh0 := cell_below (below_seq (Below.refl _ _).drew hB) h0
             have zh1 := cell_below (below_seq (Below.refl _ _).drew hB) h1
             have zh2 := cell_below (below_seq (Below.refl _ _).drew hB) h2
             clear hB))
      | fail
      have HO4 := HO1.out
      have HB4 := HB1.out
      clear HO HO1 HB1 HB
      go_wp2_with (at_builtin; refine wpList_append2 rfl _ _ 22 rfl Try.underlying22 hi0 hz0 hz1 hz2 rfl rfl HO4 HB4 HB4.size ?_ ?_; (omega))
      intro v9 w6 HO6 HB6 HG6 HM6
      clear HG6 HM6 HO4 HB4
      go_wp2_with fail
      go_roundw
      case rel => exact ⟨k + 1, l ++ [s], by go_num, hlt, HLN, HO6, HB6⟩
      case measure => simp [intOf]; omega
    · have d1 : decide ((k : Int) < (rs.length : Int)) = false := decide_eq_false (by omega)
      have d2 : decide (k < rs.length) = false := decide_eq_false hlt
      have HF : Hid (l = tabV (qv la xa ya) (qv lb xb yb) lo hi md rs) := by show _ = _; unfold tabV; rw [HC.out, HN0.out, if_pos rfl, HL.out, List.take_of_length_le (by omega)]
      clear HO
      go_wp2_with fail
      go_ret2
      exact ⟨A10, c10, l, by rw [HC.out, HN0.out]; rfl, HF, HR10.out, (Mo.call H_w1.out HB.out).below⟩

set_option maxHeartbeats 3200000 in
theorem rreach_ok (w : World) (la lb : Bool) (LA LD LB LE : Option Addr) (ca da cb db : Nat) (xa ya xb yb : List Int) (lo hi md : Int) (hxa : RN w LA ca xa) (hya : RN w LD da ya) (hxb : RN w LB cb xb) (hyb : RN w LE db yb) (sxa : xa.length ≤ 20) (sya : ya.length ≤ 20) (sxb : xb.length ≤ 20) (syb : yb.length ≤ 20) (S : Option Addr) (cS : Nat) (rs : List Rt) (hrs : Rs w S cS rs) (hsm : ∀ (j : Nat) (r : Rt), rs[j]? = some r → r.xs.length ≤ 20 ∧ r.ys.length ≤ 20) (least : Int) :
    Calls Try.prog 26 #[.agg #[.bool la, .slice LA xa.length ca, .slice LD ya.length da, .bool lb, .slice LB xb.length cb, .slice LE yb.length db, .int .i64 lo, .int .i64 hi, .int .i64 md], .slice S rs.length cS, .int .i64 least] w (RetReach (qv la xa ya) (qv lb xb yb) lo hi md rs least w) := by
  have HXA := Lib.hid hxa
  have HYA := Lib.hid hya
  have HXB := Lib.hid hxb
  have HYB := Lib.hid hyb
  clear hxa hya hxb hyb
  have hmx : rs.length ≤ 9223372036854775807 := Nat.le_trans hrs.1 hrs.2.1
  have HRS := Lib.hid hrs
  clear hrs
  have HSM := Lib.hid hsm
  clear hsm
  go_enter Try.func26, Try.ntmps26
  obtain ⟨E, hE⟩ : ∃ E, chkE (linE (qv la xa ya) lo hi md) rs.length = E := ⟨_, rfl⟩
  have HE := Lib.hid hE
  clear hE
  go_upto_region 1 with fail
  obtain ⟨W, hW⟩ : ∃ W, W = (w.alloc (.cells #[.bool la, .slice LA xa.length ca, .slice LD ya.length da, .bool lb, .slice LB xb.length cb, .slice LE yb.length db, .int .i64 lo, .int .i64 hi, .int .i64 md] 35)) := ⟨_, rfl⟩
  rw [← hW]
  have H_W : Mo w W [(w.heap.size, 35, #[.bool la, .slice LA xa.length ca, .slice LD ya.length da, .bool lb, .slice LB xb.length cb, .slice LE yb.length db, .int .i64 lo, .int .i64 hi, .int .i64 md])] [] := by
    rw [hW]
    have h := ((Mo.start w).alloc (t := 35) (cs := #[.bool la, .slice LA xa.length ca, .slice LD ya.length da, .bool lb, .slice LB xb.length cb, .slice LE yb.length db, .int .i64 lo, .int .i64 hi, .int .i64 md]) (nd_lin _ _ _ _ _ _ _ _ _ _ _ _ _ _ _ _ _))
    simp only [size_alloc, List.nil_append, List.cons_append] at h
    exact h
  clear hW
  have H_W := Lib.hid H_W
  have k0Wc0 := ((H_W.out.var 0 rfl)).cell 0 rfl
  have k0Wc1 := ((H_W.out.var 0 rfl)).cell 1 rfl
  have k0Wc2 := ((H_W.out.var 0 rfl)).cell 2 rfl
  have k0Wc3 := ((H_W.out.var 0 rfl)).cell 3 rfl
  have k0Wc4 := ((H_W.out.var 0 rfl)).cell 4 rfl
  have k0Wc5 := ((H_W.out.var 0 rfl)).cell 5 rfl
  have k0Wc6 := ((H_W.out.var 0 rfl)).cell 6 rfl
  have k0Wc7 := ((H_W.out.var 0 rfl)).cell 7 rfl
  have k0Wc8 := ((H_W.out.var 0 rfl)).cell 8 rfl
  go_wp2_with fail
  refine (rtable_ok W la lb LA LD LB LE ca da cb db xa ya xb yb lo hi md (HXA.out.below H_W.out.below) (HYA.out.below H_W.out.below) (HXB.out.below H_W.out.below) (HYB.out.below H_W.out.below) sxa sya sxb syb S cS rs (HRS.out.below H_W.out.below) HSM.out).mono ?_
  rw [HE.out]
  rintro e_ w4 ⟨T, cT, ts, rfl, HT, hT, hB⟩
  have H_w4 := Lib.hid (Mo.call H_W.out hB)
  have k0w4c0 := ((H_w4.out.var 0 rfl)).cell 0 rfl
  have k0w4c1 := ((H_w4.out.var 0 rfl)).cell 1 rfl
  have k0w4c2 := ((H_w4.out.var 0 rfl)).cell 2 rfl
  have k0w4c3 := ((H_w4.out.var 0 rfl)).cell 3 rfl
  have k0w4c4 := ((H_w4.out.var 0 rfl)).cell 4 rfl
  have k0w4c5 := ((H_w4.out.var 0 rfl)).cell 5 rfl
  have k0w4c6 := ((H_w4.out.var 0 rfl)).cell 6 rfl
  have k0w4c7 := ((H_w4.out.var 0 rfl)).cell 7 rfl
  have k0w4c8 := ((H_w4.out.var 0 rfl)).cell 8 rfl
  have HT4 := Lib.hid hT
  clear hT
  clear hB
  by_cases h0 : E = 0
  rotate_left
  · have e1 : (E == 0) = false := beq_eq_false_iff_ne.2 h0
    have e2 : (E != 0) = true := by simpa using h0
    have HN0 : Hid (E ≠ 0) := h0
    clear h0
    go_wp2_with fail
    go_ret2
    exact ⟨0, E, rfl, by show _; unfold ReachQ; rw [HE.out]; exact .inl ⟨HN0.out, rfl, rfl⟩, H_w4.out.below⟩
  subst h0
  have HT0 : Hid (ts = scoresOf (qv la xa ya) (qv lb xb yb) lo hi md rs) := by show _ = _; rw [HT.out]; unfold tabV; rw [HE.out, if_pos rfl]
  have HQ : Hid (∀ k e0, ReachP rs ts least k e0 → ReachQ (qv la xa ya) (qv lb xb yb) lo hi md rs least k e0) := fun k e0 h => by
    unfold ReachQ
    rw [HE.out]
    rw [HT0.out] at h
    exact .inr ⟨rfl, h⟩
  have hts : ts.length ≤ 61 := by
    have h := HE.out
    unfold chkE at h
    rw [HT0.out, scores_len]
    split at h
    · split at h
      · cases h
      · omega
    · contradiction
  have hrl : rs.length ≤ 61 := by rw [HT0.out, scores_len] at hts; exact hts
  clear HT HT0
  go_wp2_with fail
  go_loopw [10] (fun iv wr => ∃ (k : Nat), iv = .int .i64 (k : Int) ∧ 1 ≤ k ∧ (k ≤ rs.length ∨ k = 1) ∧ Hid (∀ i r s, i + 1 < k → rs[i]? = some r → rs[i + 1]? = some s → 0 ≤ cmpQ s.q r.q) ∧ Hid (Below w4.heap.size w4 wr)) (fun iv _ => rs.length - (intOf iv).toNat)
  case atStart => exact ⟨1, rfl, Nat.le_refl _, .inr rfl, fun i r s h => by omega, Below.refl _ _⟩
  case round =>
    obtain ⟨k, rfl, hk1, hk, HN, HB⟩ := hrel
    by_cases hlt : k < rs.length
    · have d1 : decide ((k : Int) < (rs.length : Int)) = true := decide_eq_true (by omega)
      obtain ⟨j, hj⟩ : ∃ j, k = j + 1 := ⟨k - 1, by omega⟩
      have e1 : ((k : Int) - 1) = (j : Int) := by omega
      have e2 : IntKind.i64.wrap (j : Int) = (j : Int) := IntWalk.i64_in _ (by omega)
      have e3 : IntKind.i64.wrap ((k : Int) - 1) = (j : Int) := by rw [e1]; exact e2
      have b1 : (0 : Int) ≤ (k : Int) := by omega
      have b2 : (k : Int) < (rs.length : Int) := by omega
      have b3 : (0 : Int) ≤ (j : Int) := by omega
      have b4 : (j : Int) < (rs.length : Int) := by omega
      have HJ := Lib.hid hj
      have hjl : j < rs.length := by omega
      clear hj
      have H_wr := Lib.hid (Mo.call H_w4.out HB.out)
      obtain ⟨ad, b, A, c2, xs, B, d, ys, rfl, hr, h0, h1, h2, h3, h4⟩ := (HRS.out.below H_wr.out.below).at hlt
      obtain ⟨ad_, b_, A_, c2_, xs_, B_, d_, ys_, had, hr_, h0_, h1_, h2_, h3_, h4_⟩ := (HRS.out.below H_wr.out.below).at hjl
      injection had with had
      subst had
      have HR := Lib.hid hr
      have HR_ := Lib.hid hr_
      have H3 := Lib.hid h3
      have H4 := Lib.hid h4
      have H3_ := Lib.hid h3_
      have H4_ := Lib.hid h4_
      clear hr h3 h4 hr_ h3_ h4_
      have hsm := HSM.out _ _ HR.out
      have hsm_ := HSM.out _ _ HR_.out
      obtain ⟨s, hs⟩ : ∃ s, cmpQ (qv b xs ys) (qv b_ xs_ ys_) = s := ⟨_, rfl⟩
      have HS := Lib.hid hs
      have HS2 : Hid (cmpQ (Rt.q ⟨b, A, c2, xs, B, d, ys⟩) (Rt.q ⟨b_, A_, c2_, xs_, B_, d_, ys_⟩) = s) := hs
      clear hs
      go_wp2_with fail
      have H_wrd := Lib.hid H_wr.out.drew
      first
      | go_region_held3 (fun w' => w'.cell? (ad.add (k * 3)) = some (.bool b) ∧ w'.cell? ⟨(ad.add (k * 3)).block, (ad.add (k * 3)).off + 1, none⟩ = some (.slice A xs.length c2) ∧ w'.cell? ⟨(ad.add (k * 3)).block, (ad.add (k * 3)).off + 2, none⟩ = some (.slice B ys.length d) ∧ w'.cell? (ad.add (j * 3)) = some (.bool b_) ∧ w'.cell? ⟨(ad.add (j * 3)).block, (ad.add (j * 3)).off + 1, none⟩ = some (.slice A_ xs_.length c2_) ∧ w'.cell? ⟨(ad.add (j * 3)).block, (ad.add (j * 3)).off + 2, none⟩ = some (.slice B_ ys_.length d_)) (go_keep)
         (first
          | (go_at_call 43
             refine (rqcmp_ok _ b b_ A B A_ B_ c2 d c2_ d_ xs ys xs_ ys_ (H3.out.below (Below.refl _ _).drew) (H4.out.below (Below.refl _ _).drew) (H3_.out.below (Below.refl _ _).drew) (H4_.out.below (Below.refl _ _).drew) (by have := hsm.1; omega) (by have := hsm.2; omega) (by have := hsm_.1; omega) (by have := hsm_.2; omega)).mono ?_
             rw [HS.out]
             rintro e_ v1 ⟨rfl, hB⟩
             have H_v1 := Lib.hid (Mo.call H_wrd.out hB)
             have HB1 := Lib.hid (below_seq HB.out (below_seq (Below.refl _ _).drew hB))
             have zh0 := cell_below (below_seq (Below.refl _ _).drew hB) h0
             have zh1 := cell_below (below_seq (Below.refl _ _).drew hB) h1
             have zh2 := cell_below (below_seq (Below.refl _ _).drew hB) h2
             have zh0_ := cell_below (below_seq (Below.refl _ _).drew hB) h0_
             have zh1_ := cell_below (below_seq (Below.refl _ _).drew hB) h1_
             have zh2_ := cell_below (below_seq (Below.refl _ _).drew hB) h2_
             clear hB))
      | fail
      by_cases hs0 : s < 0
      · have d5 : decide (s < 0) = true := decide_eq_true hs0
        have HD : Hid (ReachP rs ts least 0 23) := .inl ⟨⟨j, _, _, HR_.out, by rw [← HJ.out]; exact HR.out, by rw [HS2.out]; exact hs0⟩, rfl, rfl⟩
        go_wp2_with fail
        go_ret2
        exact ⟨0, 23, rfl, HQ.out _ _ HD.out, (Mo.call H_w4.out HB1.out).below⟩
      · have d5 : decide (s < 0) = false := decide_eq_false hs0
        have HNN : Hid (∀ i r s, i + 1 < k + 1 → rs[i]? = some r → rs[i + 1]? = some s → 0 ≤ cmpQ s.q r.q) := fun i r s' hi h1 h2 => by
          have hj := HJ.out
          rcases Nat.lt_or_ge (i + 1) k with h | h
          · exact HN.out i r s' h h1 h2
          · obtain rfl : i = j := by omega
            rw [HR_.out] at h1
            rw [← hj, HR.out] at h2
            injection h1 with h1
            injection h2 with h2
            subst h1 h2
            rw [HS2.out]
            omega
        have hs1 : 0 ≤ s := by omega
        go_wp2_with fail
        go_roundw
        case rel => exact ⟨k + 1, by go_num, by omega, .inl hlt, HNN, HB1⟩
        case measure => simp [intOf]; omega
    · have d1 : decide ((k : Int) < (rs.length : Int)) = false := decide_eq_false (by omega)
      have d1' : decide (k < rs.length) = false := decide_eq_false hlt
      have HND : Hid (¬ disord rs) := fun ⟨i, r, s, h1, h2, h3⟩ => by have h4 := HN.out i r s (by have := (List.getElem?_eq_some_iff.1 h2).1; omega) h1 h2; omega
      clear HN
      go_wp2_with fail
      go_loopw [11] (fun iv wr => ∃ (k : Nat), iv = .int .i64 (k : Int) ∧ k ≤ ts.length ∧ Hid (∀ j, j < k → dg ts j < least) ∧ Hid (Below w4.heap.size w4 wr)) (fun iv _ => ts.length - (intOf iv).toNat)
      case atStart => exact ⟨0, rfl, Nat.zero_le _, fun j h => by omega, HB⟩
      case round =>
        clear d1 d1' hlt HB hk
        obtain ⟨k, rfl, hk, HN, HB⟩ := hrel
        by_cases hlt : k < ts.length
        · have d1 : decide ((k : Int) < (ts.length : Int)) = true := decide_eq_true (by omega)
          obtain ⟨ad, rfl, hc⟩ := (HT4.out.below HB.out).2.2 k hlt
          by_cases hle : least ≤ dg ts k
          · have d3 : decide (least ≤ dg ts k) = true := decide_eq_true hle
            have HP : Hid (ReachP rs ts least (k : Int) 0) := .inr ⟨HND.out, .inl ⟨k, hlt, rfl, rfl, hle, HN.out⟩⟩
            clear hle
            go_wp2_with fail
            go_ret2
            exact ⟨k, 0, rfl, HQ.out _ _ HP.out, (Mo.call H_w4.out HB.out).below⟩
          · have d3 : decide (least ≤ dg ts k) = false := decide_eq_false hle
            have HNN : Hid (∀ j, j < k + 1 → dg ts j < least) := fun j hj => by
              rcases Nat.lt_or_ge j k with h | h
              · exact HN.out j h
              · obtain rfl : j = k := by omega
                omega
            clear hle HN
            go_wp2_with fail
            go_roundw
            case rel => exact ⟨k + 1, by go_num, hlt, HNN, HB⟩
            case measure => simp [intOf]; omega
        · have d1 : decide ((k : Int) < (ts.length : Int)) = false := decide_eq_false (by omega)
          have d1' : decide (k < ts.length) = false := decide_eq_false hlt
          have HP : Hid (ReachP rs ts least 0 6) := .inr ⟨HND.out, .inr ⟨rfl, rfl, fun j hj => HN.out j (by omega)⟩⟩
          clear hlt
          go_wp2_with fail
          go_ret2
          exact ⟨0, 6, rfl, HQ.out _ _ HP.out, (Mo.call H_w4.out HB.out).below⟩

end Go.Proofs.Ytgdlnmhpnlmofaa.M
