/- The index that reaches a score is the least one: the law's walk. -/
import Derived.Test.YtgdlnmhpnlmofaaReach
namespace Go.Proofs.Ytgdlnmhpnlmofaa.M
set_option maxRecDepth 10000
open Go.RowKit
set_option linter.unusedVariables false
set_option linter.unusedSimpArgs false
theorem reach_first {rs : List Rt} {ss : List Int} {least k e0 : Int} {i : Nat} (h : ReachP rs ss least k e0) (hn : ¬ disord rs) (hi : i < ss.length) (h1 : least ≤ dg ss i) (h2 : ∀ j, j < i → dg ss j < least) : k = i ∧ e0 = 0 := by
  rcases h with ⟨h, _⟩ | ⟨_, ⟨m, h3, h4, h5, h6, h7⟩ | ⟨_, _, h3⟩⟩
  · exact absurd h hn
  · obtain rfl : m = i := by
      rcases Nat.lt_trichotomy m i with h | h | h
      · have := h2 m h; omega
      · exact h
      · have := h7 i h; omega
    exact ⟨h4, h5⟩
  · have := h3 i hi; omega
theorem reach_none {rs : List Rt} {ss : List Int} {least k e0 : Int} (h : ReachP rs ss least k e0) (hn : ¬ disord rs) (h2 : ∀ j, j < ss.length → dg ss j < least) : k = 0 ∧ e0 = 6 := by
  rcases h with ⟨h, _⟩ | ⟨_, ⟨m, h3, h4, h5, h6, h7⟩ | ⟨h3, h4, _⟩⟩
  · exact absurd h hn
  · have := h2 m h3; omega
  · exact ⟨h3, h4⟩
theorem reach_dis {rs : List Rt} {ss : List Int} {least k e0 : Int} (h : ReachP rs ss least k e0) (hn : disord rs) : k = 0 ∧ e0 = 23 := by
  rcases h with ⟨_, h1, h2⟩ | ⟨h, _⟩
  · exact ⟨h1, h2⟩
  · exact absurd hn h

set_option maxHeartbeats 3200000 in
theorem reaches_ok (w : World) (la lb : Bool) (LA LD LB LE : Option Addr) (ca da cb db : Nat) (xa ya xb yb : List Int) (lo hi md : Int) (hxa : RN w LA ca xa) (hya : RN w LD da ya) (hxb : RN w LB cb xb) (hyb : RN w LE db yb) (S : Option Addr) (cS : Nat) (rs : List Rt) (hrs : Rs w S cS rs) (least : Int) :
    Calls Try.prog 9 #[.agg #[.bool la, .slice LA xa.length ca, .slice LD ya.length da, .bool lb, .slice LB xb.length cb, .slice LE yb.length db, .int .i64 lo, .int .i64 hi, .int .i64 md], .slice S rs.length cS, .int .i64 least] w (RetT w) := by
  have HXA := Lib.hid hxa
  have HYA := Lib.hid hya
  have HXB := Lib.hid hxb
  have HYB := Lib.hid hyb
  clear hxa hya hxb hyb
  have hmx : rs.length ≤ 9223372036854775807 := Nat.le_trans hrs.1 hrs.2.1
  have HRS := Lib.hid hrs
  clear hrs
  go_enter Try.func9, Try.ntmps9
  obtain ⟨bl, hbl⟩ : ∃ bl, (big xa ya || big xb yb) = bl := ⟨_, rfl⟩
  obtain ⟨bm, hbm⟩ : ∃ bm, anyBig rs = bm := ⟨_, rfl⟩
  have HBL := Lib.hid hbl
  have HBM := Lib.hid hbm
  clear hbl hbm
  go_upto_region 1 with fail
  obtain ⟨W, hW⟩ : ∃ W, W = (w.alloc (.cells #[.bool la, .slice LA xa.length ca, .slice LD ya.length da, .bool lb, .slice LB xb.length cb, .slice LE yb.length db, .int .i64 lo, .int .i64 hi, .int .i64 md] 35)) := ⟨_, rfl⟩
  rw [← hW]
  have H_W : Mo w W [(w.heap.size, 35, #[.bool la, .slice LA xa.length ca, .slice LD ya.length da, .bool lb, .slice LB xb.length cb, .slice LE yb.length db, .int .i64 lo, .int .i64 hi, .int .i64 md])] [] := by
    rw [hW]
    have h := ((Mo.start w).alloc (t := 35) (cs := #[.bool la, .slice LA xa.length ca, .slice LD ya.length da, .bool lb, .slice LB xb.length cb, .slice LE yb.length db, .int .i64 lo, .int .i64 hi, .int .i64 md]) (nd_lin _ _ _ _ _ _ _ _ _ _ _ _ _ _ _ _ _))
    simp only [size_alloc, List.nil_append, List.cons_append] at h
    exact h
  clear hW
  have H_W := Lib.hid H_W
  have k0Wc0 := ((H_W.out.var 0 rfl)).cell 0 rfl
  have k0Wc1 := ((H_W.out.var 0 rfl)).cell 1 rfl
  have k0Wc2 := ((H_W.out.var 0 rfl)).cell 2 rfl
  have k0Wc3 := ((H_W.out.var 0 rfl)).cell 3 rfl
  have k0Wc4 := ((H_W.out.var 0 rfl)).cell 4 rfl
  have k0Wc5 := ((H_W.out.var 0 rfl)).cell 5 rfl
  have k0Wc6 := ((H_W.out.var 0 rfl)).cell 6 rfl
  have k0Wc7 := ((H_W.out.var 0 rfl)).cell 7 rfl
  have k0Wc8 := ((H_W.out.var 0 rfl)).cell 8 rfl
  go_wp2_with fail
  refine (wide_ok W la lb LA LD LB LE ca da cb db xa ya xb yb lo hi md).mono ?_
  rw [HBL.out]
  rintro e_ w1 ⟨rfl, hB⟩
  have H_w1 := Lib.hid (Mo.call H_W.out hB)
  have k0w1c0 := ((H_w1.out.var 0 rfl)).cell 0 rfl
  have k0w1c1 := ((H_w1.out.var 0 rfl)).cell 1 rfl
  have k0w1c2 := ((H_w1.out.var 0 rfl)).cell 2 rfl
  have k0w1c3 := ((H_w1.out.var 0 rfl)).cell 3 rfl
  have k0w1c4 := ((H_w1.out.var 0 rfl)).cell 4 rfl
  have k0w1c5 := ((H_w1.out.var 0 rfl)).cell 5 rfl
  have k0w1c6 := ((H_w1.out.var 0 rfl)).cell 6 rfl
  have k0w1c7 := ((H_w1.out.var 0 rfl)).cell 7 rfl
  have k0w1c8 := ((H_w1.out.var 0 rfl)).cell 8 rfl
  clear hB
  cases bl
  rotate_left
  · go_wp2_with fail
    go_ret
    exact ⟨rfl, H_w1.out.below⟩
  go_wp2_with fail
  refine (much_ok w1 S cS rs (HRS.out.below H_w1.out.below)).mono ?_
  rw [HBM.out]
  rintro e_ w2 ⟨rfl, hB⟩
  have H_w2 := Lib.hid (Mo.call H_w1.out hB)
  have k0w2c0 := ((H_w2.out.var 0 rfl)).cell 0 rfl
  have k0w2c1 := ((H_w2.out.var 0 rfl)).cell 1 rfl
  have k0w2c2 := ((H_w2.out.var 0 rfl)).cell 2 rfl
  have k0w2c3 := ((H_w2.out.var 0 rfl)).cell 3 rfl
  have k0w2c4 := ((H_w2.out.var 0 rfl)).cell 4 rfl
  have k0w2c5 := ((H_w2.out.var 0 rfl)).cell 5 rfl
  have k0w2c6 := ((H_w2.out.var 0 rfl)).cell 6 rfl
  have k0w2c7 := ((H_w2.out.var 0 rfl)).cell 7 rfl
  have k0w2c8 := ((H_w2.out.var 0 rfl)).cell 8 rfl
  clear hB
  cases bm
  rotate_left
  · go_wp2_with fail
    go_ret
    exact ⟨rfl, H_w2.out.below⟩
  by_cases h70 : 70 < rs.length
  · have d1 : decide ((70 : Int) < (rs.length : Int)) = true := decide_eq_true (by omega)
    have d1' : decide (70 < rs.length) = true := decide_eq_true h70
    go_wp2_with fail
    go_ret
    exact ⟨rfl, H_w2.out.below⟩
  have d1 : decide ((70 : Int) < (rs.length : Int)) = false := decide_eq_false (by omega)
  have d1' : decide (70 < rs.length) = false := decide_eq_false h70
  have hrl : rs.length ≤ 70 := by omega
  have HSM : Hid (∀ (j : Nat) (r : Rt), rs[j]? = some r → r.xs.length ≤ 20 ∧ r.ys.length ≤ 20) := fun j r h => anyBig_small HBM.out hrl h
  have sall : (xa.length ≤ 20 ∧ ya.length ≤ 20) ∧ (xb.length ≤ 20 ∧ yb.length ≤ 20) := by
    have h1 := HBL.out
    unfold big at h1
    simp only [Bool.or_eq_false_iff, decide_eq_false_iff_not] at h1
    omega
  obtain ⟨⟨sxa, sya⟩, ⟨sxb, syb⟩⟩ := sall
  clear HBL HBM h70
  obtain ⟨E, hE⟩ : ∃ E, chkE (linE (qv la xa ya) lo hi md) rs.length = E := ⟨_, rfl⟩
  have HE := Lib.hid hE
  clear hE
  go_wp2_with fail
  refine (table_ok w2 la lb LA LD LB LE ca da cb db xa ya xb yb lo hi md (HXA.out.below H_w2.out.below) (HYA.out.below H_w2.out.below) (HXB.out.below H_w2.out.below) (HYB.out.below H_w2.out.below) sxa sya sxb syb S cS rs (HRS.out.below H_w2.out.below) HSM.out).mono ?_
  rw [HE.out]
  rintro e_ w3 ⟨T, cT, ts, rfl, HT, hT, hB⟩
  have H_w3 := Lib.hid (Mo.call H_w2.out hB)
  have k0w3c0 := ((H_w3.out.var 0 rfl)).cell 0 rfl
  have k0w3c1 := ((H_w3.out.var 0 rfl)).cell 1 rfl
  have k0w3c2 := ((H_w3.out.var 0 rfl)).cell 2 rfl
  have k0w3c3 := ((H_w3.out.var 0 rfl)).cell 3 rfl
  have k0w3c4 := ((H_w3.out.var 0 rfl)).cell 4 rfl
  have k0w3c5 := ((H_w3.out.var 0 rfl)).cell 5 rfl
  have k0w3c6 := ((H_w3.out.var 0 rfl)).cell 6 rfl
  have k0w3c7 := ((H_w3.out.var 0 rfl)).cell 7 rfl
  have k0w3c8 := ((H_w3.out.var 0 rfl)).cell 8 rfl
  have HTT := Lib.hid hT
  clear hT
  clear hB
  go_wp2_with fail
  refine (reach_ok w3 la lb LA LD LB LE ca da cb db xa ya xb yb lo hi md (HXA.out.below H_w3.out.below) (HYA.out.below H_w3.out.below) (HXB.out.below H_w3.out.below) (HYB.out.below H_w3.out.below) sxa sya sxb syb S cS rs (HRS.out.below H_w3.out.below) HSM.out least).mono ?_
  rintro e_ w4 ⟨kk, e0, rfl, HR, hB⟩
  have H_w4 := Lib.hid (Mo.call H_w3.out hB)
  have k0w4c0 := ((H_w4.out.var 0 rfl)).cell 0 rfl
  have k0w4c1 := ((H_w4.out.var 0 rfl)).cell 1 rfl
  have k0w4c2 := ((H_w4.out.var 0 rfl)).cell 2 rfl
  have k0w4c3 := ((H_w4.out.var 0 rfl)).cell 3 rfl
  have k0w4c4 := ((H_w4.out.var 0 rfl)).cell 4 rfl
  have k0w4c5 := ((H_w4.out.var 0 rfl)).cell 5 rfl
  have k0w4c6 := ((H_w4.out.var 0 rfl)).cell 6 rfl
  have k0w4c7 := ((H_w4.out.var 0 rfl)).cell 7 rfl
  have k0w4c8 := ((H_w4.out.var 0 rfl)).cell 8 rfl
  have HT4 := Lib.hid (HTT.out.below hB)
  clear hB
  by_cases h0 : E = 0
  rotate_left
  · obtain rfl : ts = [] := by rw [HT.out]; unfold tabV; rw [HE.out, if_neg h0]
    obtain ⟨rfl, rfl⟩ : kk = 0 ∧ e0 = E := by
      have h := HR.out
      unfold ReachQ at h
      rw [HE.out] at h
      rcases h with ⟨_, h1, h2⟩ | ⟨h1, _⟩
      · exact ⟨h1, h2⟩
      · exact absurd h1 h0
    have e1 : (e0 == 0) = false := beq_eq_false_iff_ne.2 h0
    have e2 : (e0 != 0) = true := by simpa using h0
    have e3 : (e0 == e0) = true := beq_self_eq_true e0
    clear h0
    go_wp2_with fail
    go_ret
    exact ⟨rfl, H_w4.out.below⟩
  subst h0
  have HP : Hid (ReachP rs ts least kk e0) := by
    have h := HR.out
    unfold ReachQ at h
    rw [HE.out] at h
    rcases h with ⟨h, _⟩ | ⟨_, h⟩
    · exact absurd rfl h
    · rw [HT.out]; unfold tabV; rw [HE.out, if_pos rfl]; exact h
  have HTL : Hid (ts.length = rs.length) := by show _ = _; rw [HT.out]; unfold tabV; rw [HE.out, if_pos rfl, scores_len]
  have e1 : ((ts.length : Int) != (rs.length : Int)) = false := by rw [HTL.out]; exact bne_self_eq_false _
  have e1' : (ts.length != rs.length) = false := by rw [HTL.out]; exact bne_self_eq_false _
  have e1'' : ((ts.length : Int) == (rs.length : Int)) = true := by rw [HTL.out]; exact beq_self_eq_true _
  have hts : ts.length ≤ 70 := by rw [HTL.out]; exact hrl
  clear HR HT HTT
  go_wp2_with fail
  go_loopw [11] (fun iv wr => ∃ (k : Nat), iv = .int .i64 (k : Int) ∧ 1 ≤ k ∧ (k ≤ rs.length ∨ k = 1) ∧ Hid (∀ i r s, i + 1 < k → rs[i]? = some r → rs[i + 1]? = some s → 0 ≤ cmpQ s.q r.q) ∧ Hid (Below w4.heap.size w4 wr)) (fun iv _ => rs.length - (intOf iv).toNat)
  case atStart => exact ⟨1, rfl, Nat.le_refl _, .inr rfl, fun i r s h => by omega, Below.refl _ _⟩
  case round =>
    obtain ⟨k, rfl, hk1, hk, HN, HB⟩ := hrel
    by_cases hlt : k < rs.length
    · have d1 : decide ((k : Int) < (rs.length : Int)) = true := decide_eq_true (by omega)
      obtain ⟨j, hj⟩ : ∃ j, k = j + 1 := ⟨k - 1, by omega⟩
      have e1 : ((k : Int) - 1) = (j : Int) := by omega
      have e2 : IntKind.i64.wrap (j : Int) = (j : Int) := IntWalk.i64_in _ (by omega)
      have e3 : IntKind.i64.wrap ((k : Int) - 1) = (j : Int) := by rw [e1]; exact e2
      have b1 : (0 : Int) ≤ (k : Int) := by omega
      have b2 : (k : Int) < (rs.length : Int) := by omega
      have b3 : (0 : Int) ≤ (j : Int) := by omega
      have b4 : (j : Int) < (rs.length : Int) := by omega
      have HJ := Lib.hid hj
      have hjl : j < rs.length := by omega
      clear hj
      have H_wr := Lib.hid (Mo.call H_w4.out HB.out)
      obtain ⟨ad, b, A, c2, xs, B, d, ys, rfl, hr, h0, h1, h2, h3, h4⟩ := (HRS.out.below H_wr.out.below).at hlt
      obtain ⟨ad_, b_, A_, c2_, xs_, B_, d_, ys_, had, hr_, h0_, h1_, h2_, h3_, h4_⟩ := (HRS.out.below H_wr.out.below).at hjl
      injection had with had
      subst had
      have HR := Lib.hid hr
      have HR_ := Lib.hid hr_
      have H3 := Lib.hid h3
      have H4 := Lib.hid h4
      have H3_ := Lib.hid h3_
      have H4_ := Lib.hid h4_
      clear hr h3 h4 hr_ h3_ h4_
      have hsm := HSM.out _ _ HR.out
      have hsm_ := HSM.out _ _ HR_.out
      obtain ⟨s, hs⟩ : ∃ s, cmpQ (qv b_ xs_ ys_) (qv b xs ys) = s := ⟨_, rfl⟩
      have HS := Lib.hid hs
      have HS2 : Hid (cmpQ (Rt.q ⟨b_, A_, c2_, xs_, B_, d_, ys_⟩) (Rt.q ⟨b, A, c2, xs, B, d, ys⟩) = s) := hs
      clear hs
      go_wp2_with fail
      have H_wrd := Lib.hid H_wr.out.drew
      first
      | go_region_held3 (fun w' => w'.cell? (ad.add (j * 3)) = some (.bool b_) ∧ w'.cell? ⟨(ad.add (j * 3)).block, (ad.add (j * 3)).off + 1, none⟩ = some (.slice A_ xs_.length c2_) ∧ w'.cell? ⟨(ad.add (j * 3)).block, (ad.add (j * 3)).off + 2, none⟩ = some (.slice B_ ys_.length d_) ∧ w'.cell? (ad.add (k * 3)) = some (.bool b) ∧ w'.cell? ⟨(ad.add (k * 3)).block, (ad.add (k * 3)).off + 1, none⟩ = some (.slice A xs.length c2) ∧ w'.cell? ⟨(ad.add (k * 3)).block, (ad.add (k * 3)).off + 2, none⟩ = some (.slice B ys.length d)) (go_keep)
         (first
          | (go_at_call 21
             refine (qcmp_ok _ b_ b A_ B_ A B c2_ d_ c2 d xs_ ys_ xs ys (H3_.out.below (Below.refl _ _).drew) (H4_.out.below (Below.refl _ _).drew) (H3.out.below (Below.refl _ _).drew) (H4.out.below (Below.refl _ _).drew) (by have := hsm_.1; omega) (by have := hsm_.2; omega) (by have := hsm.1; omega) (by have := hsm.2; omega)).mono ?_
             rw [cmp_qv H4_.out.2 H4.out.2, HS.out]
             rintro e_ v1 ⟨rfl, hB⟩
             have H_v1 := Lib.hid (Mo.call H_wrd.out hB)
             have HB1 := Lib.hid (below_seq HB.out (below_seq (Below.refl _ _).drew hB))
             have zh0 := cell_below (below_seq (Below.refl _ _).drew hB) h0
             have zh1 := cell_below (below_seq (Below.refl _ _).drew hB) h1
             have zh2 := cell_below (below_seq (Below.refl _ _).drew hB) h2
             have zh0_ := cell_below (below_seq (Below.refl _ _).drew hB) h0_
             have zh1_ := cell_below (below_seq (Below.refl _ _).drew hB) h1_
             have zh2_ := cell_below (below_seq (Below.refl _ _).drew hB) h2_
             clear hB))
      | fail
      by_cases hs0 : 0 < s
      · have d5 : decide (0 < s) = true := decide_eq_true hs0
        have HD : Hid (disord rs) := ⟨j, _, _, HR_.out, by rw [← HJ.out]; exact HR.out, cmpQ_swap.1 (by rw [HS2.out]; exact hs0)⟩
        obtain ⟨rfl, rfl⟩ := reach_dis HP.out HD.out
        go_wp2_with fail
        go_ret
        exact ⟨rfl, (Mo.call H_w4.out HB1.out).below⟩
      · have d5 : decide (0 < s) = false := decide_eq_false hs0
        have hs1 : s ≤ 0 := by omega
        have HNN : Hid (∀ i r s, i + 1 < k + 1 → rs[i]? = some r → rs[i + 1]? = some s → 0 ≤ cmpQ s.q r.q) := fun i r s' hi h1 h2 => by
          have hj := HJ.out
          rcases Nat.lt_or_ge (i + 1) k with h | h
          · exact HN.out i r s' h h1 h2
          · obtain rfl : i = j := by omega
            rw [HR_.out] at h1
            rw [← hj, HR.out] at h2
            injection h1 with h1
            injection h2 with h2
            subst h1 h2
            refine Int.not_lt.1 fun h5 => hs0 ?_
            rw [← HS2.out]
            exact cmpQ_swap.2 h5
        go_wp2_with fail
        go_roundw
        case rel => exact ⟨k + 1, by go_num, by omega, .inl hlt, HNN, HB1⟩
        case measure => simp [intOf]; omega
    · have d1 : decide ((k : Int) < (rs.length : Int)) = false := decide_eq_false (by omega)
      have d1' : decide (k < rs.length) = false := decide_eq_false hlt
      have HND : Hid (¬ disord rs) := fun ⟨i, r, s, h1, h2, h3⟩ => by have h4 := HN.out i r s (by have := (List.getElem?_eq_some_iff.1 h2).1; omega) h1 h2; omega
      clear HN
      go_wp2_with fail
      go_loopw [12] (fun iv wr => ∃ (k : Nat), iv = .int .i64 (k : Int) ∧ k ≤ ts.length ∧ Hid (∀ j, j < k → dg ts j < least) ∧ Hid (Below w4.heap.size w4 wr)) (fun iv _ => ts.length - (intOf iv).toNat)
      case atStart => exact ⟨0, rfl, Nat.zero_le _, fun j h => by omega, HB⟩
      case round =>
        clear d1 d1' hlt HB hk
        obtain ⟨k, rfl, hk, HN, HB⟩ := hrel
        by_cases hlt : k < ts.length
        · have d1 : decide ((k : Int) < (ts.length : Int)) = true := decide_eq_true (by omega)
          obtain ⟨ad, rfl, hc⟩ := (HT4.out.below HB.out).2.2 k hlt
          by_cases hle : least ≤ dg ts k
          · have d3 : decide (least ≤ dg ts k) = true := decide_eq_true hle
            obtain ⟨rfl, rfl⟩ := reach_first HP.out HND.out hlt hle HN.out
            clear hle
            go_wp2_with fail
            go_ret
            exact ⟨rfl, (Mo.call H_w4.out HB.out).below⟩
          · have d3 : decide (least ≤ dg ts k) = false := decide_eq_false hle
            have HNN : Hid (∀ j, j < k + 1 → dg ts j < least) := fun j hj => by
              rcases Nat.lt_or_ge j k with h | h
              · exact HN.out j h
              · obtain rfl : j = k := by omega
                omega
            clear hle HN
            go_wp2_with fail
            go_roundw
            case rel => exact ⟨k + 1, by go_num, hlt, HNN, HB⟩
            case measure => simp [intOf]; omega
        · have d1 : decide ((k : Int) < (ts.length : Int)) = false := decide_eq_false (by omega)
          have d1' : decide (k < ts.length) = false := decide_eq_false hlt
          obtain ⟨rfl, rfl⟩ := reach_none HP.out HND.out (fun j hj => HN.out j (by omega))
          clear hlt
          go_wp2_with fail
          go_ret
          exact ⟨rfl, (Mo.call H_w4.out HB.out).below⟩
theorem reaches_row (w : World) (la lb : Bool) (LA LD LB LE : Option Addr) (ca da cb db : Nat) (xa ya xb yb : List Int) (lo hi md : Int) (hxa : RN w LA ca xa) (hya : RN w LD da ya) (hxb : RN w LB cb xb) (hyb : RN w LE db yb) (_ : -9223372036854775808 ≤ lo ∧ lo ≤ 9223372036854775807) (_ : -9223372036854775808 ≤ hi ∧ hi ≤ 9223372036854775807) (_ : -9223372036854775808 ≤ md ∧ md ≤ 9223372036854775807) (S : Option Addr) (cS : Nat) (rs : List Rt) (hrs : Rs w S cS rs) (least : Int) (_ : -9223372036854775808 ≤ least ∧ least ≤ 9223372036854775807) :
    Calls Try.prog 9 #[.agg #[.bool la, .slice LA xa.length ca, .slice LD ya.length da, .bool lb, .slice LB xb.length cb, .slice LE yb.length db, .int .i64 lo, .int .i64 hi, .int .i64 md], .slice S rs.length cS, .int .i64 least] w (RetT w) :=
  reaches_ok w la lb LA LD LB LE ca da cb db xa ya xb yb lo hi md hxa hya hxb hyb S cS rs hrs least

end Go.Proofs.Ytgdlnmhpnlmofaa.M
