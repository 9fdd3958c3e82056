/- The first ability that reaches a score, by the program. -/
import Derived.Test.YtgdlnmhpnlmofaaTable
namespace Go.Proofs.Ytgdlnmhpnlmofaa.M
set_option maxRecDepth 10000
open Go.RowKit
set_option linter.unusedVariables false
set_option linter.unusedSimpArgs false
theorem cell_below {w w1 : World} {a : Addr} {v : Value} (hb : Below w.heap.size w w1) (h : w.cell? a = some v) : w1.cell? a = some v := (hb.cell (World.block_lt_of_cell? w _ h)).trans h
def ReachQ (a b : Rat) (lo hi md : Int) (rs : List Rt) (least k e0 : Int) : Prop := (chkE (linE a lo hi md) rs.length ≠ 0 ∧ k = 0 ∧ e0 = chkE (linE a lo hi md) rs.length) ∨ (chkE (linE a lo hi md) rs.length = 0 ∧ ReachP rs (scoresOf a b lo hi md rs) least k e0)
def RetReach (a b : Rat) (lo hi md : Int) (rs : List Rt) (least : Int) (w : World) (e : Ending) (w' : World) : Prop := ∃ k e0 : Int, e = .returned (.tuple #[.int .i64 k, .int .i64 e0]) ∧ Hid (ReachQ a b lo hi md rs least k e0) ∧ Below w.heap.size w w'

set_option maxHeartbeats 3200000 in
theorem reach_ok (w : World) (la lb : Bool) (LA LD LB LE : Option Addr) (ca da cb db : Nat) (xa ya xb yb : List Int) (lo hi md : Int) (hxa : RN w LA ca xa) (hya : RN w LD da ya) (hxb : RN w LB cb xb) (hyb : RN w LE db yb) (sxa : xa.length ≤ 20) (sya : ya.length ≤ 20) (sxb : xb.length ≤ 20) (syb : yb.length ≤ 20) (S : Option Addr) (cS : Nat) (rs : List Rt) (hrs : Rs w S cS rs) (hsm : ∀ (j : Nat) (r : Rt), rs[j]? = some r → r.xs.length ≤ 20 ∧ r.ys.length ≤ 20) (least : Int) :
    Calls Try.prog 25 #[.agg #[.bool la, .slice LA xa.length ca, .slice LD ya.length da, .bool lb, .slice LB xb.length cb, .slice LE yb.length db, .int .i64 lo, .int .i64 hi, .int .i64 md], .slice S rs.length cS, .int .i64 least] w (RetReach (qv la xa ya) (qv lb xb yb) lo hi md rs least w) := by
  have HXA := Lib.hid hxa
  have HYA := Lib.hid hya
  have HXB := Lib.hid hxb
  have HYB := Lib.hid hyb
  clear hxa hya hxb hyb
  have hmx : rs.length ≤ 9223372036854775807 := Nat.le_trans hrs.1 hrs.2.1
  have HRS := Lib.hid hrs
  clear hrs
  have HSM := Lib.hid hsm
  clear hsm
  go_enter Try.func25, Try.ntmps25
  obtain ⟨E, hE⟩ : ∃ E, chkE (linE (qv la xa ya) lo hi md) rs.length = E := ⟨_, rfl⟩
  have HE := Lib.hid hE
  try rw [hE]
  clear hE
  go_upto_region 1 with fail
  obtain ⟨W, hW⟩ : ∃ W, W = (w.alloc (.cells #[.bool la, .slice LA xa.length ca, .slice LD ya.length da, .bool lb, .slice LB xb.length cb, .slice LE yb.length db, .int .i64 lo, .int .i64 hi, .int .i64 md] 35)) := ⟨_, rfl⟩
  rw [← hW]
  have H_W : Mo w W [(w.heap.size, 35, #[.bool la, .slice LA xa.length ca, .slice LD ya.length da, .bool lb, .slice LB xb.length cb, .slice LE yb.length db, .int .i64 lo, .int .i64 hi, .int .i64 md])] [] := by
    rw [hW]
    have h := ((Mo.start w).alloc (t := 35) (cs := #[.bool la, .slice LA xa.length ca, .slice LD ya.length da, .bool lb, .slice LB xb.length cb, .slice LE yb.length db, .int .i64 lo, .int .i64 hi, .int .i64 md]) (nd_lin _ _ _ _ _ _ _ _ _ _ _ _ _ _ _ _ _))
    simp only [size_alloc, List.nil_append, List.cons_append] at h
    exact h
  clear hW
  have H_W := Lib.hid H_W
  have k0Wc0 := ((H_W.out.var 0 rfl)).cell 0 rfl
  have k0Wc1 := ((H_W.out.var 0 rfl)).cell 1 rfl
  have k0Wc2 := ((H_W.out.var 0 rfl)).cell 2 rfl
  have k0Wc3 := ((H_W.out.var 0 rfl)).cell 3 rfl
  have k0Wc4 := ((H_W.out.var 0 rfl)).cell 4 rfl
  have k0Wc5 := ((H_W.out.var 0 rfl)).cell 5 rfl
  have k0Wc6 := ((H_W.out.var 0 rfl)).cell 6 rfl
  have k0Wc7 := ((H_W.out.var 0 rfl)).cell 7 rfl
  have k0Wc8 := ((H_W.out.var 0 rfl)).cell 8 rfl
  go_wp2_with fail
  refine (check_ok W la lb LA LD LB LE ca da cb db xa ya xb yb lo hi md (HXA.out.below H_W.out.below) (HYA.out.below H_W.out.below) (HXB.out.below H_W.out.below) (HYB.out.below H_W.out.below) sxa sya sxb syb S cS rs).mono ?_
  rw [HE.out]
  rintro e_ w1 ⟨rfl, hB⟩
  have H_w1 := Lib.hid (Mo.call H_W.out hB)
  have k0w1c0 := ((H_w1.out.var 0 rfl)).cell 0 rfl
  have k0w1c1 := ((H_w1.out.var 0 rfl)).cell 1 rfl
  have k0w1c2 := ((H_w1.out.var 0 rfl)).cell 2 rfl
  have k0w1c3 := ((H_w1.out.var 0 rfl)).cell 3 rfl
  have k0w1c4 := ((H_w1.out.var 0 rfl)).cell 4 rfl
  have k0w1c5 := ((H_w1.out.var 0 rfl)).cell 5 rfl
  have k0w1c6 := ((H_w1.out.var 0 rfl)).cell 6 rfl
  have k0w1c7 := ((H_w1.out.var 0 rfl)).cell 7 rfl
  have k0w1c8 := ((H_w1.out.var 0 rfl)).cell 8 rfl
  clear hB
  by_cases h0 : E = 0
  rotate_left
  · have e1 : (E == 0) = false := beq_eq_false_iff_ne.2 h0
    have e2 : (E != 0) = true := by simpa using h0
    have HN0 : Hid (E ≠ 0) := h0
    clear h0
    go_wp2_with fail
    go_ret2
    exact ⟨0, E, rfl, by show _; unfold ReachQ; rw [HE.out]; exact .inl ⟨HN0.out, rfl, rfl⟩, H_w1.out.below⟩
  subst h0
  have HK : Hid (linE (qv la xa ya) lo hi md = 0 ∧ rs.length ≤ 61) := by
    have h := HE.out
    unfold chkE at h
    show _ ∧ _
    split at h
    · split at h
      · cases h
      · exact ⟨by assumption, by omega⟩
    · contradiction
  obtain ⟨k1, k2, k3, k4, k5⟩ := linE_ok HK.out.1
  have hl61 := HK.out.2
  clear k1 k4
  go_wp2_with fail
  go_loopw [9, 20] (fun v9 iv wr => ∃ (k : Nat), iv = .int .i64 (k : Int) ∧ k ≤ rs.length ∧ Hid (∀ i r s, i + 1 < k → rs[i]? = some r → rs[i + 1]? = some s → 0 ≤ cmpQ s.q r.q) ∧ Hid (Below w1.heap.size w1 wr)) (fun _ iv _ => rs.length - (intOf iv).toNat)
  case atStart => exact ⟨0, rfl, Nat.zero_le _, fun i r s h => by omega, Below.refl _ _⟩
  case round =>
    obtain ⟨k, rfl, hk, HN, HB⟩ := hrel
    by_cases hlt : k < rs.length
    · have d1 : decide ((k : Int) < (rs.length : Int)) = true := decide_eq_true (by omega)
      by_cases hk0 : k = 0
      · subst hk0
        go_wp2_with fail
        go_quiet (fail)
        go_wp2_with fail
        go_roundw
        case rel => exact ⟨1, by go_num, hlt, fun i r s h => by omega, by first | exact HB.out | exact HB.out.drew | exact below_drewN HB.out _⟩
        case measure => simp [intOf]; omega
      · obtain ⟨j, hj⟩ : ∃ j, k = j + 1 := ⟨k - 1, by omega⟩
        have d2 : decide ((0 : Int) < (k : Int)) = true := decide_eq_true (by omega)
        have d2' : decide (0 < k) = true := decide_eq_true (by omega)
        have e1 : ((k : Int) - 1) = (j : Int) := by omega
        have e2 : IntKind.i64.wrap (j : Int) = (j : Int) := IntWalk.i64_in _ (by omega)
        have e3 : IntKind.i64.wrap ((k : Int) - 1) = (j : Int) := by rw [e1]; exact e2
        have b1 : (0 : Int) ≤ (k : Int) := by omega
        have b2 : (k : Int) < (rs.length : Int) := by omega
        have b3 : (0 : Int) ≤ (j : Int) := by omega
        have b4 : (j : Int) < (rs.length : Int) := by omega
        have HJ := Lib.hid hj
        have hjl : j < rs.length := by omega
        clear hk0 hj
        have H_wr := Lib.hid (Mo.call H_w1.out HB.out)
        obtain ⟨ad, b, A, c2, xs, B, d, ys, rfl, hr, h0, h1, h2, h3, h4⟩ := (HRS.out.below H_wr.out.below).at hlt
        obtain ⟨ad_, b_, A_, c2_, xs_, B_, d_, ys_, had, hr_, h0_, h1_, h2_, h3_, h4_⟩ := (HRS.out.below H_wr.out.below).at hjl
        injection had with had
        subst had
        have HR := Lib.hid hr
        have HR_ := Lib.hid hr_
        have H3 := Lib.hid h3
        have H4 := Lib.hid h4
        have H3_ := Lib.hid h3_
        have H4_ := Lib.hid h4_
        clear hr h3 h4 hr_ h3_ h4_
        have hsm := HSM.out _ _ HR.out
        have hsm_ := HSM.out _ _ HR_.out
        obtain ⟨s, hs⟩ : ∃ s, cmpQ (qv b xs ys) (qv b_ xs_ ys_) = s := ⟨_, rfl⟩
        have HS := Lib.hid hs
        have HS2 : Hid (cmpQ (Rt.q ⟨b, A, c2, xs, B, d, ys⟩) (Rt.q ⟨b_, A_, c2_, xs_, B_, d_, ys_⟩) = s) := hs
        clear hs
        go_wp2_with fail
        have H_wrd := Lib.hid H_wr.out.drew
        first
        | go_region_held3 (fun w' => w'.cell? (ad.add (k * 3)) = some (.bool b) ∧ w'.cell? ⟨(ad.add (k * 3)).block, (ad.add (k * 3)).off + 1, none⟩ = some (.slice A xs.length c2) ∧ w'.cell? ⟨(ad.add (k * 3)).block, (ad.add (k * 3)).off + 2, none⟩ = some (.slice B ys.length d) ∧ w'.cell? (ad.add (j * 3)) = some (.bool b_) ∧ w'.cell? ⟨(ad.add (j * 3)).block, (ad.add (j * 3)).off + 1, none⟩ = some (.slice A_ xs_.length c2_) ∧ w'.cell? ⟨(ad.add (j * 3)).block, (ad.add (j * 3)).off + 2, none⟩ = some (.slice B_ ys_.length d_)) (go_keep)
           (first
            | (go_at_call 21
               refine (qcmp_ok _ b b_ A B A_ B_ c2 d c2_ d_ xs ys xs_ ys_ (H3.out.below (Below.refl _ _).drew) (H4.out.below (Below.refl _ _).drew) (H3_.out.below (Below.refl _ _).drew) (H4_.out.below (Below.refl _ _).drew) (by have := hsm.1; omega) (by have := hsm.2; omega) (by have := hsm_.1; omega) (by have := hsm_.2; omega)).mono ?_
               rw [cmp_qv H4.out.2 H4_.out.2, HS.out]
               rintro e_ v1 ⟨rfl, hB⟩
               have H_v1 := Lib.hid (Mo.call H_wrd.out hB)
               have HB1 := Lib.hid (below_seq HB.out (below_seq (Below.refl _ _).drew hB))
               have zh0 := cell_below (below_seq (Below.refl _ _).drew hB) h0
               have zh1 := cell_below (below_seq (Below.refl _ _).drew hB) h1
               have zh2 := cell_below (below_seq (Below.refl _ _).drew hB) h2
               have zh0_ := cell_below (below_seq (Below.refl _ _).drew hB) h0_
               have zh1_ := cell_below (below_seq (Below.refl _ _).drew hB) h1_
               have zh2_ := cell_below (below_seq (Below.refl _ _).drew hB) h2_
               skip
               clear hB))
        | fail
        by_cases hs0 : s < 0
        · have d5 : decide (s < 0) = true := decide_eq_true hs0
          have HD : Hid (disord rs) := ⟨j, _, _, HR_.out, by rw [← HJ.out]; exact HR.out, by rw [HS2.out]; exact hs0⟩
          go_wp2_with fail
          go_ret2
          exact ⟨0, 23, rfl, by show _; unfold ReachQ; rw [HE.out]; exact .inr ⟨rfl, .inl ⟨HD.out, rfl, rfl⟩⟩, (Mo.call H_w1.out HB1.out).below⟩
        · have d5 : decide (s < 0) = false := decide_eq_false hs0
          have HNN : Hid (∀ i r s, i + 1 < k + 1 → rs[i]? = some r → rs[i + 1]? = some s → 0 ≤ cmpQ s.q r.q) := fun i r s' hi h1 h2 => by
            have hj := HJ.out
            rcases Nat.lt_or_ge (i + 1) k with h | h
            · exact HN.out i r s' h h1 h2
            · obtain rfl : i = j := by omega
              rw [HR_.out] at h1
              rw [← hj, HR.out] at h2
              injection h1 with h1
              injection h2 with h2
              subst h1 h2
              rw [HS2.out]
              omega
          have hs1 : 0 ≤ s := by omega
          go_wp2_with fail
          go_roundw
          case rel => exact ⟨k + 1, by go_num, hlt, HNN, HB1⟩
          case measure => simp [intOf]; omega
    · have d1 : decide ((k : Int) < (rs.length : Int)) = false := decide_eq_false (by omega)
      have d1' : decide (k < rs.length) = false := decide_eq_false hlt
      have HND : Hid (¬ disord rs) := fun ⟨i, r, s, h1, h2, h3⟩ => by have h4 := HN.out i r s (by have := (List.getElem?_eq_some_iff.1 h2).1; omega) h1 h2; omega
      clear HN
      go_wp2_with fail
      go_loopw [10, 11, 41] (fun v10 v11 iv wr => ∃ (k : Nat), iv = .int .i64 (k : Int) ∧ k ≤ rs.length ∧ Hid (∀ j, j < k → dg (scoresOf (qv la xa ya) (qv lb xb yb) lo hi md rs) j < least) ∧ Hid (Below w1.heap.size w1 wr)) (fun _ _ iv _ => rs.length - (intOf iv).toNat)
      case atStart => exact ⟨0, rfl, Nat.zero_le _, fun j h => by omega, HB⟩
      case round =>
        clear d1 d1' hlt HB hk
        obtain ⟨k, rfl, hk, HN, HB⟩ := hrel
        by_cases hlt : k < rs.length
        · have d1 : decide ((k : Int) < (rs.length : Int)) = true := decide_eq_true (by omega)
          have H_wr := Lib.hid (Mo.call H_w1.out HB.out)
          have k0wrc0 := ((H_wr.out.var 0 rfl)).cell 0 rfl
          have k0wrc1 := ((H_wr.out.var 0 rfl)).cell 1 rfl
          have k0wrc2 := ((H_wr.out.var 0 rfl)).cell 2 rfl
          have k0wrc3 := ((H_wr.out.var 0 rfl)).cell 3 rfl
          have k0wrc4 := ((H_wr.out.var 0 rfl)).cell 4 rfl
          have k0wrc5 := ((H_wr.out.var 0 rfl)).cell 5 rfl
          have k0wrc6 := ((H_wr.out.var 0 rfl)).cell 6 rfl
          have k0wrc7 := ((H_wr.out.var 0 rfl)).cell 7 rfl
          have k0wrc8 := ((H_wr.out.var 0 rfl)).cell 8 rfl
          obtain ⟨ad, b, A, c2, xs, B, d, ys, rfl, hr, h0, h1, h2, h3, h4⟩ := (HRS.out.below H_wr.out.below).at hlt
          have HR := Lib.hid hr
          have H3 := Lib.hid h3
          have H4 := Lib.hid h4
          clear hr h3 h4
          have hsm := HSM.out _ _ HR.out
          go_upto_region 13 with fail
          obtain ⟨T, hT⟩ : ∃ T, T = wr.alloc (.cells #[.bool b, .slice A xs.length c2, .slice B ys.length d] 33) := ⟨_, rfl⟩
          rw [← hT]
          have HBT : Hid (Below wr.heap.size wr T) := by rw [hT]; exact (Below.refl _ _).alloc (Nat.le_refl _) _
          have H_T : Hid (Mo w T _ _) := Lib.hid (by rw [hT]; exact H_wr.out.alloc (t := 33) (cs := #[.bool b, .slice A xs.length c2, .slice B ys.length d]) (nd_rat _ _ _ _ _ _ _))
          clear hT
          have k0Tc0 := ((H_T.out.var 0 rfl)).cell 0 rfl
          have k0Tc1 := ((H_T.out.var 0 rfl)).cell 1 rfl
          have k0Tc2 := ((H_T.out.var 0 rfl)).cell 2 rfl
          have k0Tc3 := ((H_T.out.var 0 rfl)).cell 3 rfl
          have k0Tc4 := ((H_T.out.var 0 rfl)).cell 4 rfl
          have k0Tc5 := ((H_T.out.var 0 rfl)).cell 5 rfl
          have k0Tc6 := ((H_T.out.var 0 rfl)).cell 6 rfl
          have k0Tc7 := ((H_T.out.var 0 rfl)).cell 7 rfl
          have k0Tc8 := ((H_T.out.var 0 rfl)).cell 8 rfl
          have k1Tc0 := ((H_T.out.var 1 rfl)).cell 0 rfl
          have k1Tc1 := ((H_T.out.var 1 rfl)).cell 1 rfl
          have k1Tc2 := ((H_T.out.var 1 rfl)).cell 2 rfl
          have hsk := scores_at (a := qv la xa ya) (b := qv lb xb yb) (lo := lo) (hi := hi) (md := md) HR.out
          obtain ⟨s, hs⟩ : ∃ s, scoreQ (qv la xa ya) (qv lb xb yb) lo hi md (qv b xs ys) = s := ⟨_, rfl⟩
          have HSK : Hid (dg (scoresOf (qv la xa ya) (qv lb xb yb) lo hi md rs) k = s) := hsk.trans hs
          have HS := Lib.hid hs
          clear hsk hs
          go_wp2_with fail
          refine (sscore_ok T la lb LA LD LB LE ca da cb db xa ya xb yb lo hi md (HXA.out.below H_T.out.below) (HYA.out.below H_T.out.below) (HXB.out.below H_T.out.below) (HYB.out.below H_T.out.below) sxa sya sxb syb b A B c2 d xs ys (H3.out.below HBT.out) (H4.out.below HBT.out) hsm.1 hsm.2 k2 k3 k5).mono ?_
          rw [HS.out]
          rintro e_ w4 ⟨rfl, hB⟩
          have H_w4 := Lib.hid (Mo.call H_T.out hB)
          have HB4 := Lib.hid (below_seq HB.out (below_seq HBT.out hB))
          clear hB
          clear HBT HB
          by_cases hle : least ≤ s
          · have d3 : decide (least ≤ s) = true := decide_eq_true hle
            have HRP : Hid (ReachQ (qv la xa ya) (qv lb xb yb) lo hi md rs least (k : Int) 0) := by
              show _
              unfold ReachQ
              rw [HE.out]
              exact .inr ⟨rfl, .inr ⟨HND.out, .inl ⟨k, by rw [scores_len]; exact hlt, rfl, rfl, by rw [HSK.out]; exact hle, HN.out⟩⟩⟩
            clear hle
            go_wp2_with fail
            go_ret2
            exact ⟨k, 0, rfl, HRP, (Mo.call H_w1.out HB4.out).below⟩
          · have d3 : decide (least ≤ s) = false := decide_eq_false hle
            have HNN : Hid (∀ j, j < k + 1 → dg (scoresOf (qv la xa ya) (qv lb xb yb) lo hi md rs) j < least) := fun j hj => by
              rcases Nat.lt_or_ge j k with h | h
              · exact HN.out j h
              · obtain rfl : j = k := by omega
                rw [HSK.out]
                omega
            clear hle HN
            go_wp2_with fail
            go_roundw
            case rel => exact ⟨k + 1, by go_num, hlt, HNN, HB4⟩
            case measure => simp [intOf]; omega
        · have d1 : decide ((k : Int) < (rs.length : Int)) = false := decide_eq_false (by omega)
          have d1' : decide (k < rs.length) = false := decide_eq_false hlt
          have HRP : Hid (ReachQ (qv la xa ya) (qv lb xb yb) lo hi md rs least 0 6) := by
            show _
            unfold ReachQ
            rw [HE.out]
            exact .inr ⟨rfl, .inr ⟨HND.out, .inr ⟨rfl, rfl, fun j hj => HN.out j (by rw [scores_len] at hj; omega)⟩⟩⟩
          clear hlt
          go_wp2_with fail
          go_ret2
          exact ⟨0, 6, rfl, HRP, (Mo.call H_w1.out HB.out).below⟩

end Go.Proofs.Ytgdlnmhpnlmofaa.M
