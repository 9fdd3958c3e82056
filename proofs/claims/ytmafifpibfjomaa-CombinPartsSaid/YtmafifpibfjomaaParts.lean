/- The reference: Multinomial; the law CombinParts: its walk. -/
import Derived.Test.YtmafifpibfjomaaRefK
namespace Go.Proofs.Ytmafifpibfjomaa.M
open Go.RowKit
set_option linter.unusedVariables false
set_option linter.unusedSimpArgs false

theorem mtn_facts {ps : List Int} {r : Nat} (h : mtn 0 1 ps = some r) : r * facts ps = fact (sumI ps).toNat := by
  obtain ⟨_, e⟩ := mtn_some (Int.le_refl 0) h
  have e0 : fact (0 : Int).toNat = 1 := rfl
  rw [e0, Nat.one_mul, Nat.one_mul, Int.zero_add] at e
  exact e
theorem facts_drop {ps : List Int} {i : Nat} (hi : i < ps.length) : facts (ps.drop i) = fact (dg ps i).toNat * facts (ps.drop (i + 1)) := by
  rw [List.drop_eq_getElem_cons hi, dg_get hi]
  rfl
theorem sumI_drop {ps : List Int} {i : Nat} (hi : i < ps.length) : sumI (ps.drop i) = dg ps i + sumI (ps.drop (i + 1)) := by
  rw [List.drop_eq_getElem_cons hi, dg_get hi]
  rfl
theorem mtn_part {ps : List Int} {r : Nat} (h : mtn 0 1 ps = some r) {i : Nat} (hi : i < ps.length) : 0 ≤ dg ps i ∧ dg ps i ≤ 200 := by
  obtain ⟨hp, _⟩ := mtn_some (Int.le_refl 0) h
  have key : ∀ (l : List Int) (s : Int) (j : Nat), 0 ≤ s → Parts s l → j < l.length → 0 ≤ dg l j ∧ dg l j ≤ 200 := by
    intro l
    induction l with
    | nil => intro s j _ _ hj; simp at hj
    | cons a l ih =>
      intro s j hs hp hj
      obtain ⟨h1, h2, h3⟩ := hp
      cases j with
      | zero => rw [dg_cons0]; omega
      | succ j => rw [dg_cons]; exact ih (s + a) j (by omega) h3 (by simpa using hj)
  exact key ps 0 i (Int.le_refl 0) hp hi

set_option maxHeartbeats 1600000 in
theorem rmultinomial_ok (w : World) (A : Option Addr) (c : Nat) (ps : List Int) (hp : Rk w .i64 A c ps) : Calls Try.prog 17 #[.slice A ps.length c] w (RetNB ((multR ps).getD 0) (multR ps).isSome w) := by
  have HP := Lib.hid hp
  have hmx : ps.length ≤ 9223372036854775807 := Nat.le_trans hp.1 hp.2.1
  clear hp
  by_cases hlen : 201 < ps.length
  · have e0 : multR ps = none := if_pos hlen
    rw [e0]
    clear e0
    have hd : decide (201 < (ps.length : Int)) = true := decide_eq_true (by omega)
    go_enter Try.func17, Try.ntmps17
    go_wp2_with fail
    go_ret2
    exact ⟨none, 0, [], rfl, rfl, RN.nil _, Below.refl _ _⟩
  · have e0 : multR ps = mtn 0 1 ps := if_neg hlen
    rw [e0]
    clear e0
    have hd : decide (201 < (ps.length : Int)) = false := decide_eq_false (by omega)
    have hd' : decide (201 < ps.length) = false := decide_eq_false hlen
    go_enter Try.func17, Try.ntmps17
    go_wp2_with fail
    clear hd hd'
    go_loopw [4, 5] (fun sv iv wr => ∃ (i : Nat) (s : Int) (m : Nat), i ≤ ps.length ∧ iv = .int .i64 (i : Int) ∧ sv = .int .i64 s ∧ 0 ≤ s ∧ s ≤ 200 ∧ Hid (mtn s m (ps.drop i) = mtn 0 1 ps) ∧ Hid (s + sumI (ps.drop i) = sumI ps) ∧ w = wr) (fun _ iv _ => ps.length - (intOf iv).toNat)
    case atStart => exact ⟨0, 0, 1, Nat.zero_le _, rfl, rfl, Int.le_refl _, by omega, rfl, Int.zero_add _, rfl⟩
    case round =>
      obtain ⟨i, s, m, hi', rfl, rfl, hs0, hs1, HM, HS, rfl⟩ := hrel
      by_cases hlt : i < ps.length
      · obtain ⟨ad, rfl, hc⟩ := (HP.out).2.2 i hlt
        have HD := Lib.hid (mtn_drop hlt s m)
        by_cases h1 : dg ps i < 0
        · have h1d : decide (dg ps i < 0) = true := decide_eq_true h1
          have e1 : mtn 0 1 ps = none := by rw [← HM.out, HD.out, if_pos (.inl h1)]
          have HE := Lib.hid e1
          clear e1
          go_wp2_with fail
          go_ret2
          refine ⟨none, 0, [], ?_, ?_, RN.nil _, Below.refl _ _⟩
          · rw [HE.out]; rfl
          · rw [HE.out]; rfl
        · have h1d : decide (dg ps i < 0) = false := decide_eq_false h1
          by_cases h2 : 200 < dg ps i
          · have h2d : decide (200 < dg ps i) = true := decide_eq_true h2
            have e1 : mtn 0 1 ps = none := by rw [← HM.out, HD.out, if_pos (.inr (by omega))]
            have HE := Lib.hid e1
            clear e1
            go_wp2_with fail
            go_ret2
            refine ⟨none, 0, [], ?_, ?_, RN.nil _, Below.refl _ _⟩
            · rw [HE.out]; rfl
            · rw [HE.out]; rfl
          · have h2d : decide (200 < dg ps i) = false := decide_eq_false h2
            by_cases h3 : 200 < s + dg ps i
            · have h3d : decide (200 < s + dg ps i) = true := decide_eq_true h3
              have e1 : mtn 0 1 ps = none := by rw [← HM.out, HD.out, if_pos (.inr (by omega))]
              have HE := Lib.hid e1
              clear e1
              go_wp2_with fail
              go_ret2
              refine ⟨none, 0, [], ?_, ?_, RN.nil _, Below.refl _ _⟩
              · rw [HE.out]; rfl
              · rw [HE.out]; rfl
            · have h3d : decide (200 < s + dg ps i) = false := decide_eq_false h3
              have e1 : mtn (s + dg ps i) (m * ch (s + dg ps i).toNat (dg ps i).toNat) (ps.drop (i + 1)) = mtn 0 1 ps := by
                rw [← HM.out, HD.out, if_neg (by omega)]
              have HE := Lib.hid e1
              have HS2 : Hid (s + dg ps i + sumI (ps.drop (i + 1)) = sumI ps) := by
                have := HS.out
                rw [sumI_drop hlt] at this
                show _ = _
                omega
              clear e1
              go_wp2_with fail
              go_roundw
              case rel => exact ⟨i + 1, s + dg ps i, _, hlt, by go_num, rfl, by omega, by omega, HE, HS2, by first | rfl | trivial⟩
              case measure => simp [intOf]; omega
      · obtain rfl : i = ps.length := by omega
        have e1 : mtn 0 1 ps = some m := by rw [← HM.out, List.drop_length]; rfl
        have e2 : s = sumI ps := by have := HS.out; rw [List.drop_length] at this; simpa [sumI] using this
        have e3 : pf (1 : Int).toNat (s + 1 - 1).toNat = m * facts ps := by
          rw [mtn_facts e1, Int.add_sub_cancel, e2]
          exact pf_one _
        have hl0 : (limbs (m * facts ps)).length ≤ 201 := by
          rw [mtn_facts e1, ← e2]
          exact Nat.le_trans (fact_len (by omega)) (by omega)
        have HE1 := Lib.hid e1
        have HE3 := Lib.hid e3
        clear e1 e2 e3 HM HS
        go_wp2_with fail
        refine (rproduct_ok _ 1 s (by omega) (by omega) (by omega)).mono ?_
        rintro e w1 ⟨A1, c1, x, rfl, HX, hx, hB⟩
        have HB1 := Lib.hid hB
        have RX := Lib.hid hx
        have EX : Hid (x = limbs (m * facts (ps.drop 0))) := by show x = _; rw [HX.out, HE3.out, List.drop_zero]
        have hxl : x.length ≤ 201 := by rw [EX.out, List.drop_zero]; exact hl0
        clear hB hx HX HE3 hl0
        go_wp2_with fail
        go_loopw [6, 7] (fun fv iv wr => ∃ (i : Nat) (B : Option Addr) (d : Nat) (f : List Int), i ≤ ps.length ∧ iv = .int .i64 (i : Int) ∧ fv = .slice B f.length d ∧ Hid (f = limbs (m * facts (ps.drop i))) ∧ f.length ≤ 201 ∧ Hid (RN wr B d f) ∧ Hid (Below w.heap.size w wr)) (fun _ iv _ => ps.length - (intOf iv).toNat)
        case atStart => exact ⟨0, A1, c1, x, Nat.zero_le _, rfl, rfl, EX, hxl, RX, HB1⟩
        case round =>
          clear EX hxl RX HB1
          obtain ⟨i, B, d, f, hi2, rfl, rfl, HF, hfl, RF, HB⟩ := hrel
          by_cases hlt : i < ps.length
          · obtain ⟨ad, rfl, hc⟩ := (HP.out.below HB.out).2.2 i hlt
            obtain ⟨hq0, hq1⟩ := mtn_part HE1.out hlt
            have HFD := Lib.hid (facts_drop hlt)
            go_wp2_with fail
            refine (rproduct_ok _ 1 (dg ps i) (by omega) (by omega) (by omega)).mono ?_
            rintro e w2 ⟨A2, c2, y, rfl, HY, hy, hB⟩
            have HB2 := Lib.hid (below_seq HB.out hB)
            have RF2 := Lib.hid (RF.out.below hB)
            have RY2 := Lib.hid hy
            have ey : y = limbs (fact (dg ps i).toNat) := by rw [HY.out, Int.add_sub_cancel]; congr 1; exact pf_one _
            have hvy : V y = (fact (dg ps i).toNat : Int) := by rw [ey, V_limbs]
            have hly : y.length ≤ 201 := by rw [ey]; exact Nat.le_trans (fact_len (by omega)) (by omega)
            have hfp := fact_pos (dg ps i).toNat
            have HVY := Lib.hid hvy
            clear hB hy ey hvy HB RF
            go_wp2_with fail
            refine (rdivMod_ok _ B A2 _ _ f y RF2.out RY2.out (by rw [HVY.out]; omega) (by omega)).mono ?_
            rintro e w3 ⟨A3, c3, q, B3, d3, r, rfl, HQ, HR, hq, hr, hB⟩
            have HB3 := Lib.hid (below_seq HB2.out hB)
            have RQ := Lib.hid hq
            have EQ : Hid (q = limbs (m * facts (ps.drop (i + 1)))) := by
              show q = _
              rw [HQ.out, HF.out, V_limbs, HVY.out, HFD.out]
              simp only [Int.toNat_natCast]
              rw [Nat.mul_left_comm, Nat.mul_div_cancel_left _ hfp]
            have hql : q.length ≤ 201 := by
              rw [EQ.out]
              refine Nat.le_trans (limbs_mono ?_) (by rw [← HF.out]; exact hfl)
              rw [HFD.out]
              exact Nat.mul_le_mul_left _ (Nat.le_mul_of_pos_left _ hfp)
            clear hB hq hr HQ HR
            go_wp2_with fail
            go_roundw
            case rel => exact ⟨i + 1, A3, c3, q, hlt, by go_num, rfl, EQ, hql, RQ, HB3⟩
            case measure => simp [intOf]; omega
          · obtain rfl : i = ps.length := by omega
            go_wp2_with fail
            go_ret2
            refine ⟨B, d, f, ?_, ?_, RF.out, HB.out⟩
            · rw [HE1.out]; rfl
            · show f = _
              rw [HE1.out, HF.out, List.drop_length]
              simp [facts]

set_option maxHeartbeats 800000 in
theorem parts_law (w : World) (A : Option Addr) (c : Nat) (ps : List Int) (hp : Rk w .i64 A c ps) (hwf : ∀ x ∈ ps, (Lit.int .i64 x).wf = true) (hsz : ps.length * 8 ≤ 140737488351232) :
    Calls Try.prog 4 #[.slice A ps.length c] w (RetTrue w) := by
  have HP := Lib.hid hp
  clear hp hwf
  go_enter Try.func4, Try.ntmps4
  go_wp2_with fail
  refine (multinomial_ok _ A c ps HP.out).mono ?_
  rintro e w1 ⟨A1, c1, x, rfl, HX, hx, hB⟩
  have HB1 := Lib.hid hB
  have RX1 := Lib.hid hx
  have HP1 := Lib.hid (HP.out.below hB)
  clear hB hx
  go_wp2_with fail
  refine (rmultinomial_ok _ A c ps HP1.out).mono ?_
  rintro e w2 ⟨A2, c2, y, rfl, HY, hy, hB⟩
  have HB2 := Lib.hid (below_seq HB1.out hB)
  have RX2 := Lib.hid (RX1.out.below hB)
  have RY2 := Lib.hid hy
  have hbb : ((multR ps).isSome == (multR ps).isSome) = true := by simp
  clear hB hy
  go_wp2_with fail
  refine (limbs_yes _ A1 A2 _ _ x y RX2.out.1 RY2.out.1 (by rw [HX.out, HY.out])).mono ?_
  rintro e w3 ⟨n3, rfl, rfl⟩
  have HB3 := Lib.hid (below_drewN HB2.out n3)
  go_wp2_with fail
  go_ret
  exact ⟨rfl, HB3.out⟩

end Go.Proofs.Ytmafifpibfjomaa.M
