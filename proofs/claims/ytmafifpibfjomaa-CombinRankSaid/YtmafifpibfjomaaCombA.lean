/- Factorials and binomial coefficients of the program. -/
import Derived.Test.YtmafifpibfjomaaNatG
import Derived.Test.YtmafifpibfjomaaComb
import Derived.Deep.DeepCutAuto
namespace Go.Proofs.Ytmafifpibfjomaa.M
open Go.RowKit
set_option linter.unusedVariables false

/-- A bool, nothing else. -/
def RetB (b : Bool) (w : World) (e : Ending) (w' : World) : Prop := e = .returned (.bool b) ∧ w = w'
set_option maxHeartbeats 400000 in
theorem inRange_yes (w : World) (n : Int) (h0 : 0 ≤ n) (h1 : n ≤ 200) : Calls Try.prog 32 #[.int .i64 n] w (RetB true w) := by
  go_enter Try.func32, Try.ntmps32
  go_wp2
  go_ret
  exact ⟨rfl, rfl⟩
set_option maxHeartbeats 400000 in
theorem inRange_no (w : World) (n : Int) (h : n < 0 ∨ 200 < n) : Calls Try.prog 32 #[.int .i64 n] w (RetB false w) := by
  rcases h with h | h
  · have h1 : decide (0 ≤ n) = false := decide_eq_false (by omega)
    go_enter Try.func32, Try.ntmps32
    go_wp2
    go_ret
    exact ⟨rfl, rfl⟩
  · have h1 : decide (0 ≤ n) = true := decide_eq_true (by omega)
    have h2 : decide (n ≤ 200) = false := decide_eq_false (by omega)
    go_enter Try.func32, Try.ntmps32
    go_wp2
    go_ret
    exact ⟨rfl, rfl⟩

theorem ret_nil (w : World) : Hid (([] : List Int) = limbs 0) := rfl
set_option maxHeartbeats 400000 in
theorem factorial_no (w : World) (n : Int) (h : n < 0 ∨ 200 < n) : Calls Try.prog 11 #[.int .i64 n] w (RetNB 0 false w) := by
  go_enter Try.func11, Try.ntmps11
  go_wp2_with fail
  refine (inRange_no _ n h).mono ?_
  rintro e w1 ⟨rfl, rfl⟩
  go_wp2_with fail
  go_ret2
  exact ⟨none, 0, [], rfl, rfl, RN.nil _, Below.refl _ _⟩

set_option maxHeartbeats 800000 in
theorem factorial_ok (w : World) (n : Int) (h0 : 0 ≤ n) (h1 : n ≤ 200) : Calls Try.prog 11 #[.int .i64 n] w (RetNB (fact n.toNat) true w) := by
  obtain ⟨n, rfl⟩ := Int.eq_ofNat_of_zero_le h0
  go_enter Try.func11, Try.ntmps11
  go_wp2_with fail
  refine (inRange_yes _ n h0 h1).mono ?_
  rintro e w1 ⟨rfl, rfl⟩
  go_wp2_with fail
  refine (of_ok _ 1 (by omega) (by omega)).mono ?_
  rintro e w1 ⟨A, c, xs, rfl, HX, hx, hB⟩
  have HB := Lib.hid hB
  have RX := Lib.hid hx
  clear hB hx h0
  go_wp2_with fail
  go_loopw [4, 5] (fun fv iv wr => ∃ (i : Nat) (A : Option Addr) (c : Nat) (f : List Int), 1 ≤ i ∧ (i ≤ n ∨ i = 1) ∧ iv = .int .i64 ((i : Int) + 1) ∧ fv = .slice A f.length c ∧ Hid (f = limbs (fact i)) ∧ Hid (RN wr A c f) ∧ Hid (Below w.heap.size w wr)) (fun _ iv _ => n + 1 - (intOf iv).toNat)
  case atStart => exact ⟨1, A, c, xs, Nat.le_refl _, .inr rfl, rfl, rfl, HX, RX, HB⟩
  case round =>
    clear HX RX HB
    obtain ⟨i, A, c, f, hi1, hi2, rfl, rfl, HF, RF, HB⟩ := hrel
    by_cases hlt : i + 1 ≤ n
    · clear hi2
      go_wp2_with fail
      refine (of_ok _ ((i : Int) + 1) (by omega) (by omega)).mono ?_
      rintro e w1 ⟨A1, c1, t, rfl, HT, ht, hB⟩
      have HB1 := Lib.hid (below_seq HB.out hB)
      have RF1 := Lib.hid (RF.out.below hB)
      have RT := Lib.hid ht
      clear hB ht HB RF
      go_wp2_with fail
      have hl1 : f.length ≤ 201 := by rw [HF.out]; exact Nat.le_trans (fact_len (by omega)) (by omega)
      have hl2 : t.length ≤ 1 := by rw [HT.out]; exact limbs_len1 (by omega)
      refine (mul_ok _ A A1 _ _ f t RF1.out RT.out (by omega)).mono ?_
      rintro e w2 ⟨A2, c2, g, rfl, HG, hg, hB⟩
      have HB2 := Lib.hid (below_seq HB1.out hB)
      have RG := Lib.hid hg
      clear hB hg hl1 hl2
      go_wp2_with fail
      go_roundw
      case rel =>
        refine ⟨i + 1, A2, c2, g, by omega, .inl hlt, by go_num, rfl, ?_, RG, HB2⟩
        show g = _
        rw [HG.out, HF.out, HT.out, V_limbs, V_limbs]
        simp only [Int.toNat_natCast]
        rw [show ((i : Int) + 1).toNat = i + 1 by omega]
        rfl
      case measure => simp [intOf]; omega
    · have hn : i = n ∨ (i = 1 ∧ n = 0) := by omega
      have hd : decide ((i : Int) + 1 ≤ (n : Int)) = false := decide_eq_false (by omega)
      have e1 : fact i = fact n := by
        rcases hn with rfl | ⟨rfl, rfl⟩ <;> rfl
      have HE := Lib.hid e1
      clear hn e1 hi2
      go_wp2_with fail
      go_ret2
      refine ⟨A, c, f, rfl, ?_, RF.out, HB.out⟩
      show f = _
      rw [HF.out, HE.out, Int.toNat_natCast]

theorem chI_def : True := trivial
/-- The binomial coefficient, for all k. -/
def chI (n k : Int) : Nat := if k < 0 then 0 else ch n.toNat k.toNat

set_option maxHeartbeats 400000 in
theorem choose_no (w : World) (n k : Int) (h : n < 0 ∨ 200 < n) : Calls Try.prog 14 #[.int .i64 n, .int .i64 k] w (RetNB 0 false w) := by
  go_enter Try.func14, Try.ntmps14
  go_wp2_with fail
  refine (inRange_no _ n h).mono ?_
  rintro e w1 ⟨rfl, rfl⟩
  go_wp2_with fail
  go_ret2
  exact ⟨none, 0, [], rfl, rfl, RN.nil _, Below.refl _ _⟩

set_option maxHeartbeats 800000 in
theorem choose_ok (w : World) (n k : Int) (h0 : 0 ≤ n) (h1 : n ≤ 200) : Calls Try.prog 14 #[.int .i64 n, .int .i64 k] w (RetNB (chI n k) true w) := by
  by_cases hk0 : k < 0
  · have e0 : chI n k = 0 := if_pos hk0
    have HE := Lib.hid e0
    clear e0
    have hd : decide (k < 0) = true := decide_eq_true hk0
    go_enter Try.func14, Try.ntmps14
    go_wp2_with fail
    refine (inRange_yes _ n h0 h1).mono ?_
    rintro e w1 ⟨rfl, rfl⟩
    go_wp2_with fail
    go_ret2
    exact ⟨none, 0, [], rfl, by rw [HE.out]; rfl, RN.nil _, Below.refl _ _⟩
  · have hd : decide (k < 0) = false := decide_eq_false hk0
    by_cases hk1 : n < k
    · have e0 : chI n k = 0 := by unfold chI; rw [if_neg hk0, ch_gt _ _ (by omega)]
      have HE := Lib.hid e0
      clear e0
      have hd2 : decide (n < k) = true := decide_eq_true hk1
      go_enter Try.func14, Try.ntmps14
      go_wp2_with fail
      refine (inRange_yes _ n h0 h1).mono ?_
      rintro e w1 ⟨rfl, rfl⟩
      go_wp2_with fail
      go_ret2
      exact ⟨none, 0, [], rfl, by rw [HE.out]; rfl, RN.nil _, Below.refl _ _⟩
    · have hd2 : decide (n < k) = false := decide_eq_false hk1
      obtain ⟨n, rfl⟩ := Int.eq_ofNat_of_zero_le h0
      obtain ⟨k, rfl⟩ := Int.eq_ofNat_of_zero_le (Int.not_lt.1 hk0)
      have hkn : k ≤ n := by omega
      have e0 : chI n k = ch n (min k (n - k)) := by unfold chI; rw [if_neg hk0, ch_min hkn]; rfl
      have HE := Lib.hid e0
      clear e0 hk0 hk1 h0
      go_enter Try.func14, Try.ntmps14
      go_wp2_with fail
      refine (inRange_yes _ n (by omega) h1).mono ?_
      rintro e w1 ⟨rfl, rfl⟩
      go_wp2_with fail
      refine (of_ok _ 1 (by omega) (by omega)).mono ?_
      rintro e w1 ⟨A, c, xs, rfl, HX, hx, hB⟩
      have HB := Lib.hid hB
      have RX := Lib.hid hx
      clear hB hx
      go_upto_region 6 with fail
      go_cut [23, 24] (fun s23 s24 wx => s23 = .int .i64 ((min k (n - k) : Nat) : Int) ∧ s24 = .int .i64 0 ∧ w1 = wx)
      case first =>
        by_cases hm : (k : Int) ≤ (n : Int) - (k : Int)
        · go_wp2_with fail
          go_meet
          exact ⟨by rw [Nat.min_eq_left (by omega)], rfl, rfl⟩
        · have hd3 : decide ((k : Int) ≤ (n : Int) - (k : Int)) = false := decide_eq_false hm
          go_wp2_with fail
          go_meet
          exact ⟨by rw [Nat.min_eq_right (by omega)]; congr 1; omega, rfl, rfl⟩
      case rest =>
        obtain ⟨rfl, rfl, rfl⟩ := hcut
        have hmn : min k (n - k) ≤ n := by omega
        have hmk : min k (n - k) + k ≤ n := by omega
        generalize min k (n - k) = m at *
        go_wp2_with fail
        go_loopw [6, 24] (fun fv iv wr => ∃ (i : Nat) (A : Option Addr) (c : Nat) (f : List Int), i ≤ m ∧ iv = .int .i64 (i : Int) ∧ fv = .slice A f.length c ∧ Hid (f = limbs (ch n i)) ∧ Hid (RN wr A c f) ∧ Hid (Below w.heap.size w wr)) (fun _ iv _ => m - (intOf iv).toNat)
        case atStart => exact ⟨0, A, c, xs, Nat.zero_le _, rfl, rfl, by show _ = _; rw [HX.out, ch_zero]; rfl, RX, HB⟩
        case round =>
          clear HX RX HB
          obtain ⟨i, A, c, f, hi, rfl, rfl, HF, RF, HB⟩ := hrel
          by_cases hlt : i < m
          · go_wp2_with fail
            refine (of_ok _ ((n : Int) - (i : Int)) (by omega) (by omega)).mono ?_
            rintro e w2 ⟨A1, c1, t, rfl, HT, ht, hB⟩
            have HB1 := Lib.hid (below_seq HB.out hB)
            have RF1 := Lib.hid (RF.out.below hB)
            have RT := Lib.hid ht
            clear hB ht HB RF
            go_wp2_with fail
            have hl1 : f.length ≤ 201 := by rw [HF.out]; exact Nat.le_trans (ch_len _ _) (by omega)
            have hl2 : t.length ≤ 1 := by rw [HT.out]; exact limbs_len1 (by omega)
            refine (mul_ok _ A A1 _ _ f t RF1.out RT.out (by omega)).mono ?_
            rintro e w3 ⟨A2, c2, g, rfl, HG, hg, hB⟩
            have HB2 := Lib.hid (below_seq HB1.out hB)
            have RG := Lib.hid hg
            have EG : g = limbs (ch n i * (n - i)) := by
              rw [HG.out, HF.out, HT.out, V_limbs, V_limbs]
              simp only [Int.toNat_natCast]
              rw [show ((n : Int) - (i : Int)).toNat = n - i by omega]
            have hl3 : g.length ≤ 202 := by rw [EG]; exact Nat.le_trans (limbs_mul_len (ch_len n i) (limbs_len1 (by omega : n - i ≤ 4294967295))) (by omega)
            have HEG := Lib.hid EG
            clear EG hB hg hl1 hl2 HB1 RF1 RT HG HT
            go_wp2_with fail
            refine (of_ok _ ((i : Int) + 1) (by omega) (by omega)).mono ?_
            rintro e w4 ⟨A3, c3, u, rfl, HU, hu, hB⟩
            have HB3 := Lib.hid (below_seq HB2.out hB)
            have RG1 := Lib.hid (RG.out.below hB)
            have RU := Lib.hid hu
            clear hB hu HB2 RG
            go_wp2_with fail
            have hvu : V u = ((i + 1 : Nat) : Int) := by rw [HU.out, V_limbs]; omega
            refine (divMod_small _ A2 A3 _ _ g u RG1.out RU.out (by rw [hvu]; omega) (by rw [hvu]; omega) (by omega)).mono ?_
            rintro e w5 ⟨A4, c4, q, A5, c5, r, rfl, HQ, HR, hq, hr, hB⟩
            have HB4 := Lib.hid (below_seq HB3.out hB)
            have RQ := Lib.hid hq
            have EQ : q = limbs (ch n (i + 1)) := by
              rw [HQ.out, HEG.out, V_limbs, hvu]
              simp only [Int.toNat_natCast]
              rw [ch_div (by omega)]
            have HEQ := Lib.hid EQ
            clear EQ hB hq hr hvu hl3 HB3 HR HQ
            go_wp2_with fail
            go_roundw
            case rel => exact ⟨i + 1, A4, c4, q, hlt, by go_num, rfl, HEQ, RQ, HB4⟩
            case measure => simp [intOf]; omega
          · obtain rfl : i = m := by omega
            go_wp2_with fail
            go_ret2
            exact ⟨A, c, f, rfl, by show f = _; rw [HF.out, HE.out], RF.out, HB.out⟩

end Go.Proofs.Ytmafifpibfjomaa.M
