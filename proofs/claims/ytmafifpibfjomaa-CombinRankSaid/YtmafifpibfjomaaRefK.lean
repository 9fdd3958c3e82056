/- The reference: product, Factorial, Choose. -/
import Derived.Test.YtmafifpibfjomaaRefJ
import Derived.Test.YtmafifpibfjomaaDivides
namespace Go.Proofs.Ytmafifpibfjomaa.M
open Go.RowKit
set_option linter.unusedVariables false
set_option linter.unusedSimpArgs false

/-- The product of k numbers from lo on. -/
def pf (lo : Nat) : Nat → Nat
  | 0 => 1
  | k + 1 => pf lo k * (lo + k)
theorem pf_one (n : Nat) : pf 1 n = fact n := by
  induction n with
  | zero => rfl
  | succ n ih => rw [pf, ih, Nat.add_comm 1 n]; rfl
theorem pf_fact (m k : Nat) : pf (m + 1) k * fact m = fact (m + k) := by
  induction k with
  | zero => simp [pf]
  | succ k ih =>
    have e : fact (m + (k + 1)) = fact (m + k) * (m + k + 1) := rfl
    rw [pf, e, ← ih]
    have e2 : m + 1 + k = m + k + 1 := by omega
    rw [e2]
    simp only [Nat.mul_assoc, Nat.mul_comm, Nat.mul_left_comm]
theorem pf_ch {n k : Nat} (h : k ≤ n) : pf (n - k + 1) k = ch n k * fact k := by
  have h1 := pf_fact (n - k) k
  have h2 := ch_fact' h
  rw [show n - k + k = n by omega] at h1
  refine Nat.eq_of_mul_eq_mul_right (fact_pos (n - k)) ?_
  rw [h1, ← h2, Nat.mul_assoc]
theorem pf_len {lo k : Nat} (h : lo + k ≤ 4294967295) : (limbs (pf lo k)).length ≤ k + 1 := by
  induction k with
  | zero => exact limbs_len1 (show (1 : Nat) ≤ 4294967295 by omega)
  | succ k ih => exact limbs_mul_len (ih (by omega)) (limbs_len1 (by omega))

set_option maxHeartbeats 400000 in
theorem rone_ok (w : World) : Calls Try.prog 45 #[] w (RetN 1 w) := by
  go_enter Try.func45, Try.ntmps45
  go_wp2_with fail
  refine (rof_ok _ 1 (by omega) (by omega)).mono ?_
  rintro e w1 ⟨A, c, xs, rfl, HX, hx, hB⟩
  have HB := Lib.hid hB
  clear hB
  go_wp2_with fail
  go_ret
  exact ⟨A, c, xs, rfl, HX, hx, HB.out⟩

set_option maxHeartbeats 800000 in
theorem rproduct_ok (w : World) (lo hi : Int) (h0 : 1 ≤ lo) (h1 : lo ≤ hi + 1) (h2 : hi ≤ 200) : Calls Try.prog 33 #[.int .i64 lo, .int .i64 hi] w (RetN (pf lo.toNat (hi + 1 - lo).toNat) w) := by
  obtain ⟨a, rfl⟩ := Int.eq_ofNat_of_zero_le (show 0 ≤ lo by omega)
  obtain ⟨n, hn⟩ : ∃ n : Nat, hi + 1 - (a : Int) = (n : Int) := ⟨(hi + 1 - (a : Int)).toNat, by omega⟩
  obtain rfl : hi = (a : Int) + (n : Int) - 1 := by omega
  have HN : Hid (((a : Int) + (n : Int) - 1 + 1 - (a : Int)).toNat = n) := by show _ = _; omega
  clear hn h1
  go_enter Try.func33, Try.ntmps33
  go_wp2_with fail
  refine (rone_ok _).mono ?_
  rintro e w1 ⟨A, c, xs, rfl, HX, hx, hB⟩
  have HB := Lib.hid hB
  have RX := Lib.hid hx
  clear hB hx
  go_wp2_with fail
  go_loopw [5, 6] (fun fv iv wr => ∃ (i : Nat) (A : Option Addr) (c : Nat) (f : List Int), i ≤ n ∧ iv = .int .i64 ((a : Int) + (i : Int)) ∧ fv = .slice A f.length c ∧ Hid (f = limbs (pf a i)) ∧ Hid (RN wr A c f) ∧ Hid (Below w.heap.size w wr)) (fun _ iv _ => a + n - (intOf iv).toNat)
  case atStart => exact ⟨0, A, c, xs, Nat.zero_le _, by go_num, rfl, HX, RX, HB⟩
  case round =>
    clear HX RX HB
    obtain ⟨i, A, c, f, hi', rfl, rfl, HF, RF, HB⟩ := hrel
    by_cases hlt : i < n
    · have hd : decide ((a : Int) + (i : Int) ≤ (a : Int) + (n : Int) - 1) = true := decide_eq_true (by omega)
      go_wp2_with fail
      refine (rof_ok _ ((a : Int) + (i : Int)) (by omega) (by omega)).mono ?_
      rintro e w2 ⟨A1, c1, t, rfl, HT, ht, hB⟩
      have HB1 := Lib.hid (below_seq HB.out hB)
      have RF1 := Lib.hid (RF.out.below hB)
      have RT := Lib.hid ht
      clear hB ht HB RF
      go_wp2_with fail
      have hl1 : f.length ≤ 202 := by rw [HF.out]; exact Nat.le_trans (pf_len (by omega)) (by omega)
      have hl2 : t.length ≤ 1 := by rw [HT.out]; exact limbs_len1 (by omega)
      refine (rmul_ok _ A A1 _ _ f t RF1.out RT.out (by omega)).mono ?_
      rintro e w3 ⟨A2, c2, g, rfl, HG, hg, hB⟩
      have HB2 := Lib.hid (below_seq HB1.out hB)
      have RG := Lib.hid hg
      clear hB hg hl1 hl2
      go_wp2_with fail
      go_roundw
      case rel =>
        refine ⟨i + 1, A2, c2, g, hlt, by go_num, rfl, ?_, RG, HB2⟩
        show g = _
        rw [HG.out, HF.out, HT.out, V_limbs, V_limbs]
        simp only [Int.toNat_natCast]
        rw [show ((a : Int) + (i : Int)).toNat = a + i by omega]
        rfl
      case measure => simp [intOf]; omega
    · obtain rfl : i = n := by omega
      have hd : decide ((a : Int) + (i : Int) ≤ (a : Int) + (i : Int) - 1) = false := decide_eq_false (by omega)
      go_wp2_with fail
      go_ret
      exact ⟨A, c, f, rfl, by show f = _; rw [HN.out, HF.out, Int.toNat_natCast], RF.out, HB.out⟩

set_option maxHeartbeats 400000 in
theorem rfactorial_no (w : World) (n : Int) (h : n < 0 ∨ 200 < n) : Calls Try.prog 12 #[.int .i64 n] w (RetNB 0 false w) := by
  rcases h with h | h
  · have h1 : decide (n < 0) = true := decide_eq_true h
    go_enter Try.func12, Try.ntmps12
    go_wp2_with fail
    go_ret2
    exact ⟨none, 0, [], rfl, rfl, RN.nil _, Below.refl _ _⟩
  · have h1 : decide (n < 0) = false := decide_eq_false (by omega)
    have h2 : decide (200 < n) = true := decide_eq_true h
    go_enter Try.func12, Try.ntmps12
    go_wp2_with fail
    go_ret2
    exact ⟨none, 0, [], rfl, rfl, RN.nil _, Below.refl _ _⟩

set_option maxHeartbeats 400000 in
theorem rfactorial_ok (w : World) (n : Int) (h0 : 0 ≤ n) (h1 : n ≤ 200) : Calls Try.prog 12 #[.int .i64 n] w (RetNB (fact n.toNat) true w) := by
  have d1 : decide (n < 0) = false := decide_eq_false (by omega)
  have d2 : decide (200 < n) = false := decide_eq_false (by omega)
  have HE : Hid (pf (1 : Int).toNat (n + 1 - 1).toNat = fact n.toNat) := by show _ = _; rw [Int.add_sub_cancel]; exact pf_one _
  go_enter Try.func12, Try.ntmps12
  go_wp2_with fail
  refine (rproduct_ok _ 1 n (by omega) (by omega) h1).mono ?_
  rintro e w1 ⟨A, c, xs, rfl, HX, hx, hB⟩
  have HB := Lib.hid hB
  clear hB
  go_wp2_with fail
  go_ret2
  exact ⟨A, c, xs, rfl, by show xs = _; rw [HX.out, HE.out], hx, HB.out⟩

set_option maxHeartbeats 400000 in
theorem rchoose_no (w : World) (n k : Int) (h : n < 0 ∨ 200 < n) : Calls Try.prog 15 #[.int .i64 n, .int .i64 k] w (RetNB 0 false w) := by
  rcases h with h | h
  · have h1 : decide (n < 0) = true := decide_eq_true h
    go_enter Try.func15, Try.ntmps15
    go_wp2_with fail
    go_ret2
    exact ⟨none, 0, [], rfl, rfl, RN.nil _, Below.refl _ _⟩
  · have h1 : decide (n < 0) = false := decide_eq_false (by omega)
    have h2 : decide (200 < n) = true := decide_eq_true h
    go_enter Try.func15, Try.ntmps15
    go_wp2_with fail
    go_ret2
    exact ⟨none, 0, [], rfl, rfl, RN.nil _, Below.refl _ _⟩

set_option maxHeartbeats 800000 in
theorem rchoose_ok (w : World) (n k : Int) (h0 : 0 ≤ n) (h1 : n ≤ 200) : Calls Try.prog 15 #[.int .i64 n, .int .i64 k] w (RetNB (chI n k) true w) := by
  have d1 : decide (n < 0) = false := decide_eq_false (by omega)
  have d2 : decide (200 < n) = false := decide_eq_false (by omega)
  by_cases hk0 : k < 0
  · have e0 : chI n k = 0 := if_pos hk0
    have HE := Lib.hid e0
    clear e0
    have hd : decide (k < 0) = true := decide_eq_true hk0
    go_enter Try.func15, Try.ntmps15
    go_wp2_with fail
    go_ret2
    exact ⟨none, 0, [], rfl, by rw [HE.out]; rfl, RN.nil _, Below.refl _ _⟩
  · have hd : decide (k < 0) = false := decide_eq_false hk0
    by_cases hk1 : n < k
    · have e0 : chI n k = 0 := by unfold chI; rw [if_neg hk0, ch_gt _ _ (by omega)]
      have HE := Lib.hid e0
      clear e0
      have hd2 : decide (n < k) = true := decide_eq_true hk1
      go_enter Try.func15, Try.ntmps15
      go_wp2_with fail
      go_ret2
      exact ⟨none, 0, [], rfl, by rw [HE.out]; rfl, RN.nil _, Below.refl _ _⟩
    · have hd2 : decide (n < k) = false := decide_eq_false hk1
      have e0 : chI n k = ch n.toNat k.toNat := by unfold chI; rw [if_neg hk0]
      have e1 : pf (n - k + 1).toNat (n + 1 - (n - k + 1)).toNat = ch n.toNat k.toNat * fact k.toNat := by
        rw [← pf_ch (show k.toNat ≤ n.toNat by omega)]
        congr 1 <;> omega
      have e2 : pf (1 : Int).toNat (k + 1 - 1).toNat = fact k.toNat := by rw [Int.add_sub_cancel]; exact pf_one _
      have HE0 := Lib.hid e0
      have HE1 := Lib.hid e1
      have HE2 := Lib.hid e2
      have hl1' : (limbs (pf (n - k + 1).toNat (n + 1 - (n - k + 1)).toNat)).length ≤ 202 := Nat.le_trans (pf_len (by omega)) (by omega)
      have hl2' : (limbs (fact k.toNat)).length ≤ 202 := Nat.le_trans (fact_len (by omega)) (by omega)
      clear e0 e1 e2
      go_enter Try.func15, Try.ntmps15
      go_wp2_with fail
      refine (rproduct_ok _ (n - k + 1) n (by omega) (by omega) h1).mono ?_
      rintro e w1 ⟨A, c, x, rfl, HX, hx, hB⟩
      have HB := Lib.hid hB
      have RX := Lib.hid hx
      clear hB hx
      go_wp2_with fail
      refine (rproduct_ok _ 1 k (by omega) (by omega) (by omega)).mono ?_
      rintro e w2 ⟨A2, c2, y, rfl, HY, hy, hB⟩
      have HB2 := Lib.hid (below_seq HB.out hB)
      have RX2 := Lib.hid (RX.out.below hB)
      have RY2 := Lib.hid hy
      have hl1 : x.length ≤ 202 := by rw [HX.out]; exact hl1'
      have hl2 : y.length ≤ 202 := by rw [HY.out, HE2.out]; exact hl2'
      have hvy : V y = (fact k.toNat : Int) := by rw [HY.out, V_limbs, HE2.out]
      have hvx : V x = ((ch n.toNat k.toNat * fact k.toNat : Nat) : Int) := by rw [HX.out, V_limbs, HE1.out]
      have hfp := fact_pos k.toNat
      have HVX := Lib.hid hvx
      have HVY := Lib.hid hvy
      clear hB hy hl1' hl2' hvx hvy
      go_wp2_with fail
      refine (rdivMod_ok _ A A2 _ _ x y RX2.out RY2.out (by rw [HVY.out]; omega) (by omega)).mono ?_
      rintro e w3 ⟨A3, c3, q, B3, d3, r, rfl, HQ, HR, hq, hr, hB⟩
      have HB3 := Lib.hid (below_seq HB2.out hB)
      have RQ := Lib.hid hq
      clear hB hq hr
      go_wp2_with fail
      go_ret2
      refine ⟨A3, c3, q, rfl, ?_, RQ.out, HB3.out⟩
      show q = _
      rw [HQ.out, HVX.out, HVY.out, HE0.out]
      simp only [Int.toNat_natCast]
      rw [Nat.mul_div_cancel _ hfp]

end Go.Proofs.Ytmafifpibfjomaa.M
