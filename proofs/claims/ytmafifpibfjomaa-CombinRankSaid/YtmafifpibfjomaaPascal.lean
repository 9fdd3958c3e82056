/- The law CombinPascal: its walk. -/
import Derived.Test.YtmafifpibfjomaaCombC
namespace Go.Proofs.Ytmafifpibfjomaa.M
open Go.RowKit
set_option linter.unusedVariables false

/-- A law that holds. -/
def RetTrue (w : World) (e : Ending) (w' : World) : Prop := e = .returned (.bool true) ∧ Below w.heap.size w w'

theorem pascal_guard (w : World) (n k : Int) (h : n < 0 ∨ (0 ≤ n ∧ 200 < n) ∨ (0 ≤ n ∧ n ≤ 200 ∧ k < 0) ∨ (0 ≤ n ∧ n ≤ 200 ∧ 0 ≤ k ∧ n < k)) : Calls Try.prog 6 #[.int .i64 n, .int .i64 k] w (RetTrue w) := by
  rcases h with h | ⟨h1, h2⟩ | ⟨h1, h2, h3⟩ | ⟨h1, h2, h3, h4⟩
  · have d1 : decide (n < 0) = true := decide_eq_true h
    go_enter Try.func6, Try.ntmps6
    go_wp2_with fail
    go_ret
    exact ⟨rfl, Below.refl _ _⟩
  · have d1 : decide (n < 0) = false := decide_eq_false (by omega)
    have d2 : decide (200 < n) = true := decide_eq_true h2
    go_enter Try.func6, Try.ntmps6
    go_wp2_with fail
    go_ret
    exact ⟨rfl, Below.refl _ _⟩
  · have d1 : decide (n < 0) = false := decide_eq_false (by omega)
    have d2 : decide (200 < n) = false := decide_eq_false (by omega)
    have d3 : decide (k < 0) = true := decide_eq_true h3
    go_enter Try.func6, Try.ntmps6
    go_wp2_with fail
    go_ret
    exact ⟨rfl, Below.refl _ _⟩
  · have d1 : decide (n < 0) = false := decide_eq_false (by omega)
    have d2 : decide (200 < n) = false := decide_eq_false (by omega)
    have d3 : decide (k < 0) = false := decide_eq_false (by omega)
    have d4 : decide (n < k) = true := decide_eq_true h4
    go_enter Try.func6, Try.ntmps6
    go_wp2_with fail
    go_ret
    exact ⟨rfl, Below.refl _ _⟩

set_option maxHeartbeats 1600000 in
theorem pascal_ok (w : World) (n k : Nat) (hn : n ≤ 200) (hk : k ≤ n) : Calls Try.prog 6 #[.int .i64 (n : Int), .int .i64 (k : Int)] w (RetTrue w) := by
  have d1 : decide ((n : Int) < 0) = false := decide_eq_false (by omega)
  have d2 : decide (200 < (n : Int)) = false := decide_eq_false (by omega)
  have d3 : decide ((k : Int) < 0) = false := decide_eq_false (by omega)
  have d4 : decide ((n : Int) < (k : Int)) = false := decide_eq_false (by omega)
  have e1 : chI n k = ch n k := by unfold chI; rw [if_neg (by omega)]; rfl
  have e2 : chI n ((n : Int) - (k : Int)) = ch n k := by
    unfold chI
    rw [if_neg (by omega), show ((n : Int) - (k : Int)).toNat = n - k by omega, Int.toNat_natCast, ch_symm hk]
  have E1 := Lib.hid e1
  have E2 := Lib.hid e2
  clear e1 e2
  go_enter Try.func6, Try.ntmps6
  go_wp2_with fail
  refine (choose_ok _ n k (by omega) (by omega)).mono ?_
  rintro e w1 ⟨A1, c1, x, rfl, HX, hx, hB⟩
  have HB1 := Lib.hid hB
  have RX := Lib.hid hx
  clear hB hx
  go_wp2_with fail
  refine (choose_ok _ n ((n : Int) - (k : Int)) (by omega) (by omega)).mono ?_
  rintro e w2 ⟨A2, c2, y, rfl, HY, hy, hB⟩
  have HB2 := Lib.hid (below_seq HB1.out hB)
  have RX2 := Lib.hid (RX.out.below hB)
  have RY := Lib.hid hy
  clear hB hy HB1 RX
  go_wp2_with fail
  refine (limbs_yes _ A1 A2 _ _ x y RX2.out.1 RY.out.1 (by rw [HX.out, HY.out, E1.out, E2.out])).mono ?_
  rintro e w3 ⟨m3, rfl, rfl⟩
  have HB3 := Lib.hid (below_drewN HB2.out m3)
  have RX3 := Lib.hid (RX2.out.below (below_drewN (Below.refl _ _) m3))
  clear HB2 RX2 RY HY
  go_wp2_with fail
  refine (factorial_ok _ n (by omega) (by omega)).mono ?_
  rintro e w4 ⟨A4, c4, f, rfl, HF, hf, hB⟩
  have HB4 := Lib.hid (HB3.out.trans (hB.mono HB3.out.size))
  have RX4 := Lib.hid (RX3.out.below hB)
  have RF4 := Lib.hid hf
  clear hB hf HB3 RX3
  go_wp2_with fail
  refine (factorial_ok _ k (by omega) (by omega)).mono ?_
  rintro e w5 ⟨A5, c5, g, rfl, HG, hg, hB⟩
  have HB5 := Lib.hid (HB4.out.trans (hB.mono HB4.out.size))
  have RX5 := Lib.hid (RX4.out.below hB)
  have RF5 := Lib.hid (RF4.out.below hB)
  have RG5 := Lib.hid hg
  clear hB hg HB4 RX4 RF4
  go_wp2_with fail
  refine (factorial_ok _ ((n : Int) - (k : Int)) (by omega) (by omega)).mono ?_
  rintro e w6 ⟨A6, c6, h, rfl, HH, hh, hB⟩
  have HB6 := Lib.hid (HB5.out.trans (hB.mono HB5.out.size))
  have RX6 := Lib.hid (RX5.out.below hB)
  have RF6 := Lib.hid (RF5.out.below hB)
  have RG6 := Lib.hid (RG5.out.below hB)
  have RH6 := Lib.hid hh
  clear hB hh HB5 RX5 RF5 RG5
  have e3 : ((n : Int) - (k : Int)).toNat = n - k := by omega
  have hlx : x.length ≤ 201 := by rw [HX.out, E1.out]; exact Nat.le_trans (ch_len _ _) (by omega)
  have hlf : f.length ≤ 201 := by rw [HF.out, Int.toNat_natCast]; exact Nat.le_trans (fact_len (by omega)) (by omega)
  have hlg : g.length ≤ 201 := by rw [HG.out, Int.toNat_natCast]; exact Nat.le_trans (fact_len (by omega)) (by omega)
  have hlh : h.length ≤ 201 := by rw [HH.out, e3]; exact Nat.le_trans (fact_len (by omega)) (by omega)
  have E3 := Lib.hid e3
  clear e3
  go_wp2_with fail
  refine (mul_ok _ A5 A6 _ _ g h RG6.out RH6.out (by omega)).mono ?_
  rintro e w7 ⟨A7, c7, p, rfl, HP, hp, hB⟩
  have HB7 := Lib.hid (HB6.out.trans (hB.mono HB6.out.size))
  have RX7 := Lib.hid (RX6.out.below hB)
  have RF7 := Lib.hid (RF6.out.below hB)
  have RP7 := Lib.hid hp
  have ep : p = limbs (fact k * fact (n - k)) := by
    rw [HP.out, HG.out, HH.out, V_limbs, V_limbs, E3.out]
    simp only [Int.toNat_natCast]
  have hlp : p.length ≤ 402 := by
    rw [ep]
    exact Nat.le_trans (limbs_mul_len (fact_len (by omega)) (fact_len (by omega))) (by omega)
  have EP := Lib.hid ep
  clear ep hB hp HB6 RX6 RF6 RG6 RH6 HP HG HH hlg hlh
  go_wp2_with fail
  refine (mul_ok _ A1 A7 _ _ x p RX7.out RP7.out (by omega)).mono ?_
  rintro e w8 ⟨A8, c8, q, rfl, HQ, hq, hB⟩
  have HB8 := Lib.hid (HB7.out.trans (hB.mono HB7.out.size))
  have RX8 := Lib.hid (RX7.out.below hB)
  have RF8 := Lib.hid (RF7.out.below hB)
  have RQ8 := Lib.hid hq
  have eq : q = f := by
    rw [HQ.out, HX.out, EP.out, V_limbs, V_limbs, HF.out, E1.out]
    simp only [Int.toNat_natCast]
    rw [ch_fact' hk]
  have EQ := Lib.hid eq
  clear eq hB hq HB7 RX7 RF7 RP7 HQ
  go_wp2_with fail
  refine (limbs_yes _ A8 A4 _ _ q f RQ8.out.1 RF8.out.1 EQ.out).mono ?_
  rintro e w9 ⟨m9, rfl, rfl⟩
  have HB9 := Lib.hid (below_drewN HB8.out m9)
  have RX9 := Lib.hid (RX8.out.below (below_drewN (Below.refl _ _) m9))
  have RF9 := Lib.hid (RF8.out.below (below_drewN (Below.refl _ _) m9))
  clear HB8 RX8 RF8 RQ8
  go_wp2_with fail
  refine (bits_ok _ A4 _ f RF9.out (by omega)).mono ?_
  rintro e w10 ⟨v, rfl, HV, hv, rfl⟩
  have hv0 : (v == 0) = false := by
    refine beq_eq_false_iff_ne.2 fun h0 => ?_
    have h1 := HV.out.1 h0
    rw [HF.out, V_limbs] at h1
    have := fact_pos n
    simp only [Int.toNat_natCast] at h1
    omega
  clear HV
  by_cases hn0 : n = 0
  · subst hn0
    go_wp2_with fail
    go_ret
    exact ⟨rfl, HB9.out⟩
  · have hb : ((n : Int) == 0) = false := beq_eq_false_iff_ne.2 (by omega)
    go_wp2_with fail
    refine (choose_ok _ ((n : Int) - 1) ((k : Int) - 1) (by omega) (by omega)).mono ?_
    rintro e w11 ⟨A11, c11, a, rfl, HA, ha, hB⟩
    have HB11 := Lib.hid (HB9.out.trans (hB.mono HB9.out.size))
    have RX11 := Lib.hid (RX9.out.below hB)
    have RA11 := Lib.hid ha
    clear hB ha HB9 RX9 RF9
    go_wp2_with fail
    refine (choose_ok _ ((n : Int) - 1) (k : Int) (by omega) (by omega)).mono ?_
    rintro e w12 ⟨A12, c12, b, rfl, HBb, hb', hB⟩
    have HB12 := Lib.hid (HB11.out.trans (hB.mono HB11.out.size))
    have RX12 := Lib.hid (RX11.out.below hB)
    have RA12 := Lib.hid (RA11.out.below hB)
    have RB12 := Lib.hid hb'
    clear hB hb' HB11 RX11 RA11
    have hla : a.length ≤ 201 := by
      rw [HA.out]; unfold chI
      split
      · exact Nat.le_trans (limbs_len1 (by omega)) (by omega)
      · exact Nat.le_trans (ch_len _ _) (by omega)
    have hlb : b.length ≤ 201 := by
      rw [HBb.out]; unfold chI
      split
      · exact Nat.le_trans (limbs_len1 (by omega)) (by omega)
      · exact Nat.le_trans (ch_len _ _) (by omega)
    go_wp2_with fail
    refine (add_ok _ A11 A12 _ _ a b RA12.out RB12.out (by omega) (by omega)).mono ?_
    rintro e w13 ⟨A13, c13, s, rfl, HS, hs, hB⟩
    have HB13 := Lib.hid (HB12.out.trans (hB.mono HB12.out.size))
    have RX13 := Lib.hid (RX12.out.below hB)
    have RS13 := Lib.hid hs
    have es : s = x := by
      rw [HS.out, HA.out, HBb.out, HX.out, V_limbs, V_limbs, E1.out]
      simp only [Int.toNat_natCast]
      congr 1
      obtain ⟨m, rfl⟩ : ∃ m, n = m + 1 := ⟨n - 1, by omega⟩
      unfold chI
      rw [show (((m + 1 : Nat) : Int) - 1).toNat = m by omega, if_neg (show ¬ ((k : Int) < 0) by omega), Int.toNat_natCast]
      cases k with
      | zero => rw [if_pos (by omega), ch_zero, ch_zero]
      | succ k => rw [if_neg (by omega), show (((k + 1 : Nat) : Int) - 1).toNat = k by omega]; rfl
    have ES := Lib.hid es
    clear es hB hs HB12 RX12 RA12 RB12 HS
    go_wp2_with fail
    refine (limbs_yes _ A13 A1 _ _ s x RS13.out.1 RX13.out.1 ES.out).mono ?_
    rintro e w14 ⟨m14, rfl, rfl⟩
    have HB14 := Lib.hid (below_drewN HB13.out m14)
    clear HB13
    go_wp2_with fail
    go_ret
    exact ⟨rfl, HB14.out⟩

theorem pascal (w : World) (n : Int) (_ : -9223372036854775808 ≤ n ∧ n ≤ 9223372036854775807) (k : Int) (_ : -9223372036854775808 ≤ k ∧ k ≤ 9223372036854775807) : Calls Try.prog 6 #[.int .i64 n, .int .i64 k] w (RetTrue w) := by
  by_cases h : 0 ≤ n ∧ n ≤ 200 ∧ 0 ≤ k ∧ k ≤ n
  · obtain ⟨h1, h2, h3, h4⟩ := h
    obtain ⟨n, rfl⟩ := Int.eq_ofNat_of_zero_le h1
    obtain ⟨k, rfl⟩ := Int.eq_ofNat_of_zero_le h3
    exact pascal_ok w n k (by omega) (by omega)
  · exact pascal_guard w n k (by omega)

end Go.Proofs.Ytmafifpibfjomaa.M
