/- Ranks of subsets: the code, the reference and the law's own test. -/
import Derived.Test.YtmafifpibfjomaaSub
namespace Go.Proofs.Ytmafifpibfjomaa.M
open Go.RowKit
set_option linter.unusedVariables false
set_option linter.unusedSimpArgs false

set_option maxHeartbeats 1600000 in
theorem rising_ok (w : World) (n : Int) (k : Nat) (A : Option Addr) (c : Nat) (l : List Int) (hl : Rk w .i64 A c l) (hk : l.length = k) :
    Calls Try.prog 25 #[.int .i64 n, .int .i64 (k : Int), .slice A l.length c] w (RetBq (up n (-1) l) w) := by
  obtain ⟨hl1, hl2, hl3⟩ := hl
  have HL := Lib.hid hl3
  subst hk
  clear hl3
  go_enter Try.func25, Try.ntmps25
  go_wp2_with fail
  go_loopw [7] (fun iv wr => ∃ (i : Nat) (q : Int), i ≤ l.length ∧ iv = .int .i64 (i : Int) ∧ Hid (i = 0 ∧ q = -1 ∨ 0 < i ∧ q = dg l (i - 1)) ∧ Hid (-1 ≤ q) ∧ Hid (up n q (l.drop i) = up n (-1) l) ∧ ∃ m, wr = w.drewN m) (fun iv _ => l.length - (intOf iv).toNat)
  case atStart => exact ⟨0, -1, Nat.zero_le _, rfl, .inl ⟨rfl, rfl⟩, by show _ ≤ _; omega, rfl, 0, rfl⟩
  case round =>
    obtain ⟨i, q, hi, rfl, HQ, HQ0, HU, m, rfl⟩ := hrel
    by_cases hlt : i < l.length
    · obtain ⟨ad, rfl, hc⟩ := HL.out i hlt
      have HD := Lib.hid (drop_dg hlt)
      by_cases c1 : dg l i < 0
      · have d1 : decide (dg l i < 0) = true := decide_eq_true c1
        have HF : Hid (up n (-1) l = false) := by
          show _ = _
          rw [← HU.out, HD.out]
          have := HQ0.out
          simp [up]
          intro h; omega
        go_wp2_with fail
        go_quiet (fail)
        go_wp2_with fail
        go_ret
        exact ⟨_, by first | rfl | (simp only [World.drewN_drewN]; rfl), by rw [HF.out]; rfl⟩
      · have d1 : decide (dg l i < 0) = false := decide_eq_false c1
        by_cases c2 : n ≤ dg l i
        · have d2 : decide (n ≤ dg l i) = true := decide_eq_true c2
          have HF : Hid (up n (-1) l = false) := by
            show _ = _
            rw [← HU.out, HD.out]
            simp [up]
            intro _ h; omega
          go_wp2_with fail
          go_quiet (fail)
          go_wp2_with fail
          go_ret
          exact ⟨_, by first | rfl | (simp only [World.drewN_drewN]; rfl), by rw [HF.out]; rfl⟩
        · have d2 : decide (n ≤ dg l i) = false := decide_eq_false c2
          have HQ3 : Hid (-1 ≤ dg l i) := by show _ ≤ _; omega
          have HQ2 : Hid (i + 1 = 0 ∧ dg l i = -1 ∨ 0 < i + 1 ∧ dg l i = dg l (i + 1 - 1)) := .inr ⟨by omega, rfl⟩
          by_cases hi0 : i = 0
          · have HQq : q = -1 := by rcases HQ.out with h | h <;> omega
            have d3 : decide ((0 : Int) < (i : Int)) = false := decide_eq_false (by omega)
            have d5 : decide (0 < i) = false := decide_eq_false (by omega)
            have HU2 : Hid (up n (dg l i) (l.drop (i + 1)) = up n (-1) l) := by
              show _ = _
              rw [← HU.out, HD.out]
              simp only [up]
              rw [decide_eq_true (by omega : q < dg l i), decide_eq_true (by omega : dg l i < n)]
              rfl
            clear HQq hi0
            go_wp2_with fail
            go_quiet (fail)
            go_wp2_with fail
            go_roundw
            case rel => exact ⟨i + 1, _, hlt, by go_num, HQ2, HQ3, HU2, by first | exact ⟨_, rfl⟩ | exact ⟨_, (by simp only [World.drewN_drewN]; rfl)⟩⟩
            case measure => simp [intOf]; omega
          · obtain ⟨j, hj⟩ : ∃ j, i = j + 1 := ⟨i - 1, by omega⟩
            have he : (i : Int) - 1 = (j : Int) := by omega
            have d3 : decide ((0 : Int) < (i : Int)) = true := decide_eq_true (by omega)
            have d5 : decide (0 < i) = true := decide_eq_true (by omega)
            obtain rfl : q = dg l j := HQ.out.elim (fun h => by omega) (fun h => by rw [h.2, hj, Nat.add_sub_cancel])
            obtain ⟨ad', had, hcj⟩ := HL.out j (by omega)
            cases had
            clear hi0 HQ hj
            by_cases c3 : dg l (i) ≤ dg l j
            · have d4 : decide (dg l (i) ≤ dg l j) = true := decide_eq_true c3
              have HF : Hid (up n (-1) l = false) := by
                show _ = _
                rw [← HU.out, HD.out]
                simp [up]
                intro h; omega
              go_wp2_with fail
              go_quiet (fail)
              go_wp2_with fail
              go_ret
              exact ⟨_, by first | rfl | (simp only [World.drewN_drewN]; rfl), by rw [HF.out]; rfl⟩
            · have d4 : decide (dg l (i) ≤ dg l j) = false := decide_eq_false c3
              have HU2 : Hid (up n (dg l (i)) (l.drop (i + 1)) = up n (-1) l) := by
                show _ = _
                rw [← HU.out, HD.out]
                simp only [up]
                rw [decide_eq_true (by omega : dg l j < dg l (i)), decide_eq_true (by omega : dg l (i) < n)]
                rfl
              go_wp2_with fail
              go_quiet (fail)
              go_wp2_with fail
              go_roundw
              case rel => exact ⟨i + 1, _, hlt, by go_num, HQ2, HQ3, HU2, by first | exact ⟨_, rfl⟩ | exact ⟨_, (by simp only [World.drewN_drewN]; rfl)⟩⟩
              case measure => simp [intOf]; omega
    · obtain rfl : i = l.length := by omega
      have HF : Hid (up n (-1) l = true) := by
        show _ = _
        rw [← HU.out, List.drop_length]
        rfl
      go_wp2_with fail
      go_ret
      exact ⟨_, rfl, by rw [HF.out]; rfl⟩


theorem small_len {a : Nat} {n k : Nat} (hn : n ≤ 200) (h : a ≤ ch n k) : (limbs a).length ≤ 201 := Nat.le_trans (limbs_mono h) (Nat.le_trans (ch_len n k) (by omega))

set_option maxHeartbeats 800000 in
theorem rank_out (w : World) (n : Int) (A : Option Addr) (c : Nat) (l : List Int) (hl : Rk w .i64 A c l) (h : n < 0 ∨ 200 < n) :
    Calls Try.prog 26 #[.int .i64 n, .slice A l.length c] w (RetNB 0 false w) := by
  go_enter Try.func26, Try.ntmps26
  go_wp2_with fail
  refine (isSubset_no _ n A c l hl h).mono ?_
  rintro e w1 ⟨rfl, rfl⟩
  go_wp2_with fail
  go_ret2
  exact ⟨none, 0, [], rfl, rfl, RN.nil _, Below.refl _ _⟩

set_option maxHeartbeats 800000 in
theorem rank_no (w : World) (n : Nat) (A : Option Addr) (c : Nat) (l : List Int) (hl : Rk w .i64 A c l) (hn : n ≤ 200) (hu : up n (-1) l = false) :
    Calls Try.prog 26 #[.int .i64 (n : Int), .slice A l.length c] w (RetNB 0 false w) := by
  have HU := Lib.hid hu
  clear hu
  go_enter Try.func26, Try.ntmps26
  go_wp2_with fail
  refine (isSubset_ok _ n A c l hl (by omega) (by omega)).mono ?_
  rintro e w1 ⟨rfl, rfl⟩
  rw [HU.out]
  go_wp2_with fail
  go_ret2
  exact ⟨none, 0, [], rfl, rfl, RN.nil _, Below.refl _ _⟩

set_option maxHeartbeats 1600000 in
theorem rank_yes (w : World) (n : Nat) (A : Option Addr) (c : Nat) (l : List Int) (hl : Rk w .i64 A c l) (hn : n ≤ 200) (hu : up n (-1) l = true) :
    Calls Try.prog 26 #[.int .i64 (n : Int), .slice A l.length c] w (RetNB (rnk n 0 l) true w) := by
  have HU := Lib.hid hu
  have hln := up_len hu
  have HL := Lib.hid hl
  have HT := Lib.hid (rnk_lt hu)
  have HM := Lib.hid (up_mem hu)
  clear hu hl
  go_enter Try.func26, Try.ntmps26
  go_wp2_with fail
  refine (isSubset_ok _ n A c l HL.out (by omega) (by omega)).mono ?_
  rintro e w1 ⟨rfl, rfl⟩
  rw [HU.out]
  go_wp2_with fail
  refine (of_ok _ 1 (by omega) (by omega)).mono ?_
  rintro e w1 ⟨A1, c1, x, rfl, HX, hx, hB⟩
  have HB1 := Lib.hid hB
  have RX1 := Lib.hid hx
  have HE1 : Hid (1 + aft n (l.drop 0) = 1 + aft n l) := rfl
  clear hB hx
  go_wp2_with fail
  go_loopw [7, 23] (fun av iv wr => ∃ (i acc : Nat) (A1 : Option Addr) (c1 : Nat) (x : List Int), i ≤ l.length ∧ iv = .int .i64 (i : Int) ∧ av = .slice A1 x.length c1 ∧ Hid (x = limbs acc) ∧ Hid (acc + aft n (l.drop i) = 1 + aft n l) ∧ Hid (RN wr A1 c1 x) ∧ Hid (Below w.heap.size w wr)) (fun _ iv _ => l.length - (intOf iv).toNat)
  case atStart => exact ⟨0, 1, A1, c1, x, Nat.zero_le _, rfl, rfl, HX, HE1, RX1, HB1⟩
  case round =>
    clear HX HE1 RX1 HB1
    obtain ⟨i, acc, A2, c2, x, hi, rfl, rfl, HX, HE, RX, HB⟩ := hrel
    by_cases hlt : i < l.length
    · obtain ⟨ad, rfl, hc⟩ := (HL.out.below HB.out).2.2 i hlt
      have HD := Lib.hid (drop_dg hlt)
      have hm := HM.out i hlt
      have EC : Hid (chI ((n : Int) - 1 - dg l i) ((l.length : Int) - (i : Int)) = ch (n - 1 - (dg l i).toNat) (l.length - i)) := by
        show _ = _
        rw [show (n : Int) - 1 - dg l i = ((n - 1 - (dg l i).toNat : Nat) : Int) by omega, show (l.length : Int) - (i : Int) = ((l.length - i : Nat) : Int) by omega]
        unfold chI
        rw [if_neg (by omega)]
        rfl
      have HE2 : Hid (acc + ch (n - 1 - (dg l i).toNat) (l.length - i) + aft n (l.drop (i + 1)) = 1 + aft n l) := by
        show _ = _
        rw [← HE.out, HD.out]
        simp only [aft, List.length_drop]
        rw [show l.length - (i + 1) + 1 = l.length - i by omega]
        omega
      have hxl : x.length ≤ 201 := by
        rw [HX.out]
        refine small_len hn (k := l.length) ?_
        have h1 := HE.out
        have h2 := HT.out
        omega
      have hm1 := hm.1
      have hm2 := hm.2
      clear hm
      go_wp2_with fail
      refine (choose_ok _ _ _ (by omega) (by omega)).mono ?_
      rintro e w4 ⟨A4, c4, y, rfl, HY, hy, hB⟩
      have HBy := Lib.hid (below_seq HB.out hB)
      have RXy := Lib.hid (RX.out.below hB)
      have RYy := Lib.hid hy
      have hyl : y.length ≤ 201 := by
        rw [HY.out, EC.out]
        exact Nat.le_trans (ch_len _ _) (by omega)
      clear hB hy HB RX
      go_wp2_with fail
      refine (add_ok _ _ _ _ _ x y RXy.out RYy.out (by omega) (by omega)).mono ?_
      rintro e w5 ⟨A5, c5, z, rfl, HZ, hz, hB⟩
      have HBz := Lib.hid (below_seq HBy.out hB)
      have RZ := Lib.hid hz
      have HZ2 : Hid (z = limbs (acc + ch (n - 1 - (dg l i).toNat) (l.length - i))) := by
        show _ = _
        rw [HZ.out, HX.out, HY.out, V_limbs, V_limbs, EC.out]
        simp only [Int.toNat_natCast]
      clear hB hz HBy RXy RYy HZ HY
      go_wp2_with fail
      go_roundw
      case rel => exact ⟨i + 1, _, A5, c5, z, hlt, by go_num, rfl, HZ2, HE2, RZ, HBz⟩
      case measure => simp [intOf]; omega
    · obtain rfl : i = l.length := by omega
      have HE2 : Hid (acc = 1 + aft n l) := by
        have := HE.out
        rw [List.drop_length] at this
        show _ = _
        simpa [aft] using this
      have EC : Hid (chI (n : Int) (l.length : Int) = ch n l.length) := by
        show _ = _
        unfold chI
        rw [if_neg (by omega)]
        rfl
      go_wp2_with fail
      refine (choose_ok _ _ _ (by omega) (by omega)).mono ?_
      rintro e w4 ⟨A4, c4, y, rfl, HY, hy, hB⟩
      have HBy := Lib.hid (below_seq HB.out hB)
      have RXy := Lib.hid (RX.out.below hB)
      have RYy := Lib.hid hy
      have hyl : y.length ≤ 201 := by
        rw [HY.out, EC.out]
        exact Nat.le_trans (ch_len _ _) (by omega)
      have hle : V x ≤ V y := by
        rw [HX.out, HY.out, V_limbs, V_limbs, EC.out, HE2.out]
        have := HT.out
        omega
      have HLE := Lib.hid hle
      have HV : Hid ((V y).toNat - (V x).toNat = rnk n 0 l) := by
        show _ = _
        rw [HX.out, HY.out, V_limbs, V_limbs, EC.out, HE2.out]
        have := HT.out
        omega
      clear hB hy HB RX hle
      go_wp2_with fail
      refine (sub_yes _ _ _ _ _ y x RYy.out RXy.out HLE.out (by omega)).mono ?_
      rintro e w5 ⟨A5, c5, z, rfl, HZ, hz, hB⟩
      have HBz := Lib.hid (below_seq HBy.out hB)
      have RZ := Lib.hid hz
      clear hB hz
      go_wp2_with fail
      go_ret2
      exact ⟨A5, c5, z, rfl, by rw [← HV.out]; exact HZ, RZ.out, HBz.out⟩

end Go.Proofs.Ytmafifpibfjomaa.M
