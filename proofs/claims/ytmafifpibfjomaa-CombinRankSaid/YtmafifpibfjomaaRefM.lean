/- Rank of the reference. -/
import Derived.Test.YtmafifpibfjomaaRank
namespace Go.Proofs.Ytmafifpibfjomaa.M
open Go.RowKit
set_option linter.unusedVariables false
set_option linter.unusedSimpArgs false

set_option maxHeartbeats 800000 in
theorem rrank_out (w : World) (n : Int) (A : Option Addr) (c : Nat) (l : List Int) (hl : Rk w .i64 A c l) (h : n < 0 ∨ (0 ≤ n ∧ 200 < n)) :
    Calls Try.prog 28 #[.int .i64 n, .slice A l.length c] w (RetNB 0 false w) := by
  go_enter Try.func28, Try.ntmps28
  go_wp2_with fail
  refine (rsubset_no _ n A c l hl h).mono ?_
  rintro e w1 ⟨n1, rfl, rfl⟩
  have HB1 := Lib.hid (below_drewN (Below.refl w.heap.size w) n1)
  go_wp2_with fail
  go_ret2
  exact ⟨none, 0, [], rfl, rfl, RN.nil _, HB1.out⟩

set_option maxHeartbeats 800000 in
theorem rrank_no (w : World) (n : Nat) (A : Option Addr) (c : Nat) (l : List Int) (hl : Rk w .i64 A c l) (hn : n ≤ 200) (hu : up n (-1) l = false) :
    Calls Try.prog 28 #[.int .i64 (n : Int), .slice A l.length c] w (RetNB 0 false w) := by
  have HU := Lib.hid hu
  clear hu
  go_enter Try.func28, Try.ntmps28
  go_wp2_with fail
  refine (rsubset_ok _ n A c l hl (by omega) (by omega)).mono ?_
  rintro e w1 ⟨n1, rfl, rfl⟩
  have HB1 := Lib.hid (below_drewN (Below.refl w.heap.size w) n1)
  rw [HU.out]
  go_wp2_with fail
  go_ret2
  exact ⟨none, 0, [], rfl, rfl, RN.nil _, HB1.out⟩

set_option maxHeartbeats 1600000 in
theorem rrank_yes (w : World) (n : Nat) (A : Option Addr) (c : Nat) (l : List Int) (hl : Rk w .i64 A c l) (hn : n ≤ 200) (hu : up n (-1) l = true) :
    Calls Try.prog 28 #[.int .i64 (n : Int), .slice A l.length c] w (RetNB (rnk n 0 l) true w) := by
  have HU := Lib.hid hu
  have hln := up_len hu
  have HL := Lib.hid hl
  have HT := Lib.hid (rnk_lt hu)
  have HM := Lib.hid (up_mem hu)
  clear hu hl
  go_enter Try.func28, Try.ntmps28
  go_wp2_with fail
  refine (rsubset_ok _ n A c l HL.out (by omega) (by omega)).mono ?_
  rintro e w1 ⟨n1, rfl, rfl⟩
  have HB1 := Lib.hid (below_drewN (Below.refl w.heap.size w) n1)
  have HE1 : Hid (0 + rnk n (0 : Int).toNat (l.drop 0) = rnk n 0 l) := by show _ = _; simp
  have HU1 : Hid (up n ((0 : Int) - 1) (l.drop 0) = true) := HU.out
  have RX1 := Lib.hid (RN.nil (w.drewN n1))
  rw [HU.out]
  go_wp2_with fail
  go_loopw [6, 7, 8] (fun av fv iv wr => ∃ (i acc : Nat) (f : Int) (A1 : Option Addr) (c1 : Nat) (x : List Int), i ≤ l.length ∧ iv = .int .i64 (i : Int) ∧ fv = .int .i64 f ∧ 0 ≤ f ∧ av = .slice A1 x.length c1 ∧ Hid (x = limbs acc) ∧ Hid (acc + rnk n f.toNat (l.drop i) = rnk n 0 l) ∧ Hid (up n (f - 1) (l.drop i) = true) ∧ Hid (RN wr A1 c1 x) ∧ Hid (Below w.heap.size w wr)) (fun _ _ iv _ => l.length - (intOf iv).toNat)
  case atStart => exact ⟨0, 0, 0, none, 0, [], Nat.zero_le _, rfl, rfl, by omega, rfl, rfl, HE1, HU1, RX1, HB1⟩
  case round =>
    clear HE1 HU1 RX1 HB1
    obtain ⟨i, acc, f, A2, c2, x, hi, rfl, rfl, hf0, rfl, HX, HE, HF, RX, HB⟩ := hrel
    by_cases hlt : i < l.length
    · have HR := Lib.hid (HL.out.below HB.out)
      obtain ⟨ad, rfl, hc⟩ := HR.out.2.2 i hlt
      have HD := Lib.hid (drop_dg hlt)
      have hm := HM.out i hlt
      have hfa : f ≤ dg l i := by
        have h := HF.out
        rw [HD.out] at h
        have := (up_cons.1 h).1
        omega
      have HF2 : Hid (up n (dg l i + 1 - 1) (l.drop (i + 1)) = true) := by
        show _ = _
        rw [show dg l i + 1 - 1 = dg l i by omega]
        exact up_drop HU.out i hlt
      have HE2 : Hid (acc + sm n f.toNat ((dg l i).toNat - f.toNat) (l.length - 1 - i) + rnk n (dg l i + 1).toNat (l.drop (i + 1)) = rnk n 0 l) := by
        show _ = _
        rw [← HE.out, HD.out]
        simp only [rnk, List.length_drop]
        rw [show l.length - (i + 1) = l.length - 1 - i by omega, show (dg l i + 1).toNat = (dg l i).toNat + 1 by omega]
        omega
      have hm1 := hm.1
      have hm2 := hm.2
      clear hm hc HF HE
      go_wp2_with fail
      go_loopw [6, 9] (fun av vv wr => ∃ (acc : Nat) (v : Int) (A1 : Option Addr) (c1 : Nat) (x : List Int), vv = .int .i64 v ∧ 0 ≤ v ∧ v ≤ dg l i ∧ av = .slice A1 x.length c1 ∧ Hid (x = limbs acc) ∧ Hid (acc + sm n v.toNat ((dg l i).toNat - v.toNat) (l.length - 1 - i) + rnk n (dg l i + 1).toNat (l.drop (i + 1)) = rnk n 0 l) ∧ Hid (RN wr A1 c1 x) ∧ Hid (Below w.heap.size w wr)) (fun _ vv _ => (dg l i - intOf vv).toNat)
      case atStart => exact ⟨acc, f, A2, c2, x, rfl, hf0, hfa, rfl, HX, HE2, RX, HB⟩
      case round =>
        clear HX HE2 RX HB HR hfa hf0
        obtain ⟨acc, v, A3, c3, x, rfl, hv0, hva, rfl, HX, HE, RX, HB⟩ := hrel
        obtain ⟨_, had, hc⟩ := (HL.out.below HB.out).2.2 i hlt
        cases had
        by_cases hv : v < dg l i
        · have dv : decide (v < dg l i) = true := decide_eq_true hv
          have EC : Hid (chI ((n : Int) - 1 - v) ((l.length : Int) - 1 - (i : Int)) = ch (n - 1 - v.toNat) (l.length - 1 - i)) := by
            show _ = _
            rw [show (n : Int) - 1 - v = ((n - 1 - v.toNat : Nat) : Int) by omega, show (l.length : Int) - 1 - (i : Int) = ((l.length - 1 - i : Nat) : Int) by omega]
            unfold chI
            rw [if_neg (by omega)]
            rfl
          have HE2 : Hid (acc + ch (n - 1 - v.toNat) (l.length - 1 - i) + sm n (v + 1).toNat ((dg l i).toNat - (v + 1).toNat) (l.length - 1 - i) + rnk n (dg l i + 1).toNat (l.drop (i + 1)) = rnk n 0 l) := by
            show _ = _
            rw [← HE.out, show (dg l i).toNat - v.toNat = ((dg l i).toNat - (v + 1).toNat) + 1 by omega, show (v + 1).toNat = v.toNat + 1 by omega]
            simp only [sm]
            omega
          have hxl : x.length ≤ 201 := by
            rw [HX.out]
            refine small_len hn (k := l.length) ?_
            have h1 := HE.out
            have h2 := HT.out
            omega
          go_wp2_with fail
          refine (rchoose_ok _ _ _ (by omega) (by omega)).mono ?_
          rintro e w4 ⟨A4, c4, y, rfl, HY, hy, hB⟩
          have HBy := Lib.hid (below_seq HB.out hB)
          have RXy := Lib.hid (RX.out.below hB)
          have RYy := Lib.hid hy
          have hyl : y.length ≤ 201 := by
            rw [HY.out, EC.out]
            exact Nat.le_trans (ch_len _ _) (by omega)
          clear hB hy HB RX hc
          go_wp2_with fail
          refine (radd_ok _ _ _ _ _ x y RXy.out RYy.out (by omega) (by omega)).mono ?_
          rintro e w5 ⟨A5, c5, z, rfl, HZ, hz, hB⟩
          have HBz := Lib.hid (below_seq HBy.out hB)
          have RZ := Lib.hid hz
          have HZ2 : Hid (z = limbs (acc + ch (n - 1 - v.toNat) (l.length - 1 - i))) := by
            show _ = _
            rw [HZ.out, HX.out, HY.out, V_limbs, V_limbs, EC.out]
            simp only [Int.toNat_natCast]
          clear hB hz HBy RXy RYy HZ HY
          go_wp2_with fail
          go_roundw
          case rel => exact ⟨_, v + 1, A5, c5, z, by go_num, by omega, by omega, rfl, HZ2, HE2, RZ, HBz⟩
          case measure => simp [intOf]; omega
        · have dv : decide (v < dg l i) = false := decide_eq_false hv
          have HE2 : Hid (acc + rnk n (dg l i + 1).toNat (l.drop (i + 1)) = rnk n 0 l) := by
            show _ = _
            rw [← HE.out, show (dg l i).toNat - v.toNat = 0 by omega]
            rfl
          go_wp2_with fail
          go_roundw
          case rel => exact ⟨i + 1, _, dg l i + 1, A3, c3, x, hlt, by go_num, rfl, by omega, rfl, HX, HE2, HF2, RX, HB⟩
          case measure => simp [intOf]; omega
    · obtain rfl : i = l.length := by omega
      have HE2 : Hid (acc = rnk n 0 l) := by
        have := HE.out
        rw [List.drop_length] at this
        show _ = _
        simpa [rnk] using this
      go_wp2_with fail
      go_ret2
      exact ⟨A2, c2, x, rfl, by rw [← HE2.out]; exact HX, RX.out, HB.out⟩

end Go.Proofs.Ytmafifpibfjomaa.M
