/- The two tests whether a list of numbers is a subset. -/
import Derived.Test.YtmafifpibfjomaaRankP
import Derived.Test.YtmafifpibfjomaaRefL
namespace Go.Proofs.Ytmafifpibfjomaa.M
open Go.RowKit
set_option linter.unusedVariables false
set_option linter.unusedSimpArgs false

theorem rk_none (w : World) (k : IntKind) : Rk w k none 0 [] := ⟨Nat.le_refl _, by omega, fun j hj => by simp at hj⟩

set_option maxHeartbeats 800000 in
theorem isSubset_no (w : World) (n : Int) (A : Option Addr) (c : Nat) (l : List Int) (hl : Rk w .i64 A c l) (h : n < 0 ∨ 200 < n) :
    Calls Try.prog 42 #[.int .i64 n, .slice A l.length c] w (RetB false w) := by
  go_enter Try.func42, Try.ntmps42
  go_wp2_with fail
  refine (inRange_no _ n h).mono ?_
  rintro e w1 ⟨rfl, rfl⟩
  go_wp2_with fail
  go_ret
  exact ⟨rfl, rfl⟩

set_option maxHeartbeats 800000 in
theorem isSubset_ok (w : World) (n : Int) (A : Option Addr) (c : Nat) (l : List Int) (hl : Rk w .i64 A c l) (h0 : 0 ≤ n) (h1 : n ≤ 200) :
    Calls Try.prog 42 #[.int .i64 n, .slice A l.length c] w (RetB (up n (-1) l) w) := by
  obtain ⟨hl1, hl2, hl3⟩ := hl
  have HL := Lib.hid hl3
  clear hl3
  go_enter Try.func42, Try.ntmps42
  go_wp2_with fail
  refine (inRange_yes _ n h0 h1).mono ?_
  rintro e w1 ⟨rfl, rfl⟩
  go_wp2_with fail
  go_loopw [5, 13] (fun qv iv wr => ∃ (i : Nat) (q : Int), i ≤ l.length ∧ iv = .int .i64 (i : Int) ∧ qv = .int .i64 q ∧ Hid (up n q (l.drop i) = up n (-1) l) ∧ w = wr) (fun _ iv _ => l.length - (intOf iv).toNat)
  case atStart => exact ⟨0, -1, Nat.zero_le _, rfl, rfl, rfl, rfl⟩
  case round =>
    obtain ⟨i, q, hi, rfl, rfl, HU, hw⟩ := hrel
    obtain ⟨wo, rfl⟩ : ∃ wo : World, wo = wr := ⟨_, rfl⟩
    subst hw
    by_cases hlt : i < l.length
    · obtain ⟨ad, rfl, hc⟩ := HL.out i hlt
      have HD := Lib.hid (drop_dg hlt)
      by_cases c1 : dg l i ≤ q
      · have d1 : decide (dg l i ≤ q) = true := decide_eq_true c1
        have HF : Hid (up n (-1) l = false) := by
          show _ = _
          rw [← HU.out, HD.out]
          simp [up]
          intro h; omega
        go_wp2_with fail
        go_ret
        exact ⟨by rw [HF.out]; rfl, rfl⟩
      · have d1 : decide (dg l i ≤ q) = false := decide_eq_false c1
        by_cases c2 : n ≤ dg l i
        · have d2 : decide (n ≤ dg l i) = true := decide_eq_true c2
          have HF : Hid (up n (-1) l = false) := by
            show _ = _
            rw [← HU.out, HD.out]
            simp [up]
            intro _ h; omega
          go_wp2_with fail
          go_ret
          exact ⟨by rw [HF.out]; rfl, rfl⟩
        · have d2 : decide (n ≤ dg l i) = false := decide_eq_false c2
          have HU2 : Hid (up n (dg l i) (l.drop (i + 1)) = up n (-1) l) := by
            show _ = _
            rw [← HU.out, HD.out]
            simp only [up]
            rw [decide_eq_true (by omega : q < dg l i), decide_eq_true (by omega : dg l i < n)]
            rfl
          go_wp2_with fail
          go_roundw
          case rel => exact ⟨i + 1, _, hlt, by go_num, rfl, HU2, by first | rfl | trivial⟩
          case measure => simp [intOf]; omega
    · obtain rfl : i = l.length := by omega
      have HF : Hid (up n (-1) l = true) := by
        show _ = _
        rw [← HU.out, List.drop_length]
        rfl
      go_wp2_with fail
      go_ret
      exact ⟨by rw [HF.out]; rfl, rfl⟩

set_option maxHeartbeats 800000 in
theorem rsubset_no (w : World) (n : Int) (A : Option Addr) (c : Nat) (l : List Int) (hl : Rk w .i64 A c l) (h : n < 0 ∨ (0 ≤ n ∧ 200 < n)) :
    Calls Try.prog 43 #[.int .i64 n, .slice A l.length c] w (RetBq false w) := by
  rcases h with h | ⟨h, h'⟩
  · have d1 : decide (n < 0) = true := decide_eq_true h
    go_enter Try.func43, Try.ntmps43
    go_wp2_with fail
    go_ret
    exact ⟨0, rfl, rfl⟩
  · have d1 : decide (n < 0) = false := decide_eq_false (by omega)
    have d2 : decide (200 < n) = true := decide_eq_true h'
    go_enter Try.func43, Try.ntmps43
    go_wp2_with fail
    go_ret
    exact ⟨0, rfl, rfl⟩

set_option maxHeartbeats 1600000 in
theorem rsubset_ok (w : World) (n : Int) (A : Option Addr) (c : Nat) (l : List Int) (hl : Rk w .i64 A c l) (h0 : 0 ≤ n) (h1 : n ≤ 200) :
    Calls Try.prog 43 #[.int .i64 n, .slice A l.length c] w (RetBq (up n (-1) l) w) := by
  obtain ⟨hl1, hl2, hl3⟩ := hl
  have HL := Lib.hid hl3
  have d01 : decide (n < 0) = false := decide_eq_false (by omega)
  have d02 : decide (200 < n) = false := decide_eq_false (by omega)
  clear hl3
  go_enter Try.func43, Try.ntmps43
  go_wp2_with fail
  go_loopw [5] (fun iv wr => ∃ (i : Nat) (q : Int), i ≤ l.length ∧ iv = .int .i64 (i : Int) ∧ Hid (i = 0 ∧ q = -1 ∨ 0 < i ∧ q = dg l (i - 1)) ∧ Hid (-1 ≤ q) ∧ Hid (up n q (l.drop i) = up n (-1) l) ∧ ∃ m, wr = w.drewN m) (fun iv _ => l.length - (intOf iv).toNat)
  case atStart => exact ⟨0, -1, Nat.zero_le _, rfl, .inl ⟨rfl, rfl⟩, by show _ ≤ _; omega, rfl, 0, rfl⟩
  case round =>
    obtain ⟨i, q, hi, rfl, HQ, HQ0, HU, m, rfl⟩ := hrel
    by_cases hlt : i < l.length
    · obtain ⟨ad, rfl, hc⟩ := HL.out i hlt
      have HD := Lib.hid (drop_dg hlt)
      by_cases c1 : dg l i < 0
      · have d1 : decide (dg l i < 0) = true := decide_eq_true c1
        have HF : Hid (up n (-1) l = false) := by
          show _ = _
          rw [← HU.out, HD.out]
          have := HQ0.out
          simp [up]
          intro h; omega
        go_wp2_with fail
        go_quiet (fail)
        go_wp2_with fail
        go_ret
        exact ⟨_, by first | rfl | (simp only [World.drewN_drewN]; rfl), by rw [HF.out]; rfl⟩
      · have d1 : decide (dg l i < 0) = false := decide_eq_false c1
        by_cases c2 : n ≤ dg l i
        · have d2 : decide (n ≤ dg l i) = true := decide_eq_true c2
          have HF : Hid (up n (-1) l = false) := by
            show _ = _
            rw [← HU.out, HD.out]
            simp [up]
            intro _ h; omega
          go_wp2_with fail
          go_quiet (fail)
          go_wp2_with fail
          go_ret
          exact ⟨_, by first | rfl | (simp only [World.drewN_drewN]; rfl), by rw [HF.out]; rfl⟩
        · have d2 : decide (n ≤ dg l i) = false := decide_eq_false c2
          have HQ3 : Hid (-1 ≤ dg l i) := by show _ ≤ _; omega
          have HQ2 : Hid (i + 1 = 0 ∧ dg l i = -1 ∨ 0 < i + 1 ∧ dg l i = dg l (i + 1 - 1)) := .inr ⟨by omega, rfl⟩
          by_cases hi0 : i = 0
          · have HQq : q = -1 := by rcases HQ.out with h | h <;> omega
            have d3 : decide ((0 : Int) < (i : Int)) = false := decide_eq_false (by omega)
            have d5 : decide (0 < i) = false := decide_eq_false (by omega)
            have HU2 : Hid (up n (dg l i) (l.drop (i + 1)) = up n (-1) l) := by
              show _ = _
              rw [← HU.out, HD.out]
              simp only [up]
              rw [decide_eq_true (by omega : q < dg l i), decide_eq_true (by omega : dg l i < n)]
              rfl
            clear HQq hi0
            go_wp2_with fail
            go_quiet (fail)
            go_wp2_with fail
            go_roundw
            case rel => exact ⟨i + 1, _, hlt, by go_num, HQ2, HQ3, HU2, by first | exact ⟨_, rfl⟩ | exact ⟨_, (by simp only [World.drewN_drewN]; rfl)⟩⟩
            case measure => simp [intOf]; omega
          · obtain ⟨j, hj⟩ : ∃ j, i = j + 1 := ⟨i - 1, by omega⟩
            have he : (i : Int) - 1 = (j : Int) := by omega
            have d3 : decide ((0 : Int) < (i : Int)) = true := decide_eq_true (by omega)
            have d5 : decide (0 < i) = true := decide_eq_true (by omega)
            obtain rfl : q = dg l j := HQ.out.elim (fun h => by omega) (fun h => by rw [h.2, hj, Nat.add_sub_cancel])
            obtain ⟨ad', had, hcj⟩ := HL.out j (by omega)
            cases had
            clear hi0 HQ hj
            by_cases c3 : dg l (i) ≤ dg l j
            · have d4 : decide (dg l (i) ≤ dg l j) = true := decide_eq_true c3
              have HF : Hid (up n (-1) l = false) := by
                show _ = _
                rw [← HU.out, HD.out]
                simp [up]
                intro h; omega
              go_wp2_with fail
              go_quiet (fail)
              go_wp2_with fail
              go_ret
              exact ⟨_, by first | rfl | (simp only [World.drewN_drewN]; rfl), by rw [HF.out]; rfl⟩
            · have d4 : decide (dg l (i) ≤ dg l j) = false := decide_eq_false c3
              have HU2 : Hid (up n (dg l (i)) (l.drop (i + 1)) = up n (-1) l) := by
                show _ = _
                rw [← HU.out, HD.out]
                simp only [up]
                rw [decide_eq_true (by omega : dg l j < dg l (i)), decide_eq_true (by omega : dg l (i) < n)]
                rfl
              go_wp2_with fail
              go_quiet (fail)
              go_wp2_with fail
              go_roundw
              case rel => exact ⟨i + 1, _, hlt, by go_num, HQ2, HQ3, HU2, by first | exact ⟨_, rfl⟩ | exact ⟨_, (by simp only [World.drewN_drewN]; rfl)⟩⟩
              case measure => simp [intOf]; omega
    · obtain rfl : i = l.length := by omega
      have HF : Hid (up n (-1) l = true) := by
        show _ = _
        rw [← HU.out, List.drop_length]
        rfl
      go_wp2_with fail
      go_ret
      exact ⟨_, rfl, by rw [HF.out]; rfl⟩

end Go.Proofs.Ytmafifpibfjomaa.M
