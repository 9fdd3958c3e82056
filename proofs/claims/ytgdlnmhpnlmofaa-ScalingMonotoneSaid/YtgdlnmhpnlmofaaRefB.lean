/- The reference: Cmp. -/
import Derived.Test.YtgdlnmhpnlmofaaRefA
import Derived.Deep.DeepCutAuto
namespace Go.Proofs.Ytgdlnmhpnlmofaa.M
set_option maxRecDepth 10000
open Go.RowKit
set_option linter.unusedVariables false

theorem V_lt_of {x y : List Int} {j n : Nat} (hx : Lim x) (hy : Lim y) (hxn : x.length ≤ n) (hyn : y.length ≤ n) (hj : j < n) (hd : ∀ i, j + 1 ≤ i → dg x i = dg y i) (h : dg x j < dg y j) : V x < V y := by
  rw [← V_at hxn, ← V_at hyn]
  exact S_lt hx hy (i := j) hj (fun i h1 _ => hd i (by omega)) h
theorem V_eq_of {x y : List Int} (hd : ∀ i, dg x i = dg y i) : V x = V y := by
  rw [← V_at (xs := x) (n := max x.length y.length) (by omega), ← V_at (xs := y) (n := max x.length y.length) (by omega)]
  exact S_congr (fun i _ => hd i)

set_option maxHeartbeats 800000 in
theorem rcmp_ok (w : World) (A B : Option Addr) (c d : Nat) (xs ys : List Int) (hx : RN w A c xs) (hy : RN w B d ys) :
    Calls Try.prog 57 #[.slice A xs.length c, .slice B ys.length d] w (RetI (cmpI (V xs) (V ys)) w) := by
  have hmx : xs.length ≤ 9223372036854775807 := Nat.le_trans hx.1.1 hx.1.2.1
  have hmy : ys.length ≤ 9223372036854775807 := Nat.le_trans hy.1.1 hy.1.2.1
  have RX := Lib.hid hx
  have RY := Lib.hid hy
  clear hx hy
  go_enter Try.func57, Try.ntmps57
  go_upto_region 1 with fail
  go_cut [5] (fun s5 wx => s5 = .int .i64 (((max xs.length ys.length : Nat) : Int) - 1) ∧ w = wx)
  case first =>
    by_cases hm : (ys.length : Int) ≤ (xs.length : Int)
    · have hd : decide (ys.length ≤ xs.length) = true := decide_eq_true (by omega)
      have e : max xs.length ys.length = xs.length := Nat.max_eq_left (by omega)
      have HE := Lib.hid e
      clear e
      go_wp2_with fail
      go_meet
      exact ⟨by rw [HE.out], rfl⟩
    · have hd : decide (ys.length ≤ xs.length) = false := decide_eq_false (by omega)
      have e : max xs.length ys.length = ys.length := Nat.max_eq_right (by omega)
      have HE := Lib.hid e
      clear e
      go_wp2_with fail
      go_meet
      exact ⟨by rw [HE.out], rfl⟩
  case rest =>
    obtain ⟨rfl, rfl⟩ := hcut
    have h1 : xs.length ≤ max xs.length ys.length := by omega
    have h2 : ys.length ≤ max xs.length ys.length := by omega
    have h3 : max xs.length ys.length ≤ 9223372036854775807 := by omega
    generalize max xs.length ys.length = n at *
    go_wp2_with fail
    go_loopw [5] (fun iv wr => ∃ k : Nat, k ≤ n ∧ iv = .int .i64 ((k : Int) - 1) ∧ Hid (∀ j, k ≤ j → dg xs j = dg ys j) ∧ w = wr) (fun iv _ => (intOf iv + 1).toNat)
    case atStart => exact ⟨n, Nat.le_refl _, rfl, fun j hj => by rw [dg_ge (by omega), dg_ge (by omega)], rfl⟩
    case round =>
      obtain ⟨k, hk, rfl, HD, rfl⟩ := hrel
      by_cases h0 : k = 0
      · subst h0
        go_wp2_with fail
        go_ret
        exact ⟨0, rfl, by rw [cmpI_eq (V_eq_of (fun i => HD.out i (Nat.zero_le _)))]; rfl⟩
      · obtain ⟨j, rfl⟩ : ∃ j, k = j + 1 := ⟨k - 1, by omega⟩
        have ej : ((j + 1 : Nat) : Int) - 1 = (j : Int) := by omega
        rw [ej]
        clear ej h0
        have bx := (RX.out).2 j
        have by' := (RY.out).2 j
        go_wp2_with fail
        refine (limb_ok _ A c xs RX.out (j : Int) (by omega)).mono ?_
        rintro e w1 ⟨rfl, rfl⟩
        rw [Int.toNat_natCast]
        go_wp2_with fail
        refine (limb_ok _ B d ys RY.out (j : Int) (by omega)).mono ?_
        rintro e w1 ⟨rfl, rfl⟩
        rw [Int.toNat_natCast]
        rcases Int.lt_trichotomy (dg xs j) (dg ys j) with hlt | heq | hgt
        · have hd : decide (dg xs j < dg ys j) = true := decide_eq_true hlt
          have HLT := Lib.hid hlt
          clear hlt
          go_wp2_with fail
          go_ret
          exact ⟨0, rfl, by rw [cmpI_lt (V_lt_of RX.out.2 RY.out.2 h1 h2 (by omega) HD.out HLT.out)]; rfl⟩
        · have hd : decide (dg xs j < dg ys j) = false := decide_eq_false (by omega)
          have hd2 : decide (dg ys j < dg xs j) = false := decide_eq_false (by omega)
          have HLT := Lib.hid heq
          clear heq
          go_wp2_with fail
          go_roundw
          case rel =>
            refine ⟨j, by omega, rfl, fun i hi => ?_, by first | rfl | trivial⟩
            by_cases e : i = j
            · subst e; exact HLT.out
            · exact HD.out i (by omega)
          case measure => simp [intOf]
        · have hd : decide (dg xs j < dg ys j) = false := decide_eq_false (by omega)
          have hd2 : decide (dg ys j < dg xs j) = true := decide_eq_true (by omega)
          have HLT := Lib.hid hgt
          clear hgt
          go_wp2_with fail
          go_ret
          exact ⟨0, rfl, by rw [cmpI_gt (V_lt_of RY.out.2 RX.out.2 h2 h1 (by omega) (fun i hi => (HD.out i hi).symm) HLT.out)]; rfl⟩

end Go.Proofs.Ytgdlnmhpnlmofaa.M
