/- Small integers read back. -/
import Derived.Test.YtgdlnmhpnlmofaaIntC
namespace Go.Proofs.Ytgdlnmhpnlmofaa.M
set_option maxRecDepth 10000
open Go.RowKit
set_option linter.unusedVariables false
set_option linter.unusedSimpArgs false
theorem nf_one {x : List Int} (h : Nf x) (h1 : V x ≤ 4294967295) : x.length ≤ 1 := by
  rcases Nat.lt_or_ge 1 x.length with h2 | h2
  · have h3 := h.pos (by omega)
    have h4 := pw_le (show 1 ≤ x.length - 1 by omega)
    rw [pw_succ, pw_zero] at h4
    omega
  · exact h2

set_option maxHeartbeats 800000 in
theorem uint_ok (w : World) (A : Option Addr) (c : Nat) (xs : List Int) (hx : RN w A c xs) (hs : V xs ≤ 4294967295) :
    Calls Try.prog 73 #[.slice A xs.length c] w (fun e w' => e = .returned (.tuple #[.int .u64 (V xs), .bool true]) ∧ w' = w) := by
  have HX := Lib.hid hx
  clear hx
  go_enter Try.func73, Try.ntmps73
  have HVx := Lib.hid (V_nrm HX.out.2)
  go_wp2_with fail
  refine (trim_ok w A c xs HX.out).mono ?_
  rintro e_ w1 ⟨rfl, x, rfl, HXN, hx'⟩
  have NX : Nf x := by rw [HXN.out]; exact nrm_nf _
  have EX : V x = V xs := by rw [HXN.out]; exact HVx.out
  have hl1 : x.length ≤ 1 := nf_one NX (by rw [EX]; exact hs)
  have d1 : decide (2 < x.length) = false := decide_eq_false (by omega)
  have d1' : decide ((2 : Int) < (x.length : Int)) = false := decide_eq_false (by omega)
  have HEX := Lib.hid EX
  have RX := Lib.hid hx'
  clear NX EX hx'
  rcases (show x.length = 0 ∨ x.length = 1 by omega) with h0 | h0
  · have HV0 : Hid (V xs = 0) := by show _ = _; rw [← HEX.out, List.length_eq_zero_iff.1 h0]; rfl
    have e1 : decide ((0 : Int) < (x.length : Int)) = false := decide_eq_false (by omega)
    have e2 : decide (0 < x.length) = false := decide_eq_false (by omega)
    have H0 := Lib.hid h0
    clear h0
    go_wp2_with fail
    go_loopw [5, 15] (fun nv iv wr => nv = .int .u64 0 ∧ iv = .int .i64 0 ∧ wr = w) (fun _ iv _ => (intOf iv).toNat)
    case atStart => exact ⟨rfl, rfl, rfl⟩
    case round =>
      obtain ⟨rfl, rfl, rfl⟩ := hrel
      go_wp2_with fail
      go_ret2
      rw [HV0.out]
      exact ⟨rfl, rfl⟩
  · obtain ⟨ad, rfl, hc⟩ := RX.out.1.2.2 0 (by omega)
    have hc0 : w.cell? ad = some (.int .u32 (dg x 0)) := by
      have h : ad.add 0 = ad := by unfold Addr.add; split <;> simp_all
      rw [← h]
      exact hc
    clear hc
    have bx := RX.out.2 0
    have HV1 : Hid (V xs = dg x 0) := by
      show _ = _
      rw [← HEX.out]
      unfold V
      rw [h0, S_succ, S_zero, pw_zero]
      omega
    have e1 : decide ((0 : Int) < (x.length : Int)) = true := decide_eq_true (by omega)
    have e2 : decide (0 < x.length) = true := decide_eq_true (by omega)
    have e3 : decide ((1 : Int) < (x.length : Int)) = false := decide_eq_false (by omega)
    have e4 : decide (1 < x.length) = false := decide_eq_false (by omega)
    have hor : Go.bits .or .u64 0 (dg x 0) = dg x 0 := by
      have h := or32 0 (dg x 0) (by omega) bx.1 (by omega) (by omega) (by omega)
      simpa using h
    have hx1 : (x.length : Int) = 1 := by omega
    have H1 := Lib.hid h0
    clear h0
    go_wp2_with fail
    go_loopw [5, 15] (fun nv iv wr => (nv = .int .u64 0 ∧ iv = .int .i64 0 ∨ nv = .int .u64 (dg x 0) ∧ iv = .int .i64 1) ∧ wr = w) (fun _ iv _ => 1 - (intOf iv).toNat)
    case atStart => exact ⟨.inl ⟨rfl, rfl⟩, rfl⟩
    case round =>
      obtain ⟨⟨rfl, rfl⟩ | ⟨rfl, rfl⟩, rfl⟩ := hrel
      · go_wp2_with fail
        go_roundw
        case rel => exact ⟨.inr ⟨rfl, rfl⟩, by first | trivial | rfl⟩
        case measure => simp [intOf]
      · go_wp2_with fail
        go_ret2
        rw [HV1.out]
        exact ⟨rfl, rfl⟩

set_option maxHeartbeats 800000 in
theorem int64_ok (w : World) (b : Bool) (A : Option Addr) (c : Nat) (xs : List Int) (hx : RN w A c xs) (hs : V xs ≤ 4294967295) :
    Calls Try.prog 47 #[.agg #[.bool b, .slice A xs.length c]] w (fun e w' => e = .returned (.tuple #[.int .i64 (zv b xs), .bool true]) ∧ Below w.heap.size w w') := by
  have HX := Lib.hid hx
  clear hx
  go_enter Try.func47, Try.ntmps47
  have hvn := V_nonneg HX.out.2
  go_upto_region 1 with fail
  obtain ⟨W, hW⟩ : ∃ W, W = (w.alloc (.cells #[.bool b, .slice A xs.length c] 31)) := ⟨_, rfl⟩
  rw [← hW]
  have hBW : Below w.heap.size w W := by rw [hW]; exact ((Below.refl _ _).alloc (Nat.le_refl _) _)
  have vW0 : Vr W (w.heap.size) 31 #[.bool b, .slice A xs.length c] := by rw [hW]; exact (Vr.new' _ _ _ (by simp only [size_alloc]))
  clear hW
  have HVW0 := Lib.hid vW0
  have HBW := Lib.hid hBW
  clear hBW vW0
  have oc0 := (HVW0.out).cell 0 rfl
  have oc1 := (HVW0.out).cell 1 rfl
  go_wp2_with fail
  refine (uint_ok W A c xs (HX.out.below HBW.out) hs).mono ?_
  obtain ⟨v, hv⟩ : ∃ v, V xs = v := ⟨_, rfl⟩
  have HVV := Lib.hid hv
  rw [hv] at hs hvn ⊢
  clear hv
  rintro e_ W ⟨rfl, rfl⟩
  have d1 : decide ((9223372036854775808 : Int) < v) = false := decide_eq_false (by omega)
  have d2 : (v == 9223372036854775808) = false := beq_eq_false_iff_ne.2 (by omega)
  have e1 : IntKind.i64.wrap v = v := IntWalk.i64_in _ (by omega)
  have e2 : IntKind.i64.wrap (-v) = -v := IntWalk.i64_in _ (by omega)
  cases b
  · go_wp2_with fail
    go_ret2
    exact ⟨by rw [zv_f, HVV.out]; rfl, HBW.out⟩
  · go_wp2_with fail
    go_ret2
    exact ⟨by rw [zv_t, HVV.out]; rfl, HBW.out⟩

set_option maxHeartbeats 800000 in
theorem pow0_ok (w : World) (A : Option Addr) (c : Nat) (xs : List Int) (hx : RN w A c xs) (hs : xs.length ≤ 70368744177664) :
    Calls Try.prog 113 #[.slice A xs.length c, .int .i64 0] w (RetNB 1 true w) := by
  have HX := Lib.hid hx
  clear hx
  go_enter Try.func113, Try.ntmps113
  go_wp2_with fail
  refine (of_ok w 1 (by omega) (by omega)).mono ?_
  rintro e_ w1 ⟨A1, c1, z, rfl, HZ, hz, hB⟩
  have B_w1 := Lib.hid hB
  have R_w1 := Lib.hid hz
  have RX := Lib.hid (HX.out.below hB)
  clear hB hz
  go_wp2_with fail
  refine (norm_ok w1 A c xs RX.out (by omega)).mono ?_
  rintro e_ w2 ⟨A2, c2, y, rfl, HY, hy, hB⟩
  have B_w2 := Lib.hid (below_seq B_w1.out hB)
  have R_w2 := Lib.hid (R_w1.out.below hB)
  clear hB hy
  go_wp2_with fail
  go_loopw [6, 8] (fun pv iv wr => pv = .slice A1 z.length c1 ∧ iv = .int .i64 0 ∧ wr = w2) (fun _ iv _ => (intOf iv).toNat)
  case atStart => exact ⟨rfl, rfl, rfl⟩
  case round =>
    obtain ⟨rfl, rfl, rfl⟩ := hrel
    go_wp2_with fail
    go_ret2
    exact ⟨A1, c1, z, rfl, HZ, R_w2.out, B_w2.out⟩

end Go.Proofs.Ytgdlnmhpnlmofaa.M
