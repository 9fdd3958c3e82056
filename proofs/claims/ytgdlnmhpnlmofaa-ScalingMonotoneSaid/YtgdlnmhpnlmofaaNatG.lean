/- Dividing a number of the program by a number of one limb, or by a greater one. -/
import Derived.Test.YtgdlnmhpnlmofaaNatF
namespace Go.Proofs.Ytgdlnmhpnlmofaa.M
set_option maxRecDepth 10000
open Go.RowKit
set_option linter.unusedVariables false

theorem toNat_div {a b : Int} (ha : 0 ≤ a) (hb : 0 ≤ b) : (a / b).toNat = a.toNat / b.toNat := by
  obtain ⟨m, rfl⟩ := Int.eq_ofNat_of_zero_le ha
  obtain ⟨n, rfl⟩ := Int.eq_ofNat_of_zero_le hb
  rw [← Int.natCast_ediv]
  simp only [Int.toNat_natCast]
theorem toNat_mod {a b : Int} (ha : 0 ≤ a) (hb : 0 ≤ b) : (a % b).toNat = a.toNat % b.toNat := by
  obtain ⟨m, rfl⟩ := Int.eq_ofNat_of_zero_le ha
  obtain ⟨n, rfl⟩ := Int.eq_ofNat_of_zero_le hb
  rw [← Int.natCast_emod]
  simp only [Int.toNat_natCast]
/-- A quotient, a remainder and true. -/
def RetQR (q r : Nat) (w : World) (e : Ending) (w' : World) : Prop := ∃ A c xs B d ys, e = .returned (.tuple #[.slice A xs.length c, .slice B ys.length d, .bool true]) ∧ Hid (xs = limbs q) ∧ Hid (ys = limbs r) ∧ RN w' A c xs ∧ RN w' B d ys ∧ Below w.heap.size w w'

/-- A number of one limb. -/
theorem one_limb {y : List Int} (h : Nf y) (h0 : 0 < V y) (h1 : V y ≤ 4294967295) : y.length = 1 ∧ dg y 0 = V y := by
  have hl : y.length = 1 := by
    rcases (show y.length = 0 ∨ y.length = 1 ∨ 2 ≤ y.length by omega) with h2 | h2 | h2
    · rw [List.length_eq_zero_iff.1 h2, V_nil] at h0; omega
    · exact h2
    · have h3 := h.pos (by omega)
      have h4 := pw_le (show 1 ≤ y.length - 1 by omega)
      rw [pw_succ, pw_zero] at h4
      omega
  refine ⟨hl, ?_⟩
  unfold V
  rw [hl, S_succ, S_zero, pw_zero]
  omega

set_option maxHeartbeats 800000 in
theorem divMod_less (w : World) (A B : Option Addr) (c d : Nat) (xs ys : List Int) (hx : RN w A c xs) (hy : RN w B d ys) (hv : V xs < V ys) (hs : xs.length ≤ 70368744177664) :
    Calls Try.prog 92 #[.slice A xs.length c, .slice B ys.length d] w (RetQR ((V xs).toNat / (V ys).toNat) ((V xs).toNat % (V ys).toNat) w) := by
  have HVx := Lib.hid (V_nrm hx.2)
  have HVy := Lib.hid (V_nrm hy.2)
  have HV := Lib.hid hv
  have hlx := nrm_len hx.2
  have HX0 := Lib.hid (V_nonneg hx.2)
  clear hv
  go_enter Try.func92, Try.ntmps92
  go_wp2_with fail
  refine (trim_ok _ A c xs hx).mono ?_
  rintro e w1 ⟨rfl, x, rfl, HX, hx'⟩
  go_wp2_with fail
  refine (trim_ok _ B d ys hy).mono ?_
  rintro e w1 ⟨rfl, y, rfl, HY, hy'⟩
  rw [← HX.out] at hlx
  have EX : V x = V xs := by rw [HX.out]; exact HVx.out
  have EY : V y = V ys := by rw [HY.out]; exact HVy.out
  have NY : Nf y := by rw [HY.out]; exact nrm_nf _
  have hy0 : y.length ≠ 0 := by
    intro h
    have h1 := HV.out
    have h2 := HX0.out
    rw [← EY, List.length_eq_zero_iff.1 h, V_nil] at h1
    omega
  have hb : ((y.length : Int) == 0) = false := beq_eq_false_iff_ne.2 (by omega)
  have HEX := Lib.hid EX
  have HEY := Lib.hid EY
  clear EX EY NY hy0 HX HY HVx HVy
  go_wp2_with fail
  refine (cmp_ok _ A B _ _ x y hx' hy').mono ?_
  rintro e w1 ⟨n, rfl, rfl⟩
  have e1 : cmpI (V x) (V y) = -1 := cmpI_lt (by rw [HEX.out, HEY.out]; exact HV.out)
  rw [e1]
  clear e1
  have hw : Below w.heap.size w (w.drewN n) := below_drewN (Below.refl _ _) _
  go_wp2_with fail
  refine (norm_ok _ A _ x (hx'.below hw) (by omega)).mono ?_
  rintro e w1 ⟨A2, c2, z, rfl, HZ, hz, hB⟩
  have HB := Lib.hid (below_seq hw hB)
  clear hw hB
  go_wp2_with fail
  go_ret3
  have h1 := HV.out
  have h2 := HX0.out
  refine ⟨none, 0, [], A2, c2, z, rfl, ?_, ?_, RN.nil _, hz, HB.out⟩
  · show [] = _
    rw [Nat.div_eq_of_lt (by omega), limbs_zero]
  · show z = _
    rw [HZ.out, HEX.out, Nat.mod_eq_of_lt (by omega)]

set_option maxHeartbeats 800000 in
theorem divMod_small (w : World) (A B : Option Addr) (c d : Nat) (xs ys : List Int) (hx : RN w A c xs) (hy : RN w B d ys) (hv0 : 0 < V ys) (hv1 : V ys ≤ 4294967295) (hs : xs.length ≤ 70368744177664) :
    Calls Try.prog 92 #[.slice A xs.length c, .slice B ys.length d] w (RetQR ((V xs).toNat / (V ys).toNat) ((V xs).toNat % (V ys).toNat) w) := by
  by_cases hv : V xs < V ys
  · exact divMod_less w A B c d xs ys hx hy hv hs
  have HVx := Lib.hid (V_nrm hx.2)
  have HVy := Lib.hid (V_nrm hy.2)
  have HV := Lib.hid hv
  have HV0 := Lib.hid hv0
  have HV1 := Lib.hid hv1
  have hlx := nrm_len hx.2
  have HX0 := Lib.hid (V_nonneg hx.2)
  clear hv hv0 hv1
  go_enter Try.func92, Try.ntmps92
  go_wp2_with fail
  refine (trim_ok _ A c xs hx).mono ?_
  rintro e w1 ⟨rfl, x, rfl, HX, hx'⟩
  go_wp2_with fail
  refine (trim_ok _ B d ys hy).mono ?_
  rintro e w1 ⟨rfl, y, rfl, HY, hy'⟩
  rw [← HX.out] at hlx
  have EX : V x = V xs := by rw [HX.out]; exact HVx.out
  have EY : V y = V ys := by rw [HY.out]; exact HVy.out
  have NY : Nf y := by rw [HY.out]; exact nrm_nf _
  obtain ⟨hl1, hdg⟩ := one_limb NY (by rw [EY]; exact HV0.out) (by rw [EY]; exact HV1.out)
  obtain ⟨y0, rfl⟩ : ∃ y0, y = [y0] := by
    match y, hl1 with
    | [y0], _ => exact ⟨y0, rfl⟩
  rw [dg_cons0] at hdg
  have hcy := hy'.1.2.2 0 (by simp)
  rw [dg_cons0] at hcy
  have hc : cmpI (V x) (V [y0]) = 0 ∨ cmpI (V x) (V [y0]) = 1 := by
    have := HV.out
    rcases (show V x = V [y0] ∨ V [y0] < V x by omega) with h | h
    · exact .inl (cmpI_eq h)
    · exact .inr (cmpI_gt h)
  have hb1 : 0 < y0 := by rw [hdg, EY]; exact HV0.out
  have hb2 : y0 ≤ 4294967295 := by rw [hdg, EY]; exact HV1.out
  have HEX := Lib.hid EX
  have HEY := Lib.hid (hdg.trans EY)
  clear EX EY NY HX HY HVx HVy hl1 hdg
  obtain ⟨bd, rfl, hcy⟩ := hcy
  simp only [Addr.add, if_true] at hcy
  go_wp2_with fail
  refine (cmp_ok _ A (some bd) _ _ x [y0] hx' hy').mono ?_
  rintro e w1 ⟨n, rfl, rfl⟩
  have hw : Below w.heap.size w (w.drewN n) := below_drewN (Below.refl _ _) _
  have RX := Lib.hid (hx'.below hw)
  have HW := Lib.hid hw
  clear hx hy hx' hy' hw
  have hc1 : decide (cmpI (V x) (V [y0]) < 0) = false := by rcases hc with h | h <;> rw [h] <;> rfl
  clear hc
  go_wp2_with fail
  clear hc1
  refine (divSmall_ok _ A _ x y0 RX.out hb1 hb2 (by omega)).mono ?_
  rintro e w1 ⟨A2, c2, z, rfl, HZ, hz, hB⟩
  have HB := Lib.hid (below_seq HW.out hB)
  have RZ := Lib.hid hz
  have hr0 := Int.emod_nonneg (V x) (by omega : y0 ≠ 0)
  have hr1 := Int.emod_lt_of_pos (V x) hb1
  clear hB hz
  go_wp2_with fail
  refine (of_ok _ (V x % y0) hr0 (by omega)).mono ?_
  rintro e w2 ⟨A3, c3, t, rfl, HT, ht, hB⟩
  have HB2 := Lib.hid (below_seq HB.out hB)
  have RZ2 := Lib.hid (RZ.out.below hB)
  clear hB
  go_wp2_with fail
  go_ret3
  have h1 := HEX.out
  have h2 := HEY.out
  have h3 := HX0.out
  have h4 := HV0.out
  refine ⟨A2, c2, z, A3, c3, t, rfl, ?_, ?_, RZ2.out, ht, HB2.out⟩
  · show z = _
    rw [HZ.out, h1, h2, toNat_div h3 (by omega)]
  · show t = _
    rw [HT.out, h1, h2, toNat_mod h3 (by omega)]

end Go.Proofs.Ytgdlnmhpnlmofaa.M
