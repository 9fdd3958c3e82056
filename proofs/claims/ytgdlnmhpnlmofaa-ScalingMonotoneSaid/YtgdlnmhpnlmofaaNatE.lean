/- The difference of two numbers of the program. -/
import Derived.Test.YtgdlnmhpnlmofaaNatD
namespace Go.Proofs.Ytgdlnmhpnlmofaa.M
set_option maxRecDepth 10000
open Go.RowKit
set_option linter.unusedVariables false

/-- A number and a bool. -/
def RetNB (N : Nat) (b : Bool) (w : World) (e : Ending) (w' : World) : Prop := ∃ A c xs, e = .returned (.tuple #[.slice A xs.length c, .bool b]) ∧ Hid (xs = limbs N) ∧ RN w' A c xs ∧ Below w.heap.size w w'

/-- The difference so far. -/
def SubI (x y p : List Int) (k : Nat) (q : Int) : Prop := Lim p ∧ p.length = x.length ∧ (∀ j, k ≤ j → dg p j = 0) ∧ V p - q * pw k = S (dg x) k - S (dg y) k
theorem sub_start (x y : List Int) : SubI x y (List.replicate x.length 0) 0 0 := ⟨Lim.replicate _, by simp, fun j _ => dg_replicate _ j, by rw [V_replicate, S_zero, S_zero]; simp⟩
theorem sub_round {x y p : List Int} {k : Nat} {q d q' : Int} (h : SubI x y p k q) (hk : k < x.length) (hd : d - q' * 4294967296 = dg x k - (q + dg y k)) (h0 : 0 ≤ d) (h1 : d ≤ 4294967295) : SubI x y (p.set k d) (k + 1) q' := by
  obtain ⟨a1, a2, a3, a4⟩ := h
  refine ⟨a1.set _ h0 h1, by simp [a2], fun j hj => ?_, ?_⟩
  · rw [dg_set, if_neg (fun h => by have := h.1; omega)]; exact a3 j (by omega)
  · rw [V_set (by omega), a3 k (Nat.le_refl _), S_succ, S_succ, pw_succ, ← Int.mul_assoc, Int.sub_zero]
    have e : d * pw k - q' * 4294967296 * pw k = dg x k * pw k - q * pw k - dg y k * pw k := by
      rw [← Int.sub_mul, hd, Int.sub_mul, Int.add_mul]
      omega
    omega
theorem sub_end {x y p : List Int} {q : Int} (h : SubI x y p x.length q) (hy : Lim y) (hl : y.length ≤ x.length) (hv : V y ≤ V x) (hq : 0 ≤ q) : V p = V x - V y := by
  obtain ⟨a1, a2, a3, a4⟩ := h
  rw [V_at hl] at a4
  have h1 := V_lt a1
  rw [a2] at h1
  have h2 := pw_pos x.length
  rcases (show q = 0 ∨ 1 ≤ q by omega) with rfl | h3
  · rw [Int.zero_mul, Int.sub_zero] at a4; exact a4
  · have : 1 * pw x.length ≤ q * pw x.length := Int.mul_le_mul_of_nonneg_right h3 (by omega)
    have a5 : V p - q * pw x.length = V x - V y := a4
    omega

set_option maxHeartbeats 800000 in
theorem sub_no (w : World) (A B : Option Addr) (c d : Nat) (xs ys : List Int) (hx : RN w A c xs) (hy : RN w B d ys) (hv : V xs < V ys) :
    Calls Try.prog 99 #[.slice A xs.length c, .slice B ys.length d] w (RetNB 0 false w) := by
  have HVx := Lib.hid (V_nrm hx.2)
  have HVy := Lib.hid (V_nrm hy.2)
  have HV := Lib.hid hv
  clear hv
  go_enter Try.func99, Try.ntmps99
  go_wp2_with fail
  refine (trim_ok _ A c xs hx).mono ?_
  rintro e w1 ⟨rfl, x, rfl, HX, hx'⟩
  go_wp2_with fail
  refine (trim_ok _ B d ys hy).mono ?_
  rintro e w1 ⟨rfl, y, rfl, HY, hy'⟩
  go_wp2_with fail
  refine (cmp_ok _ A B _ _ x y hx' hy').mono ?_
  rintro e w1 ⟨n, rfl, rfl⟩
  have e1 : cmpI (V x) (V y) = -1 := cmpI_lt (by rw [HX.out, HY.out, HVx.out, HVy.out]; exact HV.out)
  rw [e1]
  clear e1
  go_wp2_with fail
  go_ret2
  exact ⟨none, 0, [], rfl, rfl, RN.nil _, below_drewN (Below.refl _ _) _⟩

/-- A number in memory that is new, and a bool. -/
def RetFB (N : Nat) (b : Bool) (w : World) (e : Ending) (w' : World) : Prop := ∃ g c xs, w.heap.size ≤ g ∧ e = .returned (.tuple #[.slice (some ⟨g, 0, none⟩) xs.length c, .bool b]) ∧ Hid (xs = limbs N) ∧ RN w' (some ⟨g, 0, none⟩) c xs ∧ Below w.heap.size w w'
set_option maxHeartbeats 800000 in
theorem sub_f (w : World) (A B : Option Addr) (c d : Nat) (xs ys : List Int) (hx : RN w A c xs) (hy : RN w B d ys) (hv : V ys ≤ V xs) (hs : xs.length ≤ 70368744177664) :
    Calls Try.prog 99 #[.slice A xs.length c, .slice B ys.length d] w (RetFB ((V xs).toNat - (V ys).toNat) true w) := by
  have HVx := Lib.hid (V_nrm hx.2)
  have HVy := Lib.hid (V_nrm hy.2)
  have HV := Lib.hid hv
  have hlx := nrm_len hx.2
  have HLx := Lib.hid hx.2
  have HLy := Lib.hid hy.2
  clear hv
  obtain ⟨i0, hi, hz0, hz1, hz2⟩ := info_parts info_u32
  go_enter Try.func99, Try.ntmps99
  go_wp2_with fail
  refine (trim_ok _ A c xs hx).mono ?_
  rintro e w1 ⟨rfl, x, rfl, HX, hx'⟩
  go_wp2_with fail
  refine (trim_ok _ B d ys hy).mono ?_
  rintro e w1 ⟨rfl, y, rfl, HY, hy'⟩
  rw [← HX.out] at hlx
  go_wp2_with fail
  refine (cmp_ok _ A B _ _ x y hx' hy').mono ?_
  rintro e w1 ⟨n, rfl, rfl⟩
  have EX : V x = V xs := by rw [HX.out]; exact HVx.out
  have EY : V y = V ys := by rw [HY.out]; exact HVy.out
  have hc : cmpI (V x) (V y) = 0 ∨ cmpI (V x) (V y) = 1 := by
    have := HV.out
    rcases (show V x = V y ∨ V y < V x by omega) with h | h
    · exact .inl (cmpI_eq h)
    · exact .inr (cmpI_gt h)
  have hb : Below w.heap.size w (w.drewN n) := below_drewN (Below.refl _ _) _
  have NX : Nf x := by rw [HX.out]; exact nrm_nf _
  have NY : Nf y := by rw [HY.out]; exact nrm_nf _
  have hlen : y.length ≤ x.length := by
    rcases Nat.lt_or_ge x.length y.length with h | h
    · have h1 := NX.lt_of_len NY h
      have h2 := HV.out
      omega
    · exact h
  have HEX := Lib.hid EX
  have HEY := Lib.hid EY
  have RX := Lib.hid (hx'.below hb)
  have RY := Lib.hid (hy'.below hb)
  have HB0 := Lib.hid hb
  clear EX EY hb NX NY HX HY HVx HVy hx hy hx' hy'
  have hmk := mk_make 29 95 i0 .u32 Try.underlying29 hi hz0 hz1 (x.length : Int) (by omega) (by rw [hz2]; omega) (by omega)
  rw [Int.toNat_natCast] at hmk
  have hc1 : decide (cmpI (V x) (V y) < 0) = false := by rcases hc with h | h <;> rw [h] <;> rfl
  clear hc
  go_wp2_with fail
  clear hmk hc1
  go_loopw [9, 27] (fun bv iv wr => ∃ (k : Nat) (q : Int) (p : List Int), k ≤ x.length ∧ iv = .int .i64 (k : Int) ∧ bv = .int .u64 q ∧ 0 ≤ q ∧ q ≤ 1 ∧ Hid (SubI x y p k q) ∧ Bk wr w.heap.size 95 .u32 p ∧ Hid (Below w.heap.size w wr)) (fun _ iv _ => x.length - (intOf iv).toNat)
  case atStart => exact ⟨0, 0, _, Nat.zero_le _, rfl, rfl, Int.le_refl _, by omega, sub_start x y, Bk.made (w := w.drewN n) _, HB0.out.alloc (Nat.le_refl _) _⟩
  case round =>
    obtain ⟨k, q, p, hk, rfl, rfl, hq0, hq1, HI, HB, HW⟩ := hrel
    by_cases hlt : k < x.length
    · have hW : Below (w.drewN n).heap.size (w.drewN n) wr := ⟨HW.out.os, HW.out.tape, HW.out.output, HW.out.size, HW.out.block⟩
      obtain ⟨ad, rfl, hcx⟩ := ((RX.out).below hW).1.2.2 k hlt
      have bx := (RX.out).2 k
      have by' := (RY.out).2 k
      obtain ⟨hcp, hfp⟩ := HB.cell (j := k) (by have := HI.out.2.1; omega)
      by_cases hlt2 : k < y.length
      · obtain ⟨bd, rfl, hcy⟩ := ((RY.out).below hW).1.2.2 k hlt2
        clear hW
        by_cases hb : dg x k < q + dg y k
        · have HS := Lib.hid (sub_round (q' := 1) HI.out hlt (show dg x k + 4294967296 - (q + dg y k) - 1 * 4294967296 = dg x k - (q + dg y k) by omega) (by omega) (by omega))
          go_wp2_with fail
          go_roundw
          case rel => exact ⟨k + 1, 1, p.set k (dg x k + 4294967296 - (q + dg y k)), by omega, by go_num, rfl, by omega, by omega, HS, by first | exact HB.set _ _ | (have := HB.set k (dg x k + 4294967296 - (q + dg y k)); simpa using this), by first | exact below_set HW.out (Nat.le_refl _) _⟩
          case measure => simp [intOf]; omega
        · have HS := Lib.hid (sub_round (q' := 0) HI.out hlt (show dg x k - (q + dg y k) - 0 * 4294967296 = dg x k - (q + dg y k) by omega) (by omega) (by omega))
          have hd : decide (dg x k < q + dg y k) = false := decide_eq_false hb
          go_wp2_with fail
          go_roundw
          case rel => exact ⟨k + 1, 0, p.set k (dg x k - (q + dg y k)), by omega, by go_num, rfl, by omega, by omega, HS, by first | exact HB.set _ _ | (have := HB.set k (dg x k - (q + dg y k)); simpa using this), by first | exact below_set HW.out (Nat.le_refl _) _⟩
          case measure => simp [intOf]; omega
      · clear hW
        have hd0 : decide (k < y.length) = false := decide_eq_false hlt2
        have hb0 : dg y k = 0 := dg_ge (by omega)
        by_cases hb : dg x k < q
        · have HS := Lib.hid (sub_round (q' := 1) HI.out hlt (show dg x k + 4294967296 - q - 1 * 4294967296 = dg x k - (q + dg y k) by omega) (by omega) (by omega))
          clear hb0
          go_wp2_with fail
          go_roundw
          case rel => exact ⟨k + 1, 1, p.set k (dg x k + 4294967296 - q), by omega, by go_num, rfl, by omega, by omega, HS, by first | exact HB.set _ _ | (have := HB.set k (dg x k + 4294967296 - q); simpa using this), by first | exact below_set HW.out (Nat.le_refl _) _⟩
          case measure => simp [intOf]; omega
        · have HS := Lib.hid (sub_round (q' := 0) HI.out hlt (show dg x k - q - 0 * 4294967296 = dg x k - (q + dg y k) by omega) (by omega) (by omega))
          have hd : decide (dg x k < q) = false := decide_eq_false hb
          clear hb0
          go_wp2_with fail
          go_roundw
          case rel => exact ⟨k + 1, 0, p.set k (dg x k - q), by omega, by go_num, rfl, by omega, by omega, HS, by first | exact HB.set _ _ | (have := HB.set k (dg x k - q); simpa using this), by first | exact below_set HW.out (Nat.le_refl _) _⟩
          case measure => simp [intOf]; omega
    · obtain rfl : k = x.length := by omega
      have hpl : p.length = x.length := HI.out.2.1
      have hR := HB.reads (by omega)
      have e2 : (V x - V y).toNat = (V xs).toNat - (V ys).toNat := by
        have h1 := HEX.out
        have h2 := HEY.out
        have h3 := HV.out
        have h4 := V_nonneg HLx.out
        have h5 := V_nonneg HLy.out
        omega
      have e3 : V y ≤ V x := by rw [HEX.out, HEY.out]; exact HV.out
      have e4 := sub_end HI.out RY.out.2 hlen e3 hq0
      have HE2 := Lib.hid e2
      have HE4 := Lib.hid e4
      have HP := Lib.hid hpl
      clear e2 e3 e4 hpl
      go_wp2_with fail
      rw [← HP.out]
      refine (trim_ok _ _ _ p ⟨hR, HI.out.1⟩).mono ?_
      rintro e w1 ⟨rfl, z, rfl, HZ, hz⟩
      clear hR
      go_wp2_with fail
      go_ret2
      refine ⟨w.heap.size, _, z, Nat.le_refl _, rfl, ?_, hz, HW.out⟩
      show z = _
      rw [HZ.out, ← HE2.out, ← HE4.out]
      rfl

theorem sub_yes (w : World) (A B : Option Addr) (c d : Nat) (xs ys : List Int) (hx : RN w A c xs) (hy : RN w B d ys) (hv : V ys ≤ V xs) (hs : xs.length ≤ 70368744177664) :
    Calls Try.prog 99 #[.slice A xs.length c, .slice B ys.length d] w (RetNB ((V xs).toNat - (V ys).toNat) true w) :=
  (sub_f w A B c d xs ys hx hy hv hs).mono fun _ _ h => by
    obtain ⟨g, c, xs, _, h1, h2, h3, h4⟩ := h
    exact ⟨_, c, xs, h1, h2, h3, h4⟩

end Go.Proofs.Ytgdlnmhpnlmofaa.M
