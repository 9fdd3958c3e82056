/- The reference: Sub, short. -/
import Derived.Test.YtgdlnmhpnlmofaaRefD
namespace Go.Proofs.Ytgdlnmhpnlmofaa.M
set_option maxRecDepth 10000
open Go.RowKit
set_option linter.unusedVariables false

theorem S_short {y : List Int} {n : Nat} (hy : Lim y) (h : V y < pw n) : S (dg y) n = V y := by
  rcases Nat.le_total y.length n with h1 | h1
  · exact V_at h1
  · have e : V y = S (dg y) n + pw n * S (fun j => dg y (n + j)) (y.length - n) := by
      rw [← S_split, show n + (y.length - n) = y.length by omega]
      rfl
    have h2 := (S_bound (f := dg y) (k := n) (fun j _ => hy j)).1
    have h3 := (S_bound (f := fun j => dg y (n + j)) (k := y.length - n) (fun j _ => hy _)).1
    have h4 := pw_pos n
    generalize S (fun j => dg y (n + j)) (y.length - n) = r at *
    rcases (show r = 0 ∨ 1 ≤ r by omega) with rfl | h5
    · rw [e, Int.mul_zero, Int.add_zero]
    · have : pw n * 1 ≤ pw n * r := Int.mul_le_mul_of_nonneg_left h5 (by omega)
      omega
theorem sub_end' {x y p : List Int} {q : Int} (h : SubI x y p x.length q) (hx : Lim x) (hy : Lim y) (hv : V y ≤ V x) (hq : 0 ≤ q) : V p = V x - V y := by
  obtain ⟨a1, a2, a3, a4⟩ := h
  have h0 := V_lt hx
  rw [S_short hy (by omega)] at a4
  have h1 := V_lt a1
  rw [a2] at h1
  have h2 := pw_pos x.length
  rcases (show q = 0 ∨ 1 ≤ q by omega) with rfl | h3
  · rw [Int.zero_mul, Int.sub_zero] at a4; exact a4
  · have : 1 * pw x.length ≤ q * pw x.length := Int.mul_le_mul_of_nonneg_right h3 (by omega)
    have a5 : V p - q * pw x.length = V x - V y := a4
    omega

set_option maxHeartbeats 800000 in
theorem rsub_no (w : World) (A B : Option Addr) (c d : Nat) (xs ys : List Int) (hx : RN w A c xs) (hy : RN w B d ys) (hv : V xs < V ys) :
    Calls Try.prog 87 #[.slice A xs.length c, .slice B ys.length d] w (RetNB 0 false w) := by
  have HV := Lib.hid hv
  clear hv
  go_enter Try.func87, Try.ntmps87
  go_wp2_with fail
  refine (rcmp_ok _ A B _ _ xs ys hx hy).mono ?_
  rintro e w1 ⟨n, rfl, rfl⟩
  rw [cmpI_lt HV.out]
  go_wp2_with fail
  go_ret2
  exact ⟨none, 0, [], rfl, rfl, RN.nil _, below_drewN (Below.refl _ _) _⟩

set_option maxHeartbeats 800000 in
theorem rsub_f (w : World) (A B : Option Addr) (c d : Nat) (x y : List Int) (hx : RN w A c x) (hy : RN w B d y) (hv : V y ≤ V x) (hs : x.length ≤ 70368744177664) :
    Calls Try.prog 87 #[.slice A x.length c, .slice B y.length d] w (RetFB ((V x).toNat - (V y).toNat) true w) := by
  obtain ⟨i0, hi, hz0, hz1, hz2⟩ := info_parts info_u32
  have HV := Lib.hid hv
  clear hv
  go_enter Try.func87, Try.ntmps87
  go_wp2_with fail
  refine (rcmp_ok _ A B _ _ x y hx hy).mono ?_
  rintro e w1 ⟨n, rfl, rfl⟩
  have hb : Below w.heap.size w (w.drewN n) := below_drewN (Below.refl _ _) _
  have hc : cmpI (V x) (V y) = 0 ∨ cmpI (V x) (V y) = 1 := by
    have := HV.out
    rcases (show V x = V y ∨ V y < V x by omega) with h | h
    · exact .inl (cmpI_eq h)
    · exact .inr (cmpI_gt h)
  have RX := Lib.hid (hx.below hb)
  have RY := Lib.hid (hy.below hb)
  have HB0 := Lib.hid hb
  clear hb hx hy
  have hmk := mk_make 29 95 i0 .u32 Try.underlying29 hi hz0 hz1 (x.length : Int) (by omega) (by rw [hz2]; omega) (by omega)
  rw [Int.toNat_natCast] at hmk
  have hc1 : decide (cmpI (V x) (V y) < 0) = false := by rcases hc with h | h <;> rw [h] <;> rfl
  clear hc
  go_wp2_with fail
  clear hmk hc1
  go_loopw [7, 8] (fun bv iv wr => ∃ (k : Nat) (q : Int) (p : List Int), k ≤ x.length ∧ iv = .int .i64 (k : Int) ∧ bv = .int .u64 q ∧ 0 ≤ q ∧ q ≤ 1 ∧ Hid (SubI x y p k q) ∧ Bk wr w.heap.size 95 .u32 p ∧ Hid (Below w.heap.size w wr)) (fun _ iv _ => x.length - (intOf iv).toNat)
  case atStart => exact ⟨0, 0, _, Nat.zero_le _, rfl, rfl, Int.le_refl _, by omega, sub_start x y, Bk.made (w := w.drewN n) _, HB0.out.alloc (Nat.le_refl _) _⟩
  case round =>
    obtain ⟨k, q, p, hk, rfl, rfl, hq0, hq1, HI, HB, HW⟩ := hrel
    have hW : Hid (Below (w.drewN n).heap.size (w.drewN n) wr) := ⟨HW.out.os, HW.out.tape, HW.out.output, HW.out.size, HW.out.block⟩
    by_cases hlt : k < x.length
    · have bx := (RX.out).2 k
      have by' := (RY.out).2 k
      obtain ⟨hcp, hfp⟩ := HB.cell (j := k) (by have := HI.out.2.1; omega)
      go_wp2_with fail
      refine (limb_ok _ A c x ((RX.out).below hW.out) (k : Int) (by omega)).mono ?_
      rintro e w1 ⟨rfl, rfl⟩
      rw [Int.toNat_natCast]
      go_wp2_with fail
      refine (limb_ok _ B d y ((RY.out).below hW.out) (k : Int) (by omega)).mono ?_
      rintro e w1 ⟨rfl, rfl⟩
      rw [Int.toNat_natCast]
      by_cases hb : dg x k < dg y k + q
      · have HS := Lib.hid (sub_round (q' := 1) HI.out hlt (show dg x k + 4294967296 - (dg y k + q) - 1 * 4294967296 = dg x k - (q + dg y k) by omega) (by omega) (by omega))
        go_wp2_with fail
        go_roundw
        case rel => exact ⟨k + 1, 1, p.set k (dg x k + 4294967296 - (dg y k + q)), by omega, by go_num, rfl, by omega, by omega, HS, by first | exact HB.set _ _ | (have := HB.set k (dg x k + 4294967296 - (dg y k + q)); simpa using this), by first | exact below_set HW.out (Nat.le_refl _) _⟩
        case measure => simp [intOf]; omega
      · have HS := Lib.hid (sub_round (q' := 0) HI.out hlt (show dg x k - (dg y k + q) - 0 * 4294967296 = dg x k - (q + dg y k) by omega) (by omega) (by omega))
        have hd : decide (dg x k < dg y k + q) = false := decide_eq_false hb
        go_wp2_with fail
        go_roundw
        case rel => exact ⟨k + 1, 0, p.set k (dg x k - (dg y k + q)), by omega, by go_num, rfl, by omega, by omega, HS, by first | exact HB.set _ _ | (have := HB.set k (dg x k - (dg y k + q)); simpa using this), by first | exact below_set HW.out (Nat.le_refl _) _⟩
        case measure => simp [intOf]; omega
    · obtain rfl : k = x.length := by omega
      have hpl : p.length = x.length := HI.out.2.1
      have hR := HB.reads (by omega)
      have hpl2 : p.length ≤ 70368744177664 := by omega
      have e4 := sub_end' HI.out RX.out.2 RY.out.2 HV.out hq0
      have e5 : (V p).toNat = (V x).toNat - (V y).toNat := by
        have h4 := V_nonneg RX.out.2
        have h5 := V_nonneg RY.out.2
        have := HV.out
        omega
      have HE := Lib.hid e5
      have HP := Lib.hid hpl
      clear e4 e5 hpl
      go_wp2_with fail
      rw [← HP.out]
      refine (rnorm_f _ _ _ p ⟨hR, HI.out.1⟩ hpl2).mono ?_
      rintro e w1 ⟨g1, c1, z, hg1, rfl, HZ, hz, hB⟩
      have HB1 := Lib.hid (below_seq HW.out hB)
      clear hR hB
      go_wp2_with fail
      go_ret2
      have hg2 := HW.out.size
      exact ⟨g1, _, z, Nat.le_trans hg2 hg1, rfl, by show z = _; rw [HZ.out, HE.out], hz, HB1.out⟩

theorem rsub_yes (w : World) (A B : Option Addr) (c d : Nat) (x y : List Int) (hx : RN w A c x) (hy : RN w B d y) (hv : V y ≤ V x) (hs : x.length ≤ 70368744177664) :
    Calls Try.prog 87 #[.slice A x.length c, .slice B y.length d] w (RetNB ((V x).toNat - (V y).toNat) true w) :=
  (rsub_f w A B c d x y hx hy hv hs).mono fun _ _ h => by
    obtain ⟨g, c, xs, _, h1, h2, h3, h4⟩ := h
    exact ⟨_, c, xs, h1, h2, h3, h4⟩

/-- A quotient and a remainder of 64 bits. -/
def RetNU64 (N : Nat) (r : Int) (w : World) (e : Ending) (w' : World) : Prop := ∃ A c xs, e = .returned (.tuple #[.slice A xs.length c, .int .u64 r]) ∧ Hid (xs = limbs N) ∧ RN w' A c xs ∧ Below w.heap.size w w'

set_option maxHeartbeats 800000 in
theorem rshort_ok (w : World) (A : Option Addr) (c : Nat) (xs : List Int) (d : Int) (hx : RN w A c xs) (hd0 : 0 < d) (hd1 : d ≤ 4294967295) (hs : xs.length ≤ 70368744177664) :
    Calls Try.prog 103 #[.slice A xs.length c, .int .u64 d] w (RetNU64 (V xs / d).toNat (V xs % d) w) := by
  obtain ⟨i0, hi, hz0, hz1, hz2⟩ := info_parts info_u32
  have RX := Lib.hid hx
  clear hx
  have hmk := mk_make 29 95 i0 .u32 Try.underlying29 hi hz0 hz1 (xs.length : Int) (by omega) (by rw [hz2]; omega) (by omega)
  rw [Int.toNat_natCast] at hmk
  go_enter Try.func103, Try.ntmps103
  go_wp2_with fail
  clear hmk
  go_loopw [7, 8] (fun rv iv wr => ∃ (k : Nat) (r : Int) (p : List Int), k ≤ xs.length ∧ iv = .int .i64 ((k : Int) - 1) ∧ rv = .int .u64 r ∧ 0 ≤ r ∧ r ≤ 4294967294 ∧ Hid (DivI xs p d k r) ∧ Bk wr w.heap.size 95 .u32 p ∧ Hid (Below w.heap.size w wr)) (fun _ iv _ => (intOf iv + 1).toNat)
  case atStart => exact ⟨xs.length, 0, _, Nat.le_refl _, rfl, rfl, Int.le_refl _, by omega, div_start xs hd0, Bk.made _, (Below.refl _ _).alloc (Nat.le_refl _) _⟩
  case round =>
    obtain ⟨k, r, p, hk, rfl, rfl, hr0, hr1, HI, HB, HW⟩ := hrel
    by_cases h0 : k = 0
    · subst h0
      have hpl : p.length = xs.length := HI.out.2.1
      have hR := HB.reads (by omega)
      have hpl2 : p.length ≤ 70368744177664 := by omega
      have HP := Lib.hid hpl
      clear hpl
      go_wp2_with fail
      rw [← HP.out]
      refine (rnorm_ok _ _ _ p ⟨hR, HI.out.1⟩ hpl2).mono ?_
      rintro e w1 ⟨A1, c1, z, rfl, HZ, hz, hB⟩
      have HB1 := Lib.hid (below_seq HW.out hB)
      clear hR hB
      go_wp2_with fail
      go_ret2
      obtain ⟨e1, e2⟩ := div_end HI.out
      refine ⟨_, _, z, ?_, ?_, hz, HB1.out⟩
      · rw [← e2]; rfl
      · show z = _
        rw [HZ.out, ← e1]
    · obtain ⟨j, rfl⟩ : ∃ j, k = j + 1 := ⟨k - 1, by omega⟩
      have ej : ((j + 1 : Nat) : Int) - 1 = (j : Int) := by omega
      rw [ej]
      clear ej h0
      obtain ⟨ad, rfl, hcx⟩ := ((RX.out).below HW.out).1.2.2 j (by omega)
      have bx := (RX.out).2 j
      obtain ⟨hcp, hfp⟩ := HB.cell (j := j) (by have := HI.out.2.1; omega)
      have HS := Lib.hid (div_round HI.out RX.out.2 (by omega) hd1 rfl)
      go_wp2_with fail
      go_roundw
      case rel =>
        have h2 := Int.emod_nonneg (r * 4294967296 + dg xs j) (by omega : d ≠ 0)
        have h3 := Int.emod_lt_of_pos (r * 4294967296 + dg xs j) hd0
        have hq := div_small_lt HI.out bx hd0
        rw [Int.emod_eq_of_lt hq.1 hq.2]
        exact ⟨j, _, p.set j ((r * 4294967296 + dg xs j) / d), by omega, rfl, rfl, h2, by omega, HS, HB.set _ _, below_set HW.out (Nat.le_refl _) _⟩
      case measure => simp [intOf]

end Go.Proofs.Ytgdlnmhpnlmofaa.M
