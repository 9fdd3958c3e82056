/- Dividing a number of the program by one limb. Dividing a number of the program by a number of one limb, or by a greater one. -/
import Derived.Test.YtocpncjmcaecoaaGreatNatE
namespace Go.Proofs.YtocpncjmcaecoaaGreat.M
set_option maxRecDepth 10000
open Go.RowKit
set_option linter.unusedVariables false

theorem or_nat {a b m : Nat} (hb : b < 2 ^ m) (hd : a % 2 ^ m = 0) : a ||| b = a + b := by
  obtain ⟨c, rfl⟩ : ∃ c, a = 2 ^ m * c := ⟨a / 2 ^ m, by have := Nat.div_add_mod a (2 ^ m); omega⟩
  exact (Nat.two_pow_add_eq_or_of_lt hb c).symm
theorem or32 (a b : Int) (ha : 0 ≤ a) (hb : 0 ≤ b) (hb2 : b < 4294967296) (hd : a % 4294967296 = 0) (hl : a ≤ 18446744073709551615) : Go.bits .or .u64 a b = a + b := by
  rw [u64_or a b ha (by omega) hb (by omega), or_nat (m := 32) (by omega) (by omega)]
  omega

/-- Dividing by one limb: the digits from k on have been done. -/
def DivI (a p : List Int) (d : Int) (k : Nat) (r : Int) : Prop := Lim p ∧ p.length = a.length ∧ (∀ j, j < k → dg p j = 0) ∧ 0 ≤ r ∧ r < d ∧ V a - S (dg a) k = V p * d + r * pw k
theorem div_start (a : List Int) {d : Int} (hd : 0 < d) : DivI a (List.replicate a.length 0) d a.length 0 := ⟨Lim.replicate _, by simp, fun j _ => dg_replicate _ j, Int.le_refl _, hd, by rw [V_replicate]; unfold V; omega⟩
theorem div_round {a p : List Int} {d r t : Int} {k : Nat} (h : DivI a p d (k + 1) r) (ha : Lim a) (hk : k < a.length) (hd : d ≤ 4294967295) (ht : r * 4294967296 + dg a k = t) : DivI a (p.set k (t / d)) d k (t % d) := by
  obtain ⟨a1, a2, a3, a4, a5, a6⟩ := h
  have hak := ha k
  have t0 : 0 ≤ t := by omega
  have h0 : 0 ≤ t / d := Int.ediv_nonneg t0 (by omega)
  have h1 : t / d ≤ 4294967295 := by
    have hr : r + 1 ≤ d := by omega
    have : t < 4294967296 * d := by omega
    have := Int.ediv_lt_of_lt_mul (by omega : 0 < d) this
    omega
  have h2 := Int.emod_nonneg t (by omega : d ≠ 0)
  have h3 := Int.emod_lt_of_pos t (by omega : 0 < d)
  have h4 := Int.mul_ediv_add_emod t d
  refine ⟨a1.set _ h0 h1, by simp [a2], fun j hj => ?_, h2, h3, ?_⟩
  · rw [dg_set, if_neg (fun h => by have := h.1; omega)]; exact a3 j (by omega)
  · rw [V_set (by omega), a3 k (by omega), Int.sub_zero]
    rw [S_succ, pw_succ, ← Int.mul_assoc] at a6
    have e : (t / d * d) * pw k + t % d * pw k = r * 4294967296 * pw k + dg a k * pw k := by
      rw [← Int.add_mul, ← Int.add_mul, Int.mul_comm (t / d) d, h4, ht]
    have e2 : t / d * pw k * d = t / d * d * pw k := by rw [Int.mul_assoc, Int.mul_comm (pw k) d, ← Int.mul_assoc]
    rw [Int.add_mul, e2]
    omega
theorem div_small_lt {a p : List Int} {d r x : Int} {k : Nat} (h : DivI a p d k r) (hx : 0 ≤ x ∧ x ≤ 4294967295) (hd : 0 < d) : 0 ≤ (r * 4294967296 + x) / d ∧ (r * 4294967296 + x) / d < 4294967296 := by
  obtain ⟨_, _, _, a4, a5, _⟩ := h
  refine ⟨Int.ediv_nonneg (by omega) (by omega), Int.ediv_lt_of_lt_mul hd ?_⟩
  have : r + 1 ≤ d := by omega
  omega
theorem div_end {a p : List Int} {d r : Int} (h : DivI a p d 0 r) : V p = V a / d ∧ r = V a % d := by
  obtain ⟨a1, a2, a3, a4, a5, a6⟩ := h
  rw [S_zero, pw_zero] at a6
  have e : V a = r + d * V p := by rw [Int.mul_comm d]; omega
  rw [e]
  constructor
  · rw [Int.add_mul_ediv_left _ _ (by omega), Int.ediv_eq_zero_of_lt a4 a5]; omega
  · rw [Int.add_mul_emod_self_left, Int.emod_eq_of_lt a4 a5]

/-- A quotient and a remainder below 2^32. -/
def RetNU (N : Nat) (r : Int) (w : World) (e : Ending) (w' : World) : Prop := ∃ A c xs, e = .returned (.tuple #[.slice A xs.length c, .int .u32 r]) ∧ Hid (xs = limbs N) ∧ RN w' A c xs ∧ Below w.heap.size w w'

set_option maxHeartbeats 800000 in
theorem divSmall_ok (w : World) (A : Option Addr) (c : Nat) (xs : List Int) (d : Int) (hx : RN w A c xs) (hd0 : 0 < d) (hd1 : d ≤ 4294967295) (hs : xs.length ≤ 70368744177664) :
    Calls Tryz.prog 113 #[.slice A xs.length c, .int .u32 d] w (RetNU (V xs / d).toNat (V xs % d) w) := by
  obtain ⟨i0, hi, hz0, hz1, hz2⟩ := info_parts info_u32
  have RX := Lib.hid hx
  clear hx
  have hmk := mk_make 24 83 i0 .u32 Tryz.underlying24 hi hz0 hz1 (xs.length : Int) (by omega) (by rw [hz2]; omega) (by omega)
  rw [Int.toNat_natCast] at hmk
  go_enter Tryz.func113, Tryz.ntmps113
  go_wp2_with fail
  clear hmk
  go_loopw [7, 8] (fun rv iv wr => ∃ (k : Nat) (r : Int) (p : List Int), k ≤ xs.length ∧ iv = .int .i64 ((k : Int) - 1) ∧ rv = .int .u64 r ∧ 0 ≤ r ∧ r ≤ 4294967294 ∧ Hid (DivI xs p d k r) ∧ Bk wr w.heap.size 83 .u32 p ∧ Hid (Below w.heap.size w wr)) (fun _ iv _ => (intOf iv + 1).toNat)
  case atStart => exact ⟨xs.length, 0, _, Nat.le_refl _, rfl, rfl, Int.le_refl _, by omega, div_start xs hd0, Bk.made _, (Below.refl _ _).alloc (Nat.le_refl _) _⟩
  case round =>
    obtain ⟨k, r, p, hk, rfl, rfl, hr0, hr1, HI, HB, HW⟩ := hrel
    by_cases h0 : k = 0
    · subst h0
      have hpl : p.length = xs.length := HI.out.2.1
      have hR := HB.reads (by omega)
      have HP := Lib.hid hpl
      clear hpl
      go_wp2_with fail
      rw [← HP.out]
      refine (trim_ok _ _ _ p ⟨hR, HI.out.1⟩).mono ?_
      rintro e w1 ⟨rfl, z, rfl, HZ, hz⟩
      clear hR
      go_wp2_with fail
      go_ret2
      obtain ⟨e1, e2⟩ := div_end HI.out
      refine ⟨_, _, z, ?_, ?_, hz, HW.out⟩
      · rw [← e2]; rfl
      · show z = _
        rw [HZ.out, ← e1]
        rfl
    · obtain ⟨j, rfl⟩ : ∃ j, k = j + 1 := ⟨k - 1, by omega⟩
      have ej : ((j + 1 : Nat) : Int) - 1 = (j : Int) := by omega
      rw [ej]
      clear ej h0
      obtain ⟨ad, rfl, hcx⟩ := ((RX.out).below HW.out).1.2.2 j (by omega)
      have bx := (RX.out).2 j
      obtain ⟨hcp, hfp⟩ := HB.cell (j := j) (by have := HI.out.2.1; omega)
      have HS := Lib.hid (div_round HI.out RX.out.2 (by omega) hd1 rfl)
      have hor := or32 (r * 4294967296) (dg xs j) (by omega) bx.1 (by omega) (by omega) (by omega)
      go_wp2_with fail
      go_roundw
      case rel =>
        have h2 := Int.emod_nonneg (r * 4294967296 + dg xs j) (by omega : d ≠ 0)
        have h3 := Int.emod_lt_of_pos (r * 4294967296 + dg xs j) hd0
        have hq := div_small_lt HI.out bx hd0
        rw [Int.emod_eq_of_lt hq.1 hq.2]
        exact ⟨j, _, p.set j ((r * 4294967296 + dg xs j) / d), by omega, rfl, rfl, h2, by omega, HS, HB.set _ _, below_set HW.out (Nat.le_refl _) _⟩
      case measure => simp [intOf]

end Go.Proofs.YtocpncjmcaecoaaGreat.M
namespace Go.Proofs.YtocpncjmcaecoaaGreat.M
set_option maxRecDepth 10000
open Go.RowKit
set_option linter.unusedVariables false

theorem toNat_div {a b : Int} (ha : 0 ≤ a) (hb : 0 ≤ b) : (a / b).toNat = a.toNat / b.toNat := by
  obtain ⟨m, rfl⟩ := Int.eq_ofNat_of_zero_le ha
  obtain ⟨n, rfl⟩ := Int.eq_ofNat_of_zero_le hb
  rw [← Int.natCast_ediv]
  simp only [Int.toNat_natCast]
theorem toNat_mod {a b : Int} (ha : 0 ≤ a) (hb : 0 ≤ b) : (a % b).toNat = a.toNat % b.toNat := by
  obtain ⟨m, rfl⟩ := Int.eq_ofNat_of_zero_le ha
  obtain ⟨n, rfl⟩ := Int.eq_ofNat_of_zero_le hb
  rw [← Int.natCast_emod]
  simp only [Int.toNat_natCast]
/-- A quotient, a remainder and true. -/
def RetQR (q r : Nat) (w : World) (e : Ending) (w' : World) : Prop := ∃ A c xs B d ys, e = .returned (.tuple #[.slice A xs.length c, .slice B ys.length d, .bool true]) ∧ Hid (xs = limbs q) ∧ Hid (ys = limbs r) ∧ RN w' A c xs ∧ RN w' B d ys ∧ Below w.heap.size w w'

/-- A number of one limb. -/
theorem one_limb {y : List Int} (h : Nf y) (h0 : 0 < V y) (h1 : V y ≤ 4294967295) : y.length = 1 ∧ dg y 0 = V y := by
  have hl : y.length = 1 := by
    rcases (show y.length = 0 ∨ y.length = 1 ∨ 2 ≤ y.length by omega) with h2 | h2 | h2
    · rw [List.length_eq_zero_iff.1 h2, V_nil] at h0; omega
    · exact h2
    · have h3 := h.pos (by omega)
      have h4 := pw_le (show 1 ≤ y.length - 1 by omega)
      rw [pw_succ, pw_zero] at h4
      omega
  refine ⟨hl, ?_⟩
  unfold V
  rw [hl, S_succ, S_zero, pw_zero]
  omega

set_option maxHeartbeats 800000 in
theorem divMod_less (w : World) (A B : Option Addr) (c d : Nat) (xs ys : List Int) (hx : RN w A c xs) (hy : RN w B d ys) (hv : V xs < V ys) (hs : xs.length ≤ 70368744177664) :
    Calls Tryz.prog 85 #[.slice A xs.length c, .slice B ys.length d] w (RetQR ((V xs).toNat / (V ys).toNat) ((V xs).toNat % (V ys).toNat) w) := by
  have HVx := Lib.hid (V_nrm hx.2)
  have HVy := Lib.hid (V_nrm hy.2)
  have HV := Lib.hid hv
  have hlx := nrm_len hx.2
  have HX0 := Lib.hid (V_nonneg hx.2)
  clear hv
  go_enter Tryz.func85, Tryz.ntmps85
  go_wp2_with fail
  refine (trim_ok _ A c xs hx).mono ?_
  rintro e w1 ⟨rfl, x, rfl, HX, hx'⟩
  go_wp2_with fail
  refine (trim_ok _ B d ys hy).mono ?_
  rintro e w1 ⟨rfl, y, rfl, HY, hy'⟩
  rw [← HX.out] at hlx
  have EX : V x = V xs := by rw [HX.out]; exact HVx.out
  have EY : V y = V ys := by rw [HY.out]; exact HVy.out
  have NY : Nf y := by rw [HY.out]; exact nrm_nf _
  have hy0 : y.length ≠ 0 := by
    intro h
    have h1 := HV.out
    have h2 := HX0.out
    rw [← EY, List.length_eq_zero_iff.1 h, V_nil] at h1
    omega
  have hb : ((y.length : Int) == 0) = false := beq_eq_false_iff_ne.2 (by omega)
  have HEX := Lib.hid EX
  have HEY := Lib.hid EY
  clear EX EY NY hy0 HX HY HVx HVy
  go_wp2_with fail
  refine (cmp_ok _ A B _ _ x y hx' hy').mono ?_
  rintro e w1 ⟨n, rfl, rfl⟩
  have e1 : cmpI (V x) (V y) = -1 := cmpI_lt (by rw [HEX.out, HEY.out]; exact HV.out)
  rw [e1]
  clear e1
  have hw : Below w.heap.size w (w.drewN n) := below_drewN (Below.refl _ _) _
  go_wp2_with fail
  refine (norm_ok _ A _ x (hx'.below hw) (by omega)).mono ?_
  rintro e w1 ⟨A2, c2, z, rfl, HZ, hz, hB⟩
  have HB := Lib.hid (below_seq hw hB)
  clear hw hB
  go_wp2_with fail
  go_ret3
  have h1 := HV.out
  have h2 := HX0.out
  refine ⟨none, 0, [], A2, c2, z, rfl, ?_, ?_, RN.nil _, hz, HB.out⟩
  · show [] = _
    rw [Nat.div_eq_of_lt (by omega), limbs_zero]
  · show z = _
    rw [HZ.out, HEX.out, Nat.mod_eq_of_lt (by omega)]

set_option maxHeartbeats 800000 in
theorem divMod_small (w : World) (A B : Option Addr) (c d : Nat) (xs ys : List Int) (hx : RN w A c xs) (hy : RN w B d ys) (hv0 : 0 < V ys) (hv1 : V ys ≤ 4294967295) (hs : xs.length ≤ 70368744177664) :
    Calls Tryz.prog 85 #[.slice A xs.length c, .slice B ys.length d] w (RetQR ((V xs).toNat / (V ys).toNat) ((V xs).toNat % (V ys).toNat) w) := by
  by_cases hv : V xs < V ys
  · exact divMod_less w A B c d xs ys hx hy hv hs
  have HVx := Lib.hid (V_nrm hx.2)
  have HVy := Lib.hid (V_nrm hy.2)
  have HV := Lib.hid hv
  have HV0 := Lib.hid hv0
  have HV1 := Lib.hid hv1
  have hlx := nrm_len hx.2
  have HX0 := Lib.hid (V_nonneg hx.2)
  clear hv hv0 hv1
  go_enter Tryz.func85, Tryz.ntmps85
  go_wp2_with fail
  refine (trim_ok _ A c xs hx).mono ?_
  rintro e w1 ⟨rfl, x, rfl, HX, hx'⟩
  go_wp2_with fail
  refine (trim_ok _ B d ys hy).mono ?_
  rintro e w1 ⟨rfl, y, rfl, HY, hy'⟩
  rw [← HX.out] at hlx
  have EX : V x = V xs := by rw [HX.out]; exact HVx.out
  have EY : V y = V ys := by rw [HY.out]; exact HVy.out
  have NY : Nf y := by rw [HY.out]; exact nrm_nf _
  obtain ⟨hl1, hdg⟩ := one_limb NY (by rw [EY]; exact HV0.out) (by rw [EY]; exact HV1.out)
  obtain ⟨y0, rfl⟩ : ∃ y0, y = [y0] := by
    match y, hl1 with
    | [y0], _ => exact ⟨y0, rfl⟩
  rw [dg_cons0] at hdg
  have hcy := hy'.1.2.2 0 (by simp)
  rw [dg_cons0] at hcy
  have hc : cmpI (V x) (V [y0]) = 0 ∨ cmpI (V x) (V [y0]) = 1 := by
    have := HV.out
    rcases (show V x = V [y0] ∨ V [y0] < V x by omega) with h | h
    · exact .inl (cmpI_eq h)
    · exact .inr (cmpI_gt h)
  have hb1 : 0 < y0 := by rw [hdg, EY]; exact HV0.out
  have hb2 : y0 ≤ 4294967295 := by rw [hdg, EY]; exact HV1.out
  have HEX := Lib.hid EX
  have HEY := Lib.hid (hdg.trans EY)
  clear EX EY NY HX HY HVx HVy hl1 hdg
  obtain ⟨bd, rfl, hcy⟩ := hcy
  simp only [Addr.add, if_true] at hcy
  go_wp2_with fail
  refine (cmp_ok _ A (some bd) _ _ x [y0] hx' hy').mono ?_
  rintro e w1 ⟨n, rfl, rfl⟩
  have hw : Below w.heap.size w (w.drewN n) := below_drewN (Below.refl _ _) _
  have RX := Lib.hid (hx'.below hw)
  have HW := Lib.hid hw
  clear hx hy hx' hy' hw
  have hc1 : decide (cmpI (V x) (V [y0]) < 0) = false := by rcases hc with h | h <;> rw [h] <;> rfl
  clear hc
  go_wp2_with fail
  clear hc1
  refine (divSmall_ok _ A _ x y0 RX.out hb1 hb2 (by omega)).mono ?_
  rintro e w1 ⟨A2, c2, z, rfl, HZ, hz, hB⟩
  have HB := Lib.hid (below_seq HW.out hB)
  have RZ := Lib.hid hz
  have hr0 := Int.emod_nonneg (V x) (by omega : y0 ≠ 0)
  have hr1 := Int.emod_lt_of_pos (V x) hb1
  clear hB hz
  go_wp2_with fail
  refine (of_ok _ (V x % y0) hr0 (by omega)).mono ?_
  rintro e w2 ⟨A3, c3, t, rfl, HT, ht, hB⟩
  have HB2 := Lib.hid (below_seq HB.out hB)
  have RZ2 := Lib.hid (RZ.out.below hB)
  clear hB
  go_wp2_with fail
  go_ret3
  have h1 := HEX.out
  have h2 := HEY.out
  have h3 := HX0.out
  have h4 := HV0.out
  refine ⟨A2, c2, z, A3, c3, t, rfl, ?_, ?_, RZ2.out, ht, HB2.out⟩
  · show z = _
    rw [HZ.out, h1, h2, toNat_div h3 (by omega)]
  · show t = _
    rw [HT.out, h1, h2, toNat_mod h3 (by omega)]

end Go.Proofs.YtocpncjmcaecoaaGreat.M
