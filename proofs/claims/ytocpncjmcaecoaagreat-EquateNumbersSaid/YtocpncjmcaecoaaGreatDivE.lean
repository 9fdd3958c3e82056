/- Dividing by two limbs or more. -/
import Derived.Test.YtocpncjmcaecoaaGreatDivD
import Derived.StillTailTactics
namespace Go.Proofs.YtocpncjmcaecoaaGreat.M
set_option maxRecDepth 10000
open Go.RowKit
set_option linter.unusedVariables false
set_option linter.unusedSimpArgs false

theorem two_limbs {y : List Int} (h : Lim y) (h1 : 4294967295 < V y) : 2 ≤ y.length := by
  rcases (show y.length = 0 ∨ y.length = 1 ∨ 2 ≤ y.length by omega) with h2 | h2 | h2
  · rw [List.length_eq_zero_iff.1 h2, V_nil] at h1; omega
  · have := V_lt h
    rw [h2, pw_succ, pw_zero] at this
    omega
  · exact h2

/-- How far the divisor is shifted. -/
theorem norm_shift {y : List Int} {n1 : Nat} (h : Nf y) (hn : y.length = n1 + 1) : ∃ s : Nat, s < 32 ∧ 32 - (Lib.bitLen (dg y n1).toNat : Int) = (s : Int) ∧ V y * ((2 ^ s : Nat) : Int) < pw y.length := by
  have ht := h.1 n1
  have hne := h.2 (by omega)
  rw [hn, Nat.add_sub_cancel] at hne
  have hbb := Lib.bitLenAux_bounds 64 (dg y n1).toNat (by omega) (by omega)
  have hl := Lib.bitLen_le (dg y n1).toNat 32 (by omega) (by omega)
  have e : Lib.bitLenAux 64 (dg y n1).toNat = Lib.bitLen (dg y n1).toNat := rfl
  rw [e] at hbb
  obtain ⟨b1, _, b3⟩ := hbb
  generalize Lib.bitLen (dg y n1).toNat = b at *
  refine ⟨32 - b, by omega, by omega, ?_⟩
  have h1 : V y = S (dg y) n1 + dg y n1 * pw n1 := by unfold V; rw [hn, S_succ]
  have h2 := (S_bound (f := dg y) (k := n1) (fun i _ => h.1 i)).2
  have h3 : (dg y n1 + 1) * pw n1 ≤ ((2 ^ b : Nat) : Int) * pw n1 := Int.mul_le_mul_of_nonneg_right (by omega) (Int.le_of_lt (pw_pos _))
  rw [Int.add_mul, Int.one_mul] at h3
  have h4 : V y < ((2 ^ b : Nat) : Int) * pw n1 := by omega
  have h5 : V y * ((2 ^ (32 - b) : Nat) : Int) < ((2 ^ b : Nat) : Int) * pw n1 * ((2 ^ (32 - b) : Nat) : Int) := Int.mul_lt_mul_of_pos_right h4 (by have := Nat.two_pow_pos (32 - b); omega)
  have h6 : ((2 ^ b : Nat) : Int) * ((2 ^ (32 - b) : Nat) : Int) = 4294967296 := by
    rw [← Int.natCast_mul, ← Nat.pow_add, show b + (32 - b) = 32 by omega]
    rfl
  have h7 : ((2 ^ b : Nat) : Int) * pw n1 * ((2 ^ (32 - b) : Nat) : Int) = pw y.length := by
    rw [hn, pw_succ, ← h6]
    simp only [Int.mul_assoc, Int.mul_comm, Int.mul_left_comm]
  omega

theorem toNat_mul_nat {a : Int} {m : Nat} (h : 0 ≤ a) : ((m : Int) * a).toNat = m * a.toNat := by
  obtain ⟨b, rfl⟩ := Int.eq_ofNat_of_zero_le h
  rw [← Int.natCast_mul, Int.toNat_natCast, Int.toNat_natCast]
theorem trim_still (w : World) (A : Option Addr) (c m : Nat) (xs : List Int) (h : RN w A c xs) (hm : xs.length = m) :
    Calls Tryz.prog 89 #[.slice A m c] w fun e w' => e = .returned (.slice A (nrm xs).length (nrm xs).length) ∧ w' = w := by
  subst hm
  refine (trim_ok w A c xs h).mono ?_
  rintro e w' ⟨rfl, ys, rfl, HY, _⟩
  rw [← HY.out]
  exact ⟨rfl, rfl⟩
theorem shiftDown_m (w : World) (A : Option Addr) (c m : Nat) (xs : List Int) (s : Nat) (hx : RN w A c xs) (hm : xs.length = m) (hs : s < 32) (hl : m ≤ 70368744177664) :
    Calls Tryz.prog 119 #[.slice A m c, .int .u64 (s : Int)] w (RetN ((V xs).toNat / 2 ^ s) w) := by
  subst hm
  exact shiftDown_ok w A c xs s hx hs hl

theorem subtract_m (w : World) (g j cu : Nat) (U : List Int) (A : Option Addr) (cv : Nat) (v : List Int) (d : Int) (m m2 : Nat) (hm : m = v.length + 1) (hm2 : v.length = m2) (hU : Bk w g 83 .u32 U) (hlU : Lim U) (hv : RN w A cv v) (hne : ∀ ad, A = some ad → ad.block ≠ g)
    (hj : j + v.length < U.length) (hcu : v.length + 1 ≤ cu ∧ cu ≤ 9223372036854775807) (hd : 0 ≤ d ∧ d ≤ 4294967295) :
    Calls Tryz.prog 117 #[.slice (some ⟨g, j, none⟩) m cu, .slice A m2 cv, .int .u64 d] w
      (fun e w' => ∃ (p : List Int) (n : Bool), e = .returned (.bool n) ∧ Hid (SbI U v p j d (v.length + 1) (if n then 1 else 0) 0) ∧ Bk w' g 83 .u32 p ∧ w.grownBy w' (some g)) := by
  subst hm hm2
  exact subtract_ok w g j cu U A cv v d hU hlU hv hne hj hcu hd
theorem addBack_m (w : World) (g j cu : Nat) (U : List Int) (A : Option Addr) (cv : Nat) (v : List Int) (m m2 : Nat) (hm : m = v.length + 1) (hm2 : v.length = m2) (hU : Bk w g 83 .u32 U) (hlU : Lim U) (hv : RN w A cv v) (hne : ∀ ad, A = some ad → ad.block ≠ g)
    (hj : j + v.length < U.length) (hcu : v.length + 1 ≤ cu ∧ cu ≤ 9223372036854775807) :
    Calls Tryz.prog 118 #[.slice (some ⟨g, j, none⟩) m cu, .slice A m2 cv] w
      (fun e w' => ∃ (p : List Int) (c : Int), e = .returned (.tuple #[]) ∧ 0 ≤ c ∧ c ≤ 1 ∧ Hid (AbI U v p j (v.length + 1) c) ∧ Bk w' g 83 .u32 p ∧ w.grownBy w' (some g)) := by
  subst hm hm2
  exact addBack_ok w g j cu U A cv v hU hlU hv hne hj hcu

set_option maxRecDepth 8000 in
set_option maxHeartbeats 1600000 in
theorem divMod_big (w : World) (A B : Option Addr) (c d : Nat) (xs ys : List Int) (hx : RN w A c xs) (hy : RN w B d ys) (hv0 : 4294967295 < V ys) (hv : V ys ≤ V xs) (hs : xs.length ≤ 35184372088830) :
    Calls Tryz.prog 85 #[.slice A xs.length c, .slice B ys.length d] w (RetQR ((V xs).toNat / (V ys).toNat) ((V xs).toNat % (V ys).toNat) w) := by
  obtain ⟨i0, hi, hz0, hz1, hz2⟩ := info_parts info_u32
  have HVx := Lib.hid (V_nrm hx.2)
  have HVy := Lib.hid (V_nrm hy.2)
  have HV := Lib.hid hv
  have HV0 := Lib.hid hv0
  have hlx := nrm_len hx.2
  clear hv hv0
  go_enter Tryz.func85, Tryz.ntmps85
  go_wp2_with fail
  refine (trim_ok _ A c xs hx).mono ?_
  rintro e w1 ⟨rfl, x, rfl, HX, hx'⟩
  go_wp2_with fail
  refine (trim_ok _ B d ys hy).mono ?_
  rintro e w1 ⟨rfl, y, rfl, HY, hy'⟩
  rw [← HX.out] at hlx
  have EX : V x = V xs := by rw [HX.out]; exact HVx.out
  have EY : V y = V ys := by rw [HY.out]; exact HVy.out
  have NY : Nf y := by rw [HY.out]; exact nrm_nf _
  have hy2 : 2 ≤ y.length := two_limbs hy'.2 (by rw [EY]; exact HV0.out)
  have hyx : y.length ≤ x.length := by
    rcases Nat.lt_or_ge x.length y.length with h | h
    · have NX : Nf x := by rw [HX.out]; exact nrm_nf _
      have h1 := NX.lt_of_len NY h
      have h2 := HV.out
      rw [← EX, ← EY] at h2
      omega
    · exact h
  have hc : cmpI (V x) (V y) = 0 ∨ cmpI (V x) (V y) = 1 := by
    have := HV.out
    rw [← EX, ← EY] at this
    rcases (show V x = V y ∨ V y < V x by omega) with h | h
    · exact .inl (cmpI_eq h)
    · exact .inr (cmpI_gt h)
  have hb : ((y.length : Int) == 0) = false := beq_eq_false_iff_ne.2 (by omega)
  have hb1 : ((y.length : Int) == 1) = false := beq_eq_false_iff_ne.2 (by omega)
  have HEX := Lib.hid EX
  have HEY := Lib.hid EY
  have HNY := Lib.hid NY
  clear EX EY NY HX HY HVx HVy
  go_wp2_with fail
  refine (cmp_ok _ A B _ _ x y hx' hy').mono ?_
  rintro e w1 ⟨n, rfl, rfl⟩
  have hw : Below w.heap.size w (w.drewN n) := below_drewN (Below.refl _ _) _
  have RX := Lib.hid (hx'.below hw)
  have RY := Lib.hid (hy'.below hw)
  have HW := Lib.hid hw
  clear hx hy hx' hy' hw
  have hc1 : decide (cmpI (V x) (V y) < 0) = false := by rcases hc with h | h <;> rw [h] <;> rfl
  clear hc
  obtain ⟨n1, hn1⟩ : ∃ n1, y.length = n1 + 1 := ⟨y.length - 1, by omega⟩
  have he1 : (y.length : Int) - 1 = (n1 : Int) := by omega
  have HN1 := Lib.hid hn1
  obtain ⟨bd, rfl, hcy⟩ := RY.out.1.2.2 n1 (by omega)
  have hn1' : n1 < y.length := by omega
  obtain ⟨s, hs32, hse, hss⟩ := norm_shift HNY.out hn1
  have HSS := Lib.hid hss
  have HSE := Lib.hid hse
  have hyt := RY.out.2 n1
  have hs0 : (s : Int) % 18446744073709551616 = (s : Int) := by omega
  clear hn1 hss hse
  go_wp2_with fail
  refine (lz32_ok _ (dg y n1) hyt.1 hyt.2).mono ?_
  rintro e w1 ⟨rfl, rfl⟩
  rw [HSE.out]
  go_wp2_with fail
  refine (shiftUp_ok _ A _ x s RX.out hs32 (by omega)).mono ?_
  rintro e w2 ⟨U, rfl, HUl, HUL, HUV, hU, hB⟩
  have HB2 := Lib.hid (HW.out.trans (hB.mono HW.out.size))
  have RY2 := Lib.hid (RY.out.below hB)
  clear hB
  go_wp2_with fail
  refine (shiftUp_ok _ (some bd) _ y s RY2.out hs32 (by omega)).mono ?_
  rintro e w3 ⟨P, rfl, HPl, HPL, HPV, hP, hB⟩
  have HB3 := Lib.hid (HB2.out.trans (hB.mono HB2.out.size))
  have HU3 := Lib.hid (hU.below' hB)
  have HP3 := Lib.hid hP
  have hgu : (w.drewN n).heap.size < w2.heap.size := hU.lt
  have hgv3 : w2.heap.size < w3.heap.size := hP.lt
  clear hB hU hP
  have hmk := mk_make 24 83 i0 .u32 Tryz.underlying24 hi hz0 hz1 ((x.length : Int) - (y.length : Int) + 1) (by omega) (by rw [hz2]; omega) (by omega)
  go_wp2_with fail
  clear hmk
  obtain ⟨v, hv⟩ : ∃ v, v = P.take y.length := ⟨_, rfl⟩
  have hpy : Hid (∀ t, y.length ≤ t → dg P t = 0) := dg_high HPL.out (by rw [HPV.out]; exact HSS.out)
  have hvl : Hid (v.length = y.length) := by show _ = _; rw [hv, List.length_take, HPl.out]; omega
  have hvL : Hid (Lim v) := by show Lim v; rw [hv]; exact HPL.out.take _
  have hvV : Hid (V v = V y * ((2 ^ s : Nat) : Int)) := by show _ = _; rw [hv, V_take hpy.out, HPV.out]
  have HVE := Lib.hid hv
  have HLd : Hid (LdI U v U (List.replicate (x.length - y.length + 1) 0) (x.length - y.length + 1)) := by
    refine ld_start HUL.out ?_
    have hE0 : 0 < ((2 ^ s : Nat) : Int) := by have := Nat.two_pow_pos s; omega
    rw [HUV.out, hvV.out]
    have h1 := V_lt RX.out.2
    have h2 := HNY.out.pos (by omega)
    have h3 : pw (y.length - 1) * pw (x.length - y.length + 1) ≤ V y * pw (x.length - y.length + 1) := Int.mul_le_mul_of_nonneg_right h2 (Int.le_of_lt (pw_pos _))
    rw [← pw_add, show y.length - 1 + (x.length - y.length + 1) = x.length by omega] at h3
    have h4 : V x * ((2 ^ s : Nat) : Int) < V y * pw (x.length - y.length + 1) * ((2 ^ s : Nat) : Int) := Int.mul_lt_mul_of_pos_right (by omega) hE0
    have h5 : V y * ((2 ^ s : Nat) : Int) * pw (x.length - y.length + 1) = V y * pw (x.length - y.length + 1) * ((2 ^ s : Nat) : Int) := by simp only [Int.mul_assoc, Int.mul_comm, Int.mul_left_comm]
    rw [h5]
    exact h4
  clear hv
  go_loopw [16] (fun jv wr => ∃ (k : Nat) (p Q : List Int), jv = .int .i64 ((k : Int) - 1) ∧ k ≤ x.length - y.length + 1 ∧ Hid (LdI U v p Q k) ∧ Hid (Q.length = x.length - y.length + 1) ∧ Bk wr w.heap.size 83 .u32 p ∧ Bk wr w3.heap.size 83 .u32 Q ∧ Hid (Bk wr w2.heap.size 83 .u32 P) ∧ Hid (Below w.heap.size w wr)) (fun jv _ => (intOf jv + 1).toNat)
  case atStart => exact ⟨x.length - y.length + 1, U, _, by congr 1; omega, Nat.le_refl _, HLd, by simp [Hid], HU3.out.below' ((Below.refl _ _).alloc (Nat.le_refl _) _), Bk.made _, HP3.out.below' ((Below.refl _ _).alloc (Nat.le_refl _) _), HB3.out.alloc HB3.out.size _⟩
  case round =>
    clear HLd HU3 HP3 HB3
    obtain ⟨k, p, Q, rfl, hk, HI, HQ, HBu, HBq, HBv, HB⟩ := hrel
    by_cases h0 : k = 0
    · subst h0
      have hpl : p.length = x.length + 1 := by rw [HI.out.2.1, HUl.out]
      have RQ : Hid (RN wr.drew (some ⟨w3.heap.size, 0, none⟩) Q.length Q) := ⟨(HBq.reads (by rw [HQ.out]; omega)), HI.out.2.2.1⟩
      have HPl2 := Lib.hid hpl
      have RU : Hid (RN wr (some ⟨w.heap.size, 0, none⟩) p.length p) := ⟨(HBu.reads (by rw [hpl]; omega)), HI.out.1⟩
      clear hpl
      go_wp2_with fail
      refine wp_region_still_tail 6 (by kernel_rfl) (by kernel_rfl) ?_
      simp only [List.take_succ_cons, List.take_zero, List.drop_succ_cons, List.drop_zero]
      change wpStill _ _ wr.drew _ _ _
      repeat still_step
      still_call (trim_still wr.drew (some ⟨w3.heap.size, 0, none⟩) (x.length - y.length + 1) (x.length - y.length + 1) Q (by have := RQ.out; rw [HQ.out] at this; exact this) HQ.out)
      repeat still_step
      refine wpStill_step (fun K hK => ?_)
      go_simp
      rw [if_pos (show (y.length : Int) ≤ (x.length : Int) + 1 by omega)]
      refine ⟨rfl, hK _ ?_⟩
      clear hK K
      repeat still_step
      refine wpStill_nil ?_
      go_wp2_with fail
      have hpy2 : (p.take y.length).length = y.length := by rw [List.length_take, HPl2.out]; omega
      refine (shiftDown_m _ (some ⟨w.heap.size, 0, none⟩) (x.length + 1) y.length (p.take y.length) s ⟨?_, HI.out.1.take _⟩ hpy2 hs32 (by omega)).mono ?_
      · have ht := (RU.out.1.below ((Below.refl _ wr).drew)).take (m := y.length) (by rw [HPl2.out]; omega)
        exact ⟨by rw [hpy2]; omega, by omega, ht.2.2⟩
      rintro e w4 ⟨A4, c4, z, rfl, HZ, hz, hB⟩
      have HB4 := Lib.hid ((HB.out.drew).trans (hB.mono HB.out.drew.size))
      have RQ4 := Lib.hid (RQ.out.below hB)
      go_wp2_with fail
      go_ret3
      have hvp : 0 < V v := by
        rw [hvV.out, HEY.out]
        have := HV0.out
        have := Nat.two_pow_pos s
        exact Int.mul_pos (by omega) (by omega)
      obtain ⟨e1, e2⟩ := ld_end HI.out hvp
      have hE0 : 0 < ((2 ^ s : Nat) : Int) := by have := Nat.two_pow_pos s; omega
      have hy0 : 0 < V y := by rw [HEY.out]; have := HV0.out; omega
      have hx0 : 0 ≤ V x := V_nonneg RX.out.2
      rw [hvV.out, HUV.out, Int.mul_comm (V x), Int.mul_comm (V y)] at e1 e2
      rw [Int.mul_ediv_mul_of_pos _ _ hE0] at e1
      rw [Int.mul_emod_mul_of_pos _ _ hE0] at e2
      have hVt : V (p.take y.length) = V p := by
        refine V_take (dg_high HI.out.1 ?_)
        have h1 := HI.out.2.2.2.2.1
        rw [pw_zero, Int.mul_one, hvV.out] at h1
        have h2 := HSS.out
        omega
      have hr0 := Int.emod_nonneg (V x) (by omega : V y ≠ 0)
      have RT : RN w4 (some ⟨w3.heap.size, 0, none⟩) (nrm Q).length (nrm Q) := by
        have h1 := take_tl RQ4.out.2
        have h2 := RQ4.out.1.take (m := tl Q Q.length) (tl_le Q Q.length)
        rw [h1] at h2
        have h3 : (nrm Q).length = tl Q Q.length := by rw [← h1, List.length_take]; have := tl_le Q Q.length; omega
        rw [h3]
        exact ⟨h2, (nrm_nf Q).1⟩
      refine ⟨_, _, nrm Q, A4, c4, z, rfl, ?_, ?_, RT, hz, HB4.out⟩
      · show nrm Q = _
        have e3 : (V Q).toNat = (V xs).toNat / (V ys).toNat := by rw [e1, HEX.out, HEY.out, toNat_div (by rw [← HEX.out]; exact hx0) (by rw [← HEY.out]; omega)]
        rw [← e3]
        rfl
      · show z = _
        rw [HZ.out, hVt, e2, toNat_mul_nat hr0, Nat.mul_div_cancel_left _ (Nat.two_pow_pos s), toNat_mod hx0 (by omega), HEX.out, HEY.out]
    · obtain ⟨j, rfl⟩ : ∃ j, k = j + 1 := ⟨k - 1, by omega⟩
      have ej : ((j + 1 : Nat) : Int) - 1 = (j : Int) := by omega
      rw [ej]
      clear ej h0
      have hpl : p.length = x.length + 1 := by rw [HI.out.2.1, HUl.out]
      obtain ⟨a, ha⟩ : ∃ a, a = j + y.length := ⟨_, rfl⟩
      obtain ⟨b, hb'⟩ : ∃ b, a = b + 1 := ⟨a - 1, by omega⟩
      obtain ⟨c2, hc'⟩ : ∃ c2, a = c2 + 2 := ⟨a - 2, by omega⟩
      obtain ⟨n2, hn2⟩ : ∃ n2, y.length = n2 + 2 := ⟨y.length - 2, by omega⟩
      have haI : (j : Int) + (y.length : Int) = (a : Int) := by omega
      have hbI : (a : Int) - 1 = (b : Int) := by omega
      have hcI : (a : Int) - 2 = (c2 : Int) := by omega
      have hnI : (y.length : Int) - 2 = (n2 : Int) := by omega
      obtain ⟨hua, _⟩ := HBu.cell (j := a) (by omega)
      obtain ⟨hub, _⟩ := HBu.cell (j := b) (by omega)
      obtain ⟨huc, _⟩ := HBu.cell (j := c2) (by omega)
      obtain ⟨hv1, _⟩ := HBv.out.cell (j := n1) (by rw [HPl.out]; omega)
      obtain ⟨hv2, _⟩ := HBv.out.cell (j := n2) (by rw [HPl.out]; omega)
      have hn2' : n2 < y.length := by omega
      have ha' : a < x.length + 1 := by omega
      have hb2 : b < x.length + 1 := by omega
      have hc2 : c2 < x.length + 1 := by omega
      have HA := Lib.hid ha
      have HBb := Lib.hid hb'
      have HCc := Lib.hid hc'
      have HN2 := Lib.hid hn2
      have HPl3 := Lib.hid hpl
      clear ha hb' hc' hn2 hpl
      have hw1 : IntKind.i64.wrap ((j : Int) + (y.length : Int)) = (a : Int) := by rw [haI]; exact IntWalk.i64_in _ (by omega)
      have hw2 : IntKind.i64.wrap ((a : Int) - 1) = (b : Int) := by rw [hbI]; exact IntWalk.i64_in _ (by omega)
      have hw3 : IntKind.i64.wrap ((a : Int) - 2) = (c2 : Int) := by rw [hcI]; exact IntWalk.i64_in _ (by omega)
      have hw4 : IntKind.i64.wrap ((y.length : Int) - 1) = (n1 : Int) := by rw [he1]; exact IntWalk.i64_in _ (by omega)
      have hw5 : IntKind.i64.wrap ((y.length : Int) - 2) = (n2 : Int) := by rw [hnI]; exact IntWalk.i64_in _ (by omega)
      have hia : (a : Int) < (x.length : Int) + 1 := by omega
      have hib : (b : Int) < (x.length : Int) + 1 := by omega
      have hic : (c2 : Int) < (x.length : Int) + 1 := by omega
      have hi1 : (n1 : Int) < (y.length : Int) := by omega
      have hi2 : (n2 : Int) < (y.length : Int) := by omega
      have hwa : IntKind.i64.wrap (a : Int) = (a : Int) := IntWalk.i64_in _ (by omega)
      have hwb : IntKind.i64.wrap (b : Int) = (b : Int) := IntWalk.i64_in _ (by omega)
      have hwc : IntKind.i64.wrap (c2 : Int) = (c2 : Int) := IntWalk.i64_in _ (by omega)
      have hwm : IntKind.i64.wrap (n1 : Int) = (n1 : Int) := IntWalk.i64_in _ (by omega)
      have hwn : IntKind.i64.wrap (n2 : Int) = (n2 : Int) := IntWalk.i64_in _ (by omega)
      go_wp2_with fail
      refine wp_region_still_tail 30 (by kernel_rfl) (by kernel_rfl) ?_
      simp only [List.take_succ_cons, List.take_zero, List.drop_succ_cons, List.drop_zero]
      change wpStill _ _ wr.drew _ _ _
      repeat still_step
      refine wpStill_nil ?_
      go_wp2_with fail
      have hgx : ∀ t, t < y.length → dg P t = dg v t := fun t ht => by rw [HVE.out, dg_take, if_pos ht]
      have hp4 := (ld_part HI.out hvL.out).2.2.2
      have hp3 := (ld_part HI.out hvL.out).2.2.1
      have hge : pw n1 ≤ V v := by
        have h1 := HNY.out.pos (by omega)
        rw [HN1.out, Nat.add_sub_cancel] at h1
        rw [hvV.out]
        have h2 : V y * 1 ≤ V y * ((2 ^ s : Nat) : Int) := Int.mul_le_mul_of_nonneg_left (by have := Nat.two_pow_pos s; omega) (by have := pw_pos n1; omega)
        omega
      have htop := ld_tops hvL.out HI.out.1 (by rw [hvl.out, HN1.out]) hge hp4
      rw [hvl.out, ← HA.out, ← hgx n1 hn1'] at htop
      refine (guess_ok wr.drew (dg p a) (dg p b) (dg p c2) (dg P n1) (dg P n2) (HI.out.1 a) (HI.out.1 b) (HI.out.1 c2) ⟨htop.1, (HPL.out n1).2⟩ (HPL.out n2) htop.2).mono ?_
      rintro e w5 ⟨dd, rfl, HG, rfl⟩
      have HT := Lib.hid htop
      have HX := Lib.hid hgx
      have HP4 := Lib.hid hp4
      have HP3 := Lib.hid hp3
      have HGE := Lib.hid hge
      clear htop hgx hp4 hp3 hge
      go_wp2_with fail
      have hBd := (Below.refl wr.heap.size wr).drew
      have HRV : Hid (RN wr.drew (some ⟨w2.heap.size, 0, none⟩) (y.length + 1) v) := by
        have h1 := ((HBv.out.below' hBd).reads (by rw [HPl.out]; omega)).take (m := y.length) (by rw [HPl.out]; omega)
        rw [← HVE.out] at h1
        exact ⟨⟨by rw [hvl.out]; omega, by omega, h1.2.2⟩, hvL.out⟩
      have hgv : w2.heap.size ≠ w.heap.size := by
        have h : w.heap.size < w2.heap.size := hgu
        omega
      refine (subtract_m wr.drew w.heap.size j (x.length + 1 - j) p (some ⟨w2.heap.size, 0, none⟩) (y.length + 1) v dd (a + 1 - j) y.length (by rw [hvl.out, HA.out]; omega) hvl.out (HBu.below' hBd) HI.out.1 HRV.out (fun ad h => by cases h; exact hgv) (by rw [hvl.out, HPl3.out]; (have := HA.out); omega) ⟨by rw [hvl.out]; (have := HA.out); omega, by omega⟩ ⟨HG.out.1, HG.out.2.1⟩).mono ?_
      rintro e w6 ⟨p1, nb, rfl, HS, hBk, hgr⟩
      have hjq : j < Q.length := by rw [HQ.out]; omega
      have hnear := round_near (n2 := n2) HI.out hvL.out (by rw [hvl.out, HN2.out]) (by
        have h1 := HT.out.1
        rw [HX.out n1 hn1'] at h1
        rw [show n2 + 1 = n1 by have := HN1.out; have := HN2.out; omega]
        exact h1) (by
        have h1 := HG.out
        rw [HX.out n1 hn1', HX.out n2 hn2'] at h1
        have e1 := HN1.out
        have e2 := HN2.out
        have e3 := HA.out
        have e4 := HBb.out
        have e5 := HCc.out
        rw [show j + (n2 + 2) = a by omega, show j + (n2 + 1) = b by omega, show j + n2 = c2 by omega, show n2 + 1 = n1 by omega]
        exact h1)
      have HNR := Lib.hid hnear
      have hdd0 := HG.out.1
      have hdd1 := HG.out.2.1
      have hgq : w3.heap.size ≠ w.heap.size := by
        have h : w.heap.size < w2.heap.size := hgu
        have h2 : w2.heap.size < w3.heap.size := hgv3
        omega
      have HQ6 : Hid (Bk w6 w3.heap.size 83 .u32 Q) := grown_bk (HBq.below' hBd) hgr hgq
      have HP6 : Hid (Bk w6 w2.heap.size 83 .u32 P) := grown_bk (HBv.out.below' hBd) hgr hgv
      have HB6 : Hid (Below w.heap.size w w6) := HB.out.drew.grown hgr HB.out.drew.size (fun k hk => by injection hk with hk; omega)
      have HR6 : Hid (RN w6 (some ⟨w2.heap.size, 0, none⟩) (y.length + 1) v) := ⟨HRV.out.1.kept hgr (fun ad h => by cases h; exact hgv), HRV.out.2⟩
      have HBK := Lib.hid hBk
      have HJQ := Lib.hid hjq
      clear hnear hBd hBk hgr HBu HBq HBv HB HRV hjq
      have HDM : Hid (dd % 4294967296 = dd) := by show _ = _; omega
      have hp1l : Hid (p1.length = x.length + 1) := by show _ = _; rw [HS.out.2.1, HPl3.out]
      have hjx : j < x.length - y.length + 1 := by have := HA.out; omega
      cases nb
      · have HLD := Lib.hid (round_keeps HI.out hvL.out HJQ.out ⟨hdd0, hdd1⟩ HNR.out HS.out)
        obtain ⟨hcq, hfq⟩ := HQ6.out.cell (j := j) HJQ.out
        clear HS
        go_wp2_with fail
        go_roundw
        case rel =>
          exact ⟨j, p1, Q.set j dd, by go_num, by omega, HLD, by show _ = _; rw [List.length_set]; exact HQ.out, HBK.out.other _ _ hgq.symm, HQ6.out.set _ _, HP6.out.other _ _ (by omega), below_set HB6.out (Nat.le_of_lt (Nat.lt_trans (show w.heap.size < w2.heap.size from hgu) hgv3)) _⟩
        case measure => simp [intOf]
      · have HS1 : Hid (SbI p v p1 j dd (v.length + 1) 1 0) := HS.out
        clear HS HDM
        go_wp2_with fail
        refine (addBack_m w6 w.heap.size j (x.length + 1 - j) p1 (some ⟨w2.heap.size, 0, none⟩) (y.length + 1) v (a + 1 - j) y.length (by rw [hvl.out, HA.out]; omega) hvl.out HBK.out HS1.out.1 HR6.out (fun ad h => by cases h; exact hgv) (by rw [hvl.out, hp1l.out]; (have := HA.out); omega) ⟨by rw [hvl.out]; (have := HA.out); omega, by omega⟩).mono ?_
        rintro e w7 ⟨p2, c3, rfl, hc0, hc1, HA7, hBk7, hgr7⟩
        obtain ⟨hLD, hd0, hd1⟩ := round_back HI.out hvL.out HJQ.out HNR.out HS1.out HA7.out ⟨hc0, hc1⟩
        have HLD := Lib.hid hLD
        have HQ7 : Hid (Bk w7 w3.heap.size 83 .u32 Q) := grown_bk HQ6.out hgr7 hgq
        have HP7 : Hid (Bk w7 w2.heap.size 83 .u32 P) := grown_bk HP6.out hgr7 hgv
        have HB7 : Hid (Below w.heap.size w w7) := HB6.out.grown hgr7 HB6.out.size (fun k hk => by injection hk with hk; omega)
        have HBK7 := Lib.hid hBk7
        clear hLD hBk7 hgr7 hc0 hc1
        have hwd : IntKind.u64.wrap (dd - 1) = dd - 1 := IntWalk.u64_in _ (by omega)
        rw [hwd]
        clear hwd
        obtain ⟨d3, hd3⟩ : ∃ d3, dd - 1 = d3 := ⟨_, rfl⟩
        rw [hd3] at hd0 hd1 HLD ⊢
        clear hd3
        have HDM : Hid (d3 % 4294967296 = d3) := by show _ = _; omega
        obtain ⟨hcq, hfq⟩ := HQ7.out.cell (j := j) HJQ.out
        go_wp2_with fail
        go_roundw
        case rel =>
          exact ⟨j, p2, Q.set j d3, by go_num, by omega, HLD, by show _ = _; rw [List.length_set]; exact HQ.out, HBK7.out.other _ _ hgq.symm, HQ7.out.set _ _, HP7.out.other _ _ (by omega), below_set HB7.out (Nat.le_of_lt (Nat.lt_trans (show w.heap.size < w2.heap.size from hgu) hgv3)) _⟩
        case measure => simp [intOf]

theorem divMod_ok (w : World) (A B : Option Addr) (c d : Nat) (xs ys : List Int) (hx : RN w A c xs) (hy : RN w B d ys) (h0 : 0 < V ys) (hs : xs.length ≤ 35184372088830) :
    Calls Tryz.prog 85 #[.slice A xs.length c, .slice B ys.length d] w (RetQR ((V xs).toNat / (V ys).toNat) ((V xs).toNat % (V ys).toNat) w) := by
  rcases Int.lt_or_le 4294967295 (V ys) with h | h
  · rcases Int.lt_or_le (V xs) (V ys) with h2 | h2
    · exact divMod_less w A B c d xs ys hx hy h2 (by omega)
    · exact divMod_big w A B c d xs ys hx hy h h2 (by omega)
  · exact divMod_small w A B c d xs ys hx hy h0 h (by omega)

end Go.Proofs.YtocpncjmcaecoaaGreat.M
