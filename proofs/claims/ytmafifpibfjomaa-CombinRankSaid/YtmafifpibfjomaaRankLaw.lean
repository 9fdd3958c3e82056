/- The law CombinRank: its walk. -/
import Derived.Test.YtmafifpibfjomaaSubsets
namespace Go.Proofs.Ytmafifpibfjomaa.M
open Go.RowKit
set_option linter.unusedVariables false
set_option linter.unusedSimpArgs false

set_option maxHeartbeats 1600000 in
theorem rlaw_out (w : World) (n k : Int) (A : Option Addr) (c : Nat) (rs : List Int) (h : n < 0 ∨ (0 ≤ n ∧ 200 < n)) :
    Calls Try.prog 10 #[.int .i64 n, .int .i64 k, .slice A rs.length c] w (RetTrue w) := by
  have h' : n < 0 ∨ 200 < n := h.imp id And.right
  by_cases hs : rs.length ≤ 40
  · have d1 : decide ((40 : Int) < (rs.length : Int)) = false := decide_eq_false (by omega)
    rcases h with h | ⟨h, h2⟩
    · have d2 : decide (n < 0) = true := decide_eq_true h
      go_enter Try.func10, Try.ntmps10
      go_wp2_with fail
      refine (choose_no _ n k h').mono ?_
      rintro e w1 ⟨A1, c1, x, rfl, HX, hx, hB⟩
      have HB1 := Lib.hid hB
      clear hB hx
      go_wp2_with fail
      go_ret
      exact ⟨rfl, HB1.out⟩
    · have d2 : decide (n < 0) = false := decide_eq_false (by omega)
      have d3 : decide (200 < n) = true := decide_eq_true h2
      go_enter Try.func10, Try.ntmps10
      go_wp2_with fail
      refine (choose_no _ n k h').mono ?_
      rintro e w1 ⟨A1, c1, x, rfl, HX, hx, hB⟩
      have HB1 := Lib.hid hB
      clear hB hx
      go_wp2_with fail
      go_ret
      exact ⟨rfl, HB1.out⟩
  · have d1 : decide ((40 : Int) < (rs.length : Int)) = true := decide_eq_true (by omega)
    go_enter Try.func10, Try.ntmps10
    go_wp2_with fail
    refine (choose_no _ n k h').mono ?_
    rintro e w1 ⟨A1, c1, x, rfl, HX, hx, hB⟩
    have HB1 := Lib.hid hB
    clear hB hx
    go_wp2_with fail
    go_ret
    exact ⟨rfl, HB1.out⟩

set_option maxHeartbeats 800000 in
theorem rlaw_long (w : World) (n k : Int) (A : Option Addr) (c : Nat) (rs : List Int) (h0 : 0 ≤ n) (h1 : n ≤ 200) (hs : 40 < rs.length) :
    Calls Try.prog 10 #[.int .i64 n, .int .i64 k, .slice A rs.length c] w (RetTrue w) := by
  have d1 : decide ((40 : Int) < (rs.length : Int)) = true := decide_eq_true (by omega)
  go_enter Try.func10, Try.ntmps10
  go_wp2_with fail
  refine (choose_ok _ n k h0 h1).mono ?_
  rintro e w1 ⟨A1, c1, x, rfl, HX, hx, hB⟩
  have HB1 := Lib.hid hB
  clear hB hx
  go_wp2_with fail
  go_ret
  exact ⟨rfl, HB1.out⟩

set_option maxHeartbeats 1600000 in
theorem rlaw_no (w : World) (n k : Int) (A : Option Addr) (c : Nat) (rs : List Int) (hr : RN w A c rs) (h0 : 0 ≤ n) (h1 : n ≤ 200) (hs : rs.length ≤ 40) (h : k < 0 ∨ (0 ≤ k ∧ n < k) ∨ (0 ≤ k ∧ k ≤ n ∧ (ch n.toNat k.toNat : Int) ≤ V rs)) :
    Calls Try.prog 10 #[.int .i64 n, .int .i64 k, .slice A rs.length c] w (RetTrue w) := by
  have d1 : decide ((40 : Int) < (rs.length : Int)) = false := decide_eq_false (by omega)
  have d2 : decide (n < 0) = false := decide_eq_false (by omega)
  have d3 : decide (200 < n) = false := decide_eq_false (by omega)
  have HC : Hid ((chI n k : Int) ≤ V rs) := by
    show _ ≤ _
    have hv := V_nonneg hr.2
    unfold chI
    rcases h with h | ⟨h, h'⟩ | ⟨h, h', h''⟩
    · rw [if_pos h]; exact hv
    · rw [if_neg (by omega), ch_gt _ _ (by omega)]; exact hv
    · rw [if_neg (by omega)]; exact h''
  have HR := Lib.hid hr
  have HH : Hid ((n < 0 ∨ 200 < n) ∨ (0 ≤ n ∧ n ≤ 200 ∧ (k < 0 ∨ (0 ≤ k ∧ n < k) ∨ (0 ≤ k ∧ k ≤ n ∧ (ch n.toNat k.toNat : Int) ≤ V rs)))) := .inr ⟨h0, h1, h⟩
  clear hr h
  go_enter Try.func10, Try.ntmps10
  go_wp2_with fail
  refine (choose_ok _ n k h0 h1).mono ?_
  rintro e w1 ⟨A1, c1, x, rfl, HX, hx, hB⟩
  have HB1 := Lib.hid hB
  have HR1 := Lib.hid (HR.out.below hB)
  have RX1 := Lib.hid hx
  clear hB hx
  go_wp2_with fail
  refine (unrank_no _ n k A c rs HR1.out HH.out).mono ?_
  rintro e w2 ⟨rfl, hB⟩
  have HB2 := Lib.hid (below_seq HB1.out hB)
  have HR2 := Lib.hid (HR1.out.below hB)
  have RX2 := Lib.hid (RX1.out.below hB)
  clear hB
  go_wp2_with fail
  refine (cmp_ok _ A A1 _ _ rs x HR2.out RX2.out).mono ?_
  rintro e w3 ⟨n3, rfl, rfl⟩
  have HB3 := Lib.hid (below_drewN HB2.out n3)
  have hc : decide (cmpI (V rs) (V x) < 0) = false := by
    refine decide_eq_false ?_
    have h1 : V x ≤ V rs := by rw [HX.out, V_limbs]; exact HC.out
    unfold cmpI
    split <;> (try split) <;> omega
  go_wp2_with fail
  go_ret
  exact ⟨rfl, HB3.out⟩

set_option maxHeartbeats 3200000 in
theorem rlaw_yes (w : World) (n k : Nat) (A : Option Addr) (c : Nat) (rs : List Int) (hn : n ≤ 200) (hk : k ≤ n) (hr : RN w A c rs) (hs : rs.length ≤ 40) (hv : (V rs).toNat < ch n k) :
    Calls Try.prog 10 #[.int .i64 (n : Int), .int .i64 (k : Int), .slice A rs.length c] w (RetTrue w) := by
  have d1 : decide ((40 : Int) < (rs.length : Int)) = false := decide_eq_false (by omega)
  have d2 : decide ((n : Int) < 0) = false := decide_eq_false (by omega)
  have d3 : decide (200 < (n : Int)) = false := decide_eq_false (by omega)
  have HR := Lib.hid hr
  have HV := Lib.hid hv
  have E1 : Hid (chI n k = ch n k) := by show _ = _; unfold chI; rw [if_neg (by omega)]; rfl
  have HU0 : Hid (up n (-1) (unr 0 n k (V rs).toNat) = true) := by
    have := unr_up (x := 0) hv
    show _ = _
    simpa using this
  have HK0 := Lib.hid (unr_len (x := 0) hv)
  have HRK0 : Hid (rnk n 0 (unr 0 n k (V rs).toNat) = (V rs).toNat) := by
    have := rnk_unr (x := 0) hv
    show _ = _
    simpa using this
  have HVn : Hid (0 ≤ V rs) := V_nonneg hr.2
  clear hr hv
  go_enter Try.func10, Try.ntmps10
  go_wp2_with fail
  refine (choose_ok _ n k (by omega) (by omega)).mono ?_
  rintro e w1 ⟨A1, c1, x, rfl, HX, hx, hB⟩
  have HB1 := Lib.hid hB
  have HR1 := Lib.hid (HR.out.below hB)
  have RX1 := Lib.hid hx
  have HVX : Hid (V x = (ch n k : Int)) := by show _ = _; rw [HX.out, V_limbs, E1.out]
  clear hB hx HR
  go_wp2_with fail
  refine (unrank_yes _ n k A c rs hn hk HR1.out hs HV.out).mono ?_
  rintro e w2 ⟨A2, c2, l, rfl, HL, hl, hB⟩
  have HB2 := Lib.hid (below_seq HB1.out hB)
  have HR2 := Lib.hid (HR1.out.below hB)
  have RX2 := Lib.hid (RX1.out.below hB)
  have RL2 := Lib.hid hl
  rw [← HL.out] at HU0 HK0 HRK0
  clear hB hl HR1 RX1 HB1
  go_wp2_with fail
  refine (cmp_ok _ A A1 _ _ rs x HR2.out RX2.out).mono ?_
  rintro e w3 ⟨n3, rfl, rfl⟩
  have hB := below_drewN (Below.refl w2.heap.size w2) n3
  have HB3 := Lib.hid (below_drewN HB2.out n3)
  have HR3 := Lib.hid (HR2.out.below hB)
  have RX3 := Lib.hid (RX2.out.below hB)
  have RL3 := Lib.hid (RL2.out.below hB)
  have hc : decide (cmpI (V rs) (V x) < 0) = true := by
    refine decide_eq_true ?_
    rw [cmpI_lt (by rw [HVX.out]; have := HV.out; have := HVn.out; omega)]
    decide
  clear hB HR2 RX2 RL2 HB2
  go_wp2_with fail
  clear hc
  refine (rank_yes _ n A2 c2 l RL3.out hn HU0.out).mono ?_
  rintro e w4 ⟨A4, c4, r, rfl, HRr, hr, hB⟩
  have HB4 := Lib.hid (HB3.out.trans (hB.mono HB3.out.size))
  have HR4 := Lib.hid (HR3.out.below hB)
  have RX4 := Lib.hid (RX3.out.below hB)
  have RL4 := Lib.hid (RL3.out.below hB)
  have RR4 := Lib.hid hr
  clear hB hr HR3 RX3 RL3 HB3
  go_wp2_with fail
  refine (rising_ok _ n k A2 c2 l RL4.out HK0.out).mono ?_
  rintro e w5 ⟨n5, rfl, rfl⟩
  rw [HU0.out]
  have hB := below_drewN (Below.refl w4.heap.size w4) n5
  have HB5 := Lib.hid (below_drewN HB4.out n5)
  have HR5 := Lib.hid (HR4.out.below hB)
  have RX5 := Lib.hid (RX4.out.below hB)
  have RL5 := Lib.hid (RL4.out.below hB)
  have RR5 := Lib.hid (RR4.out.below hB)
  clear hB HR4 RX4 RL4 RR4 HB4
  go_wp2_with fail
  refine (norm_f _ A c rs HR5.out (by omega)).mono ?_
  rintro e w6 ⟨g6, c6, v, _, rfl, HVv, hv, hB⟩
  have HB6 := Lib.hid (HB5.out.trans (hB.mono HB5.out.size))
  have HR6 := Lib.hid (HR5.out.below hB)
  have RX6 := Lib.hid (RX5.out.below hB)
  have RL6 := Lib.hid (RL5.out.below hB)
  have RR6 := Lib.hid (RR5.out.below hB)
  have RV6 := Lib.hid hv
  clear hB hv HR5 RX5 RL5 RR5 HB5
  go_wp2_with fail
  refine (limbs_yes _ A4 _ _ _ r v RR6.out.1 RV6.out.1 (by rw [HRr.out, HVv.out, HRK0.out])).mono ?_
  rintro e w7 ⟨n7, rfl, rfl⟩
  have hB := below_drewN (Below.refl w6.heap.size w6) n7
  have HB7 := Lib.hid (below_drewN HB6.out n7)
  have HR7 := Lib.hid (HR6.out.below hB)
  have RX7 := Lib.hid (RX6.out.below hB)
  have RL7 := Lib.hid (RL6.out.below hB)
  clear hB HR6 RX6 RL6 RR6 RV6 HB6
  go_wp2_with fail
  refine (of_ok _ 1 (by omega) (by omega)).mono ?_
  rintro e w8 ⟨A8, c8, o, rfl, HO, ho, hB⟩
  have HB8 := Lib.hid (HB7.out.trans (hB.mono HB7.out.size))
  have HR8 := Lib.hid (HR7.out.below hB)
  have RX8 := Lib.hid (RX7.out.below hB)
  have RL8 := Lib.hid (RL7.out.below hB)
  have RO8 := Lib.hid ho
  have hol : o.length ≤ 1 := by rw [HO.out]; decide
  clear hB ho HR7 RX7 RL7 HB7
  go_wp2_with fail
  refine (add_ok _ A A8 _ _ rs o HR8.out RO8.out (by omega) (by omega)).mono ?_
  rintro e w9 ⟨A9, c9, nx, rfl, HN, hnx, hB⟩
  have HB9 := Lib.hid (HB8.out.trans (hB.mono HB8.out.size))
  have RX9 := Lib.hid (RX8.out.below hB)
  have RL9 := Lib.hid (RL8.out.below hB)
  have RN9 := Lib.hid hnx
  have HNX : Hid (nx = limbs ((V rs).toNat + 1)) := by
    show _ = _
    rw [HN.out, HO.out, V_limbs]
    rfl
  clear hB hnx HR8 RX8 RL8 RO8 HB8 HN
  go_wp2_with fail
  refine (next_yes _ n A2 c2 l RL9.out hn HU0.out).mono ?_
  intro e w10 h10
  have hkl : l.length = k := HK0.out
  cases hs10 : nxAt n l l.length with
  | none =>
    obtain ⟨rfl, hB⟩ := retX_none hs10 h10
    have HB10 := Lib.hid (HB9.out.trans (hB.mono HB9.out.size))
    have RX10 := Lib.hid (RX9.out.below hB)
    have RN10 := Lib.hid (RN9.out.below hB)
    have HQ := Lib.hid (nx_last HU0.out hs10)
    have HKL := Lib.hid hkl
    clear hB h10 hs10 RX9 RN9 hkl
    go_wp2_with fail
    refine (cmp_ok _ A9 A1 _ _ nx x RN10.out RX10.out).mono ?_
    rintro e w11 ⟨n11, rfl, rfl⟩
    have HB11 := Lib.hid (below_drewN HB10.out n11)
    have hc : decide (cmpI (V nx) (V x) < 0) = false := by
      refine decide_eq_false ?_
      rw [cmpI_eq (by rw [HNX.out, HVX.out, V_limbs, ← HRK0.out, HQ.out, HKL.out])]
      decide
    go_wp2_with fail
    go_ret
    exact ⟨rfl, HB11.out⟩
  | some i =>
    obtain ⟨A10, c10, m, rfl, HM, hm, hB⟩ := retX_some hs10 h10
    have HB10 := Lib.hid (HB9.out.trans (hB.mono HB9.out.size))
    have RX10 := Lib.hid (RX9.out.below hB)
    have RN10 := Lib.hid (RN9.out.below hB)
    have RM10 := Lib.hid hm
    have HQ := Lib.hid (nxF_rank HU0.out hs10)
    have HUM : Hid (up n (-1) m = true) := by
      show _ = _
      rw [HM.out]
      obtain ⟨h1, h2, _⟩ := nxAt_some hs10
      exact nxF_up HU0.out h1 h2
    have HML : Hid (m.length = k) := by
      show _ = _
      rw [HM.out, nxF_len (Nat.le_of_lt (nxAt_some hs10).1), hkl]
    have HKL := Lib.hid hkl
    clear hB h10 hs10 RX9 RN9 hm hkl
    go_wp2_with fail
    refine (cmp_ok _ A9 A1 _ _ nx x RN10.out RX10.out).mono ?_
    rintro e w11 ⟨n11, rfl, rfl⟩
    have hB := below_drewN (Below.refl w10.heap.size w10) n11
    have HB11 := Lib.hid (below_drewN HB10.out n11)
    have RN11 := Lib.hid (RN10.out.below hB)
    have RM11 := Lib.hid (RM10.out.below hB)
    have hc : decide (cmpI (V nx) (V x) < 0) = true := by
      refine decide_eq_true ?_
      rw [cmpI_lt (by
        rw [HNX.out, HVX.out, V_limbs]
        have h1 := HQ.out.2
        rw [HRK0.out, HKL.out] at h1
        omega)]
      decide
    clear hB RN10 RM10 HB10
    go_wp2_with fail
    clear hc
    refine (rank_yes _ n A10 c10 m RM11.out hn HUM.out).mono ?_
    rintro e w12 ⟨A12, c12, y, rfl, HY, hy, hB⟩
    have HB12 := Lib.hid (HB11.out.trans (hB.mono HB11.out.size))
    have RN12 := Lib.hid (RN11.out.below hB)
    have RM12 := Lib.hid (RM11.out.below hB)
    have RY12 := Lib.hid hy
    clear hB hy RN11 RM11 HB11
    go_wp2_with fail
    refine (rising_ok _ n k A10 c10 m RM12.out HML.out).mono ?_
    rintro e w13 ⟨n13, rfl, rfl⟩
    rw [HUM.out]
    have hB := below_drewN (Below.refl w12.heap.size w12) n13
    have HB13 := Lib.hid (below_drewN HB12.out n13)
    have RN13 := Lib.hid (RN12.out.below hB)
    have RY13 := Lib.hid (RY12.out.below hB)
    clear hB RN12 RM12 RY12
    go_wp2_with fail
    refine (limbs_yes _ A12 A9 _ _ y nx RY13.out.1 RN13.out.1 (by rw [HY.out, HNX.out, HM.out, HQ.out.1, HRK0.out])).mono ?_
    rintro e w14 ⟨n14, rfl, rfl⟩
    have HB14 := Lib.hid (below_drewN HB12.out (n13 + n14))
    go_wp2_with fail
    go_ret
    exact ⟨rfl, HB14.out⟩

theorem rlaw (w : World) (n : Int) (hn : -9223372036854775808 ≤ n ∧ n ≤ 9223372036854775807) (k : Int) (hk : -9223372036854775808 ≤ k ∧ k ≤ 9223372036854775807) (A : Option Addr) (c : Nat) (rs : List Int) (hp : Rk w .u32 A c rs) (hwf : ∀ x ∈ rs, (Lit.int .u32 x).wf = true) (hsz : rs.length * 4 ≤ 140737488351232) :
    Calls Try.prog 10 #[.int .i64 n, .int .i64 k, .slice A rs.length c] w (RetTrue w) := by
  by_cases h0 : 0 ≤ n ∧ n ≤ 200
  · by_cases hs : rs.length ≤ 40
    · have hr : RN w A c rs := ⟨hp, Lim.of_mem fun x hx => wf_u32 (hwf x hx)⟩
      by_cases h1 : 0 ≤ k ∧ k ≤ n ∧ V rs < (ch n.toNat k.toNat : Int)
      · obtain ⟨h3, h4, h5⟩ := h1
        obtain ⟨m, rfl⟩ := Int.eq_ofNat_of_zero_le h0.1
        obtain ⟨j, rfl⟩ := Int.eq_ofNat_of_zero_le h3
        exact rlaw_yes w m j A c rs (by omega) (by omega) hr hs (by have := V_nonneg hr.2; simp only [Int.toNat_natCast] at h5; omega)
      · exact rlaw_no w n k A c rs hr h0.1 h0.2 hs (by omega)
    · exact rlaw_long w n k A c rs h0.1 h0.2 (by omega)
  · exact rlaw_out w n k A c rs (by omega)

end Go.Proofs.Ytmafifpibfjomaa.M
