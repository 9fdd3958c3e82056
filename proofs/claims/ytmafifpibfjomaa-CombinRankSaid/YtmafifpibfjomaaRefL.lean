/- Unrank of the reference, and comparing two lists of numbers as the laws do. -/
import Derived.Test.YtmafifpibfjomaaUnrank
namespace Go.Proofs.Ytmafifpibfjomaa.M
open Go.RowKit
set_option linter.unusedVariables false
set_option linter.unusedSimpArgs false

theorem OwnI.zero (w : World) (base e : Nat) (k : IntKind) : OwnI w base e k (.slice none 0 0) [] := World.ownsRow_nil w base e 1

set_option maxHeartbeats 1600000 in
theorem runrank_yes (w : World) (n k : Nat) (A : Option Addr) (c : Nat) (rs : List Int) (hn : n ≤ 200) (hk : k ≤ n) (hr : RN w A c rs) (hs : rs.length ≤ 40) (hv : (V rs).toNat < ch n k) :
    Calls Try.prog 23 #[.int .i64 (n : Int), .int .i64 (k : Int), .slice A rs.length c] w (RetL (unr 0 n k (V rs).toNat) w) := by
  obtain ⟨i0, hi, hz0, hz1, hz2⟩ := info_parts info_int
  have d1 : decide ((n : Int) < 0) = false := decide_eq_false (by omega)
  have d2 : decide ((200 : Int) < (n : Int)) = false := decide_eq_false (by omega)
  have d3 : decide ((k : Int) < 0) = false := decide_eq_false (by omega)
  have d4 : decide ((n : Int) < (k : Int)) = false := decide_eq_false (by omega)
  have HV := Lib.hid hv
  have RR := Lib.hid hr
  have E1 : Hid (chI n k = ch n k) := by show _ = _; unfold chI; rw [if_neg (by omega)]; rfl
  clear hv hr
  go_enter Try.func23, Try.ntmps23
  go_wp2_with fail
  refine (rchoose_ok _ n k (by omega) (by omega)).mono ?_
  rintro e w1 ⟨A1, c1, x, rfl, HX, hx, hB⟩
  have HB1 := Lib.hid hB
  have RX1 := Lib.hid hx
  have RR1 := Lib.hid (RR.out.below hB)
  clear hB hx
  go_wp2_with fail
  refine (rcmp_ok _ A A1 _ _ rs x RR1.out RX1.out).mono ?_
  rintro e w2 ⟨n2, rfl, rfl⟩
  have hc : cmpI (V rs) (V x) = -1 := by
    refine cmpI_lt ?_
    have h1 := V_nonneg RR.out.2
    have h2 := HV.out
    rw [HX.out, V_limbs, E1.out]
    omega
  rw [hc]
  clear hc
  have HB2 := Lib.hid (below_drewN HB1.out n2)
  have RR2 := Lib.hid (RR1.out.below (below_drewN (Below.refl _ _) n2))
  clear HB1 RX1 RR1 RR
  go_wp2_with fail
  refine (rnorm_f _ A c rs RR2.out (by omega)).mono ?_
  rintro e w3 ⟨g3, c3, lf, hg3, rfl, HL, hl, hB⟩
  have HB3 := Lib.hid (below_seq HB2.out hB)
  have RL3 := Lib.hid hl
  have SL3 : Hid (SepV (.slice none 0 0) (some ⟨g3, 0, none⟩) lf) := fun _ _ _ h => by cases h
  have HU3 : Hid (UnI n k (V rs).toNat 0 [] (V rs).toNat) := UnI.start HV.out
  have HLV : Hid (V lf = (((V rs).toNat : Nat) : Int)) := by show _ = _; rw [HL.out, V_limbs]
  have hll : lf.length ≤ 41 := by
    have h := limbs_len (n := (V rs).toNat) (m := rs.length) (by have := V_lt RR2.out.2; have := V_nonneg RR2.out.2; omega)
    rw [HL.out]
    omega
  clear hB hl hg3 HB2 RR2
  go_wp2_with fail
  go_loopw [10, 11, 12] (fun lv sv xv wr => ∃ (d : Nat) (l : List Int) (g c : Nat) (lf : List Int) (left : Nat), xv = .int .i64 (d : Int) ∧ d ≤ n ∧ lv = .slice (some ⟨g, 0, none⟩) lf.length c ∧ lf.length ≤ 41 ∧ l.length ≤ k ∧ Hid (V lf = (left : Int)) ∧ Hid (UnI n k (V rs).toNat d l left) ∧ OwnI wr w.heap.size 3 .i64 sv l ∧ Hid (RN wr (some ⟨g, 0, none⟩) c lf) ∧ Hid (SepV sv (some ⟨g, 0, none⟩) lf) ∧ Hid (Below w.heap.size w wr)) (fun _ _ xv _ => n - (intOf xv).toNat)
  case atStart => exact ⟨0, [], g3, c3, lf, _, rfl, Nat.zero_le _, rfl, hll, Nat.zero_le _, HLV, HU3, OwnI.zero _ _ _ _, RL3, SL3, HB3⟩
  case round =>
    clear RL3 SL3 HU3 HLV hll HB3
    obtain ⟨d, l, g, c, lf, left, rfl, hd, rfl, hlf, hlk, HLV, HU, HO, RL, SL, HB⟩ := hrel
    obtain ⟨A10, c10, rfl, _⟩ := own_rk HO
    by_cases hlt : l.length < k
    · have dlt : decide ((l.length : Int) < (k : Int)) = true := decide_eq_true (by omega)
      have hdn : d < n := (HU.out.lt hlt).choose_spec.choose_spec.2.2
      have ddn : decide ((d : Int) < (n : Int)) = true := decide_eq_true (by omega)
      have EC : Hid (chI ((n : Int) - 1 - (d : Int)) ((k : Int) - 1 - (l.length : Int)) = ch (n - 1 - d) (k - l.length - 1)) := by
        show _ = _
        rw [show (n : Int) - 1 - (d : Int) = ((n - 1 - d : Nat) : Int) by omega, show (k : Int) - 1 - (l.length : Int) = ((k - l.length - 1 : Nat) : Int) by omega]
        unfold chI
        rw [if_neg (by omega)]
        rfl
      go_wp2_with fail
      refine (rchoose_ok _ _ _ (by omega) (by omega)).mono ?_
      rintro e w4 ⟨A4, c4, y, rfl, HY, hy, hB⟩
      have HBy := Lib.hid (below_seq HB.out hB)
      have HOy := Lib.hid (HO.below hB)
      have RLy := Lib.hid (RL.out.below hB)
      have RYy := Lib.hid hy
      have HVY : Hid (V y = ((ch (n - 1 - d) (k - l.length - 1) : Nat) : Int)) := by show _ = _; rw [HY.out, V_limbs, EC.out]
      clear hB hy HO RL HB
      go_wp2_with fail
      refine (rcmp_ok _ _ _ _ _ lf y RLy.out RYy.out).mono ?_
      rintro e w5 ⟨n5, rfl, rfl⟩
      have HBz := Lib.hid (below_drewN HBy.out n5)
      have HOz := Lib.hid (HOy.out.below (below_drewN (Below.refl _ _) n5))
      have RLz := Lib.hid (RLy.out.below (below_drewN (Below.refl _ _) n5))
      have RYz := Lib.hid (RYy.out.below (below_drewN (Below.refl _ _) n5))
      clear HBy HOy RLy RYy
      by_cases hle : V y ≤ V lf
      · have hsk : Hid (¬ left < ch (n - 1 - d) (k - l.length - 1)) := by
          show ¬ _
          have h1 := HVY.out
          have h2 := HLV.out
          omega
        have HE : Hid ((V lf).toNat - (V y).toNat = left - ch (n - 1 - d) (k - l.length - 1)) := by
          show _ = _
          rw [HVY.out, HLV.out]
          omega
        have HLE := Lib.hid hle
        have hc : decide (cmpI (V lf) (V y) < 0) = false := by
          refine decide_eq_false ?_
          unfold cmpI
          split <;> (try split) <;> omega
        clear hle
        go_wp2_with fail
        refine (rsub_f _ _ _ _ _ lf y RLz.out RYz.out HLE.out (by omega)).mono ?_
        rintro e w6 ⟨g6, c6, z, hg6, rfl, HZ, hz, hB⟩
        have HB6 := Lib.hid (below_seq HBz.out hB)
        have HO6 := Lib.hid (HOz.out.below hB)
        have RZ := Lib.hid hz
        have SZ : Hid (SepV (.slice A10 l.length c10) (some ⟨g6, 0, none⟩) z) := SepV.new HOz.out hg6 z
        have HVZ : Hid (V z = ((left - ch (n - 1 - d) (k - l.length - 1) : Nat) : Int)) := by show _ = _; rw [HZ.out, V_limbs, HE.out]
        have hzl : z.length ≤ 41 := by
          have h := limbs_len (n := (V lf).toNat - (V y).toNat) (m := lf.length) (by have := V_lt RLz.out.2; have := V_nonneg RLz.out.2; have := V_nonneg RYz.out.2; omega)
          rw [HZ.out]
          omega
        have HUz := Lib.hid (HU.out.skip hlt hsk.out)
        clear hB hz hg6 HU HOz
        go_wp2_with fail
        go_roundw
        case rel => exact ⟨d + 1, l, g6, c6, z, _, by go_num, hdn, rfl, hzl, hlk, HVZ, HUz, HO6, RZ, SZ, HB6⟩
        case measure => simp [intOf]; omega
      · have hlt2 : left < ch (n - 1 - d) (k - l.length - 1) := by
          have h1 := HVY.out
          have h2 := HLV.out
          omega
        have HUz := Lib.hid (HU.out.take hlt hlt2)
        have hc : cmpI (V lf) (V y) = -1 := cmpI_lt (by omega)
        rw [hc]
        have HBw := HBz.out
        have HOw := HOz.out
        clear hlt2 HU hle hc HY HVY RYz HOz HBz
        go_wp2_with (at_builtin; refine wpList_append2 rfl _ _ 29 rfl Try.underlying29 hi hz0 hz1 hz2 rfl rfl HOw HBw HBw.size ?_ ?_; (omega))
        intro v1 w6 HO6 HB6 HG6 HM6
        have RL6 := Lib.hid (RLz.out.keep SL.out HG6.out)
        have SL6 := Lib.hid (SL.out.moved RLz.out.1 HM6.out)
        clear RLz SL HG6 HM6 HOw HBw
        go_wp2_with fail
        go_roundw
        case rel => exact ⟨d + 1, l ++ [(d : Int)], g, c, lf, _, by go_num, hdn, rfl, hlf, by simp; omega, HLV, HUz, HO6, RL6, SL6, HB6⟩
        case measure => simp [intOf]; omega
    · have dlt : decide ((l.length : Int) < (k : Int)) = false := decide_eq_false (by omega)
      have hlk2 : l.length = k := by omega
      have HE := Lib.hid (HU.out.done hlk2)
      obtain ⟨A6, c6, h6, hr6⟩ := own_rk HO
      have HR6 := Lib.hid hr6
      cases h6
      clear hr6
      by_cases hdn : d < n
      · have ddn : decide ((d : Int) < (n : Int)) = true := decide_eq_true (by omega)
        go_wp2_with fail
        go_ret2
        exact ⟨A10, c10, l, rfl, HE, HR6.out, HB.out⟩
      · have ddn : decide ((d : Int) < (n : Int)) = false := decide_eq_false (by omega)
        go_wp2_with fail
        go_ret2
        exact ⟨A10, c10, l, rfl, HE, HR6.out, HB.out⟩

set_option maxHeartbeats 1600000 in
theorem runrank_no (w : World) (n k : Int) (A : Option Addr) (c : Nat) (rs : List Int) (hr : RN w A c rs) (h : (n < 0 ∨ (0 ≤ n ∧ 200 < n)) ∨ (0 ≤ n ∧ n ≤ 200 ∧ (k < 0 ∨ (0 ≤ k ∧ n < k) ∨ (0 ≤ k ∧ k ≤ n ∧ (ch n.toNat k.toNat : Int) ≤ V rs)))) :
    Calls Try.prog 23 #[.int .i64 n, .int .i64 k, .slice A rs.length c] w (RetLno w) := by
  rcases h with (h | ⟨h, h'⟩) | ⟨h0, h1, h⟩
  · have d1 : decide (n < 0) = true := decide_eq_true h
    go_enter Try.func23, Try.ntmps23
    go_wp2_with fail
    go_ret2
    exact ⟨rfl, Below.refl _ _⟩
  · have d1 : decide (n < 0) = false := decide_eq_false (by omega)
    have d2 : decide (200 < n) = true := decide_eq_true h'
    go_enter Try.func23, Try.ntmps23
    go_wp2_with fail
    go_ret2
    exact ⟨rfl, Below.refl _ _⟩
  · have d1 : decide (n < 0) = false := decide_eq_false (by omega)
    have d2 : decide (200 < n) = false := decide_eq_false (by omega)
    rcases h with h | ⟨h2, h⟩ | ⟨h2, h3, h⟩
    · have d3 : decide (k < 0) = true := decide_eq_true h
      go_enter Try.func23, Try.ntmps23
      go_wp2_with fail
      go_ret2
      exact ⟨rfl, Below.refl _ _⟩
    · have d3 : decide (k < 0) = false := decide_eq_false (by omega)
      have d4 : decide (n < k) = true := decide_eq_true h
      go_enter Try.func23, Try.ntmps23
      go_wp2_with fail
      go_ret2
      exact ⟨rfl, Below.refl _ _⟩
    · have d3 : decide (k < 0) = false := decide_eq_false (by omega)
      have d4 : decide (n < k) = false := decide_eq_false (by omega)
      have E1 : Hid (chI n k = ch n.toNat k.toNat) := by show _ = _; unfold chI; rw [if_neg (by omega)]
      have HV := Lib.hid h
      have RR := Lib.hid hr
      clear h hr
      go_enter Try.func23, Try.ntmps23
      go_wp2_with fail
      refine (rchoose_ok _ n k h0 h1).mono ?_
      rintro e w1 ⟨A1, c1, x, rfl, HX, hx, hB⟩
      have HB1 := Lib.hid hB
      have RX1 := Lib.hid hx
      have RR1 := Lib.hid (RR.out.below hB)
      clear hB hx
      go_wp2_with fail
      refine (rcmp_ok _ A A1 _ _ rs x RR1.out RX1.out).mono ?_
      rintro e w2 ⟨n2, rfl, rfl⟩
      have hc : decide (0 ≤ cmpI (V rs) (V x)) = true := by
        refine decide_eq_true ?_
        have h2 := HV.out
        have h1 : V x ≤ V rs := by rw [HX.out, V_limbs, E1.out]; exact h2
        unfold cmpI
        split <;> (try split) <;> omega
      have HB2 := Lib.hid (below_drewN HB1.out n2)
      go_wp2_with fail
      go_ret2
      exact ⟨rfl, HB2.out⟩

set_option maxHeartbeats 800000 in
theorem ints_yes (w : World) (A B : Option Addr) (c d : Nat) (xs ys : List Int) (hx : Rk w .i64 A c xs) (hy : Rk w .i64 B d ys) (he : xs = ys) :
    Calls Try.prog 24 #[.slice A xs.length c, .slice B ys.length d] w (RetBq true w) := by
  subst he
  obtain ⟨h1, h2, h3⟩ := hx
  obtain ⟨h4, h5, h6⟩ := hy
  have HX := Lib.hid h3
  have HY := Lib.hid h6
  clear h3 h6
  go_enter Try.func24, Try.ntmps24
  go_wp2_with fail
  go_loopw [5] (fun iv wr => ∃ k : Nat, k ≤ xs.length ∧ iv = .int .i64 (k : Int) ∧ ∃ n, wr = w.drewN n) (fun iv _ => xs.length - (intOf iv).toNat)
  case atStart => exact ⟨0, Nat.zero_le _, rfl, 0, rfl⟩
  case round =>
    obtain ⟨k, hk, rfl, n, rfl⟩ := hrel
    by_cases hlt : k < xs.length
    · obtain ⟨ad, rfl, hcx⟩ := HX.out k hlt
      obtain ⟨bd, rfl, hcy⟩ := HY.out k hlt
      have hne : (dg xs k != dg xs k) = false := by simp
      go_wp2
      go_quiet (fail)
      go_wp2
      go_roundw
      case rel => exact ⟨k + 1, hlt, by go_num, by first | exact ⟨_, rfl⟩ | exact ⟨_, (by simp only [World.drewN_drewN]; rfl)⟩⟩
      case measure => simp [intOf]; omega
    · obtain rfl : k = xs.length := by omega
      go_wp2
      go_ret
      exact ⟨n, rfl, rfl⟩

end Go.Proofs.Ytmafifpibfjomaa.M
