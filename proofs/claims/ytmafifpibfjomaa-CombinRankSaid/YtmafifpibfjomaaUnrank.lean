import Derived.Test.YtmafifpibfjomaaRefK
import Derived.Test.YtmafifpibfjomaaOwn
namespace Go.Proofs.Ytmafifpibfjomaa.M
open Go.RowKit
set_option linter.unusedVariables false
set_option linter.unusedSimpArgs false

/-- The subset at a position: m numbers from x on are left, j are wanted. -/
def unr : Nat → Nat → Nat → Nat → List Int
  | _, 0, _, _ => []
  | _, _ + 1, 0, _ => []
  | x, m + 1, j + 1, r => if r < ch m j then (x : Int) :: unr (x + 1) m j r else unr (x + 1) m (j + 1) (r - ch m j)
theorem unr_zero (x m r : Nat) : unr x m 0 r = [] := by cases m <;> rfl
theorem unr_take {x m j r : Nat} (h : r < ch m j) : unr x (m + 1) (j + 1) r = (x : Int) :: unr (x + 1) m j r := if_pos h
theorem unr_skip {x m j r : Nat} (h : ¬ r < ch m j) : unr x (m + 1) (j + 1) r = unr (x + 1) m (j + 1) (r - ch m j) := if_neg h

/-- A list of numbers and true. -/
def RetL (l : List Int) (w : World) (e : Ending) (w' : World) : Prop := ∃ A c xs, e = .returned (.tuple #[.slice A xs.length c, .bool true]) ∧ Hid (xs = l) ∧ Rk w' .i64 A c xs ∧ Below w.heap.size w w'
/-- No list and false. -/
def RetLno (w : World) (e : Ending) (w' : World) : Prop := e = .returned (.tuple #[.slice none 0 0, .bool false]) ∧ Below w.heap.size w w'

/-- Where it stands: d numbers have been looked at, the list l has been taken. -/
def UnI (n k r d : Nat) (l : List Int) (left : Nat) : Prop := l.length ≤ k ∧ d ≤ n ∧ left < ch (n - d) (k - l.length) ∧ l ++ unr d (n - d) (k - l.length) left = unr 0 n k r
theorem UnI.lt {n k r d left : Nat} {l : List Int} (h : UnI n k r d l left) (hl : l.length < k) : ∃ m j, n - d = m + 1 ∧ k - l.length = j + 1 ∧ d < n := by
  obtain ⟨h1, h2, h3, h4⟩ := h
  rcases Nat.lt_or_ge d n with hd | hd
  · exact ⟨n - d - 1, k - l.length - 1, by omega, by omega, hd⟩
  · rw [show n - d = 0 by omega, ch_gt 0 _ (by omega)] at h3
    omega
theorem UnI.take {n k r d left : Nat} {l : List Int} (h : UnI n k r d l left) (hl : l.length < k) (hr : left < ch (n - 1 - d) (k - l.length - 1)) : UnI n k r (d + 1) (l ++ [(d : Int)]) left := by
  obtain ⟨m, j, e1, e2, hd⟩ := h.lt hl
  obtain ⟨h1, h2, h3, h4⟩ := h
  have hlen : (l ++ [(d : Int)]).length = l.length + 1 := by simp
  have e5 : n - 1 - d = m := by omega
  have e6 : k - l.length - 1 = j := by omega
  have e3 : n - (d + 1) = m := by omega
  have e4 : k - (l ++ [(d : Int)]).length = j := by omega
  rw [e5, e6] at hr
  refine ⟨by omega, by omega, by rw [e3, e4]; exact hr, ?_⟩
  rw [← h4, e3, e4, e1, e2, unr_take hr, List.append_assoc, List.singleton_append]
theorem UnI.skip {n k r d left : Nat} {l : List Int} (h : UnI n k r d l left) (hl : l.length < k) (hr : ¬ left < ch (n - 1 - d) (k - l.length - 1)) : UnI n k r (d + 1) l (left - ch (n - 1 - d) (k - l.length - 1)) := by
  obtain ⟨m, j, e1, e2, hd⟩ := h.lt hl
  obtain ⟨h1, h2, h3, h4⟩ := h
  have e5 : n - 1 - d = m := by omega
  have e6 : k - l.length - 1 = j := by omega
  have e3 : n - (d + 1) = m := by omega
  rw [e5, e6] at hr ⊢
  rw [e1, e2, ch_succ] at h3
  refine ⟨h1, by omega, by rw [e3, e2]; omega, ?_⟩
  rw [← h4]
  congr 1
  rw [e3, e2, e1, unr_skip hr]
theorem UnI.done {n k r d left : Nat} {l : List Int} (h : UnI n k r d l left) (hl : l.length = k) : l = unr 0 n k r := by
  obtain ⟨h1, h2, h3, h4⟩ := h
  rw [hl, Nat.sub_self, unr_zero, List.append_nil] at h4
  exact h4
theorem UnI.start {n k r : Nat} (h : r < ch n k) : UnI n k r 0 [] r := ⟨Nat.zero_le _, Nat.zero_le _, by simpa using h, by simp⟩

set_option maxHeartbeats 1600000 in
theorem unrank_yes (w : World) (n k : Nat) (A : Option Addr) (c : Nat) (rs : List Int) (hn : n ≤ 200) (hk : k ≤ n) (hr : RN w A c rs) (hs : rs.length ≤ 40) (hv : (V rs).toNat < ch n k) :
    Calls Try.prog 22 #[.int .i64 (n : Int), .int .i64 (k : Int), .slice A rs.length c] w (RetL (unr 0 n k (V rs).toNat) w) := by
  obtain ⟨i0, hi, hz0, hz1, hz2⟩ := info_parts info_int
  have d3 : decide ((k : Int) < 0) = false := decide_eq_false (by omega)
  have d4 : decide ((n : Int) < (k : Int)) = false := decide_eq_false (by omega)
  have HV := Lib.hid hv
  have RR := Lib.hid hr
  have E1 : Hid (chI n k = ch n k) := by show _ = _; unfold chI; rw [if_neg (by omega)]; rfl
  clear hv hr
  go_enter Try.func22, Try.ntmps22
  go_wp2_with fail
  refine (choose_ok _ n k (by omega) (by omega)).mono ?_
  rintro e w1 ⟨A1, c1, x, rfl, HX, hx, hB⟩
  have HB1 := Lib.hid hB
  have RX1 := Lib.hid hx
  have RR1 := Lib.hid (RR.out.below hB)
  clear hB hx
  go_wp2_with fail
  refine (cmp_ok _ A A1 _ _ rs x RR1.out RX1.out).mono ?_
  rintro e w2 ⟨n2, rfl, rfl⟩
  have hc : cmpI (V rs) (V x) = -1 := by
    refine cmpI_lt ?_
    have h1 := V_nonneg RR.out.2
    have h2 := HV.out
    rw [HX.out, V_limbs, E1.out]
    omega
  rw [hc]
  clear hc
  have HB2 := Lib.hid (below_drewN HB1.out n2)
  have RR2 := Lib.hid (RR1.out.below (below_drewN (Below.refl _ _) n2))
  clear HB1 RX1 RR1 RR
  have hmk : ∀ W : World, (Instr.makeSlice 29 (.int .i64 0) (.int .i64 (k : Int))).run Try.prog W = .ok (.slice (some ⟨W.heap.size, 0, none⟩) 0 k) (W.alloc (.cells (madeCells #[.int .i64 0] k) 3)) := by
    intro W
    have h := run_make (P := Try.prog) W 29 3 i0 _ Try.underlying29 hi hz0 .i64 .i64 0 (k : Int) (by omega) (by omega) (by rw [hz2]; omega) (by omega)
    rw [hz1, Nat.mul_one] at h
    exact h
  have HO0 : Hid (OwnI ((w1.drewN n2).alloc (.cells (madeCells #[.int .i64 0] k) 3 (0, 0))) w.heap.size 3 .i64 (.slice (some ⟨w1.heap.size, 0, none⟩) 0 k) []) :=
    World.ownsRow_made (base := w.heap.size) (e := 3) (size := 1) (w1.drewN n2) (madeCells #[.int .i64 0] k) k HB2.out.size (by simp only [maxLen]; omega) (by simp [size_madeCells])
  have HBa : Hid (Below (w1.drewN n2).heap.size (w1.drewN n2) ((w1.drewN n2).alloc (.cells (madeCells #[.int .i64 0] k) 3 (0, 0)))) := (Below.refl _ _).alloc (Nat.le_refl _) _
  go_wp2_with fail
  clear hmk
  refine (norm_f _ A c rs (RR2.out.below HBa.out) (by omega)).mono ?_
  rintro e w3 ⟨g3, c3, lf, hg3, rfl, HL, hl, hB⟩
  have HB3 := Lib.hid (below_seq HB2.out (below_seq HBa.out hB))
  have HO3 := HO0.out.below hB
  have RL3 := Lib.hid hl
  have SL3 : Hid (SepV (.slice (some ⟨w1.heap.size, 0, none⟩) 0 k) (some ⟨g3, 0, none⟩) lf) := SepV.new HO0.out hg3 lf
  have HU3 : Hid (UnI n k (V rs).toNat 0 [] (V rs).toNat) := UnI.start HV.out
  have HLV : Hid (V lf = (((V rs).toNat : Nat) : Int)) := by show _ = _; rw [HL.out, V_limbs]
  have hll : lf.length ≤ 41 := by
    have h := limbs_len (n := (V rs).toNat) (m := rs.length) (by have := V_lt RR2.out.2; have := V_nonneg RR2.out.2; omega)
    rw [HL.out]
    omega
  clear hB hl hg3 HO0 HBa HB2 RR2
  go_wp2_with fail
  go_loopw [10, 11, 12] (fun sv lv xv wr => ∃ (d : Nat) (l : List Int) (g c : Nat) (lf : List Int) (left : Nat), xv = .int .i64 (d : Int) ∧ d ≤ n ∧ lv = .slice (some ⟨g, 0, none⟩) lf.length c ∧ lf.length ≤ 41 ∧ l.length ≤ k ∧ Hid (V lf = (left : Int)) ∧ Hid (UnI n k (V rs).toNat d l left) ∧ OwnI wr w.heap.size 3 .i64 sv l ∧ Hid (RN wr (some ⟨g, 0, none⟩) c lf) ∧ Hid (SepV sv (some ⟨g, 0, none⟩) lf) ∧ Hid (Below w.heap.size w wr)) (fun _ _ xv _ => n - (intOf xv).toNat)
  case atStart => exact ⟨0, [], g3, c3, lf, _, rfl, Nat.zero_le _, rfl, hll, Nat.zero_le _, HLV, HU3, HO3, RL3, SL3, HB3⟩
  case round =>
    clear HO3 RL3 SL3 HU3 HLV hll HB3
    obtain ⟨d, l, g, c, lf, left, rfl, hd, rfl, hlf, hlk, HLV, HU, HO, RL, SL, HB⟩ := hrel
    obtain ⟨A10, c10, rfl, _⟩ := own_rk HO
    by_cases hlt : l.length < k
    · have dlt : decide ((l.length : Int) < (k : Int)) = true := decide_eq_true (by omega)
      have hdn : d < n := (HU.out.lt hlt).choose_spec.choose_spec.2.2
      have EC : Hid (chI ((n : Int) - 1 - (d : Int)) ((k : Int) - (l.length : Int) - 1) = ch (n - 1 - d) (k - l.length - 1)) := by
        show _ = _
        rw [show (n : Int) - 1 - (d : Int) = ((n - 1 - d : Nat) : Int) by omega, show (k : Int) - (l.length : Int) - 1 = ((k - l.length - 1 : Nat) : Int) by omega]
        unfold chI
        rw [if_neg (by omega)]
        rfl
      go_wp2_with fail
      refine (choose_ok _ _ _ (by omega) (by omega)).mono ?_
      rintro e w4 ⟨A4, c4, y, rfl, HY, hy, hB⟩
      have HBy := Lib.hid (below_seq HB.out hB)
      have HOy := Lib.hid (HO.below hB)
      have RLy := Lib.hid (RL.out.below hB)
      have RYy := Lib.hid hy
      have HVY : Hid (V y = ((ch (n - 1 - d) (k - l.length - 1) : Nat) : Int)) := by show _ = _; rw [HY.out, V_limbs, EC.out]
      clear hB hy HO RL HB
      go_wp2_with fail
      by_cases hle : V y ≤ V lf
      · have hsk : Hid (¬ left < ch (n - 1 - d) (k - l.length - 1)) := by
          show ¬ _
          have h1 := HVY.out
          have h2 := HLV.out
          omega
        have HE : Hid ((V lf).toNat - (V y).toNat = left - ch (n - 1 - d) (k - l.length - 1)) := by
          show _ = _
          rw [HVY.out, HLV.out]
          omega
        refine (sub_f _ _ _ _ _ lf y RLy.out RYy.out hle (by omega)).mono ?_
        clear hle
        rintro e w5 ⟨g5, c5, z, hg5, rfl, HZ, hz, hB⟩
        have HBz := Lib.hid (below_seq HBy.out hB)
        have HOz := Lib.hid (HOy.out.below hB)
        have RZ := Lib.hid hz
        have SZ : Hid (SepV (.slice A10 l.length c10) (some ⟨g5, 0, none⟩) z) := SepV.new HOy.out hg5 z
        have HVZ : Hid (V z = ((left - ch (n - 1 - d) (k - l.length - 1) : Nat) : Int)) := by show _ = _; rw [HZ.out, V_limbs, HE.out]
        have hzl : z.length ≤ 41 := by
          have h := limbs_len (n := (V lf).toNat - (V y).toNat) (m := lf.length) (by have := V_lt RLy.out.2; have := V_nonneg RLy.out.2; have := V_nonneg RYy.out.2; omega)
          rw [HZ.out]
          omega
        have HUz := Lib.hid (HU.out.skip hlt hsk.out)
        clear hB hz hg5 HU HOy
        go_wp2_with fail
        go_roundw
        case rel => exact ⟨d + 1, l, g5, c5, z, _, by go_num, hdn, rfl, hzl, hlk, HVZ, HUz, HOz, RZ, SZ, HBz⟩
        case measure => simp [intOf]; omega
      · have hlt2 : left < ch (n - 1 - d) (k - l.length - 1) := by
          have h1 := HVY.out
          have h2 := HLV.out
          omega
        have HUz := Lib.hid (HU.out.take hlt hlt2)
        have hlt3 : V lf < V y := by omega
        clear hlt2 HU hle
        refine (sub_no _ _ _ _ _ lf y RLy.out RYy.out hlt3).mono ?_
        rintro e w5 ⟨A5, c5, z, rfl, HZ, hz, hB⟩
        have HBz := below_seq HBy.out hB
        have HOz := HOy.below hB
        have RLz := Lib.hid (RLy.out.below hB)
        clear hB hz hlt3 HOy RLy RYy HY HVY HBy
        go_wp2_with (at_builtin; refine wpList_append2 rfl _ _ 29 rfl Try.underlying29 hi hz0 hz1 hz2 rfl rfl HOz HBz HBz.size ?_ ?_; (omega))
        intro v1 w6 HO6 HB6 HG6 HM6
        have RL6 := Lib.hid (RLz.out.keep SL.out HG6.out)
        have SL6 := Lib.hid (SL.out.moved RLz.out.1 HM6.out)
        clear RLz SL HG6 HM6 HOz HBz
        go_wp2_with fail
        go_roundw
        case rel => exact ⟨d + 1, l ++ [(d : Int)], g, c, lf, _, by go_num, hdn, rfl, hlf, by simp; omega, HLV, HUz, HO6, RL6, SL6, HB6⟩
        case measure => simp [intOf]; omega
    · have dlt : decide ((l.length : Int) < (k : Int)) = false := decide_eq_false (by omega)
      have hlk2 : l.length = k := by omega
      have HE := Lib.hid (HU.out.done hlk2)
      obtain ⟨A6, c6, h6, hr6⟩ := own_rk HO
      have HR6 := Lib.hid hr6
      cases h6
      clear hr6
      go_wp2_with fail
      go_ret2
      exact ⟨A10, c10, l, rfl, HE, HR6.out, HB.out⟩

set_option maxHeartbeats 1600000 in
theorem unrank_no (w : World) (n k : Int) (A : Option Addr) (c : Nat) (rs : List Int) (hr : RN w A c rs) (h : (n < 0 ∨ 200 < n) ∨ (0 ≤ n ∧ n ≤ 200 ∧ (k < 0 ∨ (0 ≤ k ∧ n < k) ∨ (0 ≤ k ∧ k ≤ n ∧ (ch n.toNat k.toNat : Int) ≤ V rs)))) :
    Calls Try.prog 22 #[.int .i64 n, .int .i64 k, .slice A rs.length c] w (RetLno w) := by
  rcases h with h | ⟨h0, h1, h⟩
  · go_enter Try.func22, Try.ntmps22
    go_wp2_with fail
    refine (choose_no _ n k h).mono ?_
    rintro e w1 ⟨A1, c1, x, rfl, HX, hx, hB⟩
    go_wp2_with fail
    go_ret2
    exact ⟨rfl, hB⟩
  · rcases h with h | ⟨h2, h⟩ | ⟨h2, h3, h⟩
    · have d3 : decide (k < 0) = true := decide_eq_true h
      go_enter Try.func22, Try.ntmps22
      go_wp2_with fail
      refine (choose_ok _ n k h0 h1).mono ?_
      rintro e w1 ⟨A1, c1, x, rfl, HX, hx, hB⟩
      go_wp2_with fail
      go_ret2
      exact ⟨rfl, hB⟩
    · have d3 : decide (k < 0) = false := decide_eq_false (by omega)
      have d4 : decide (n < k) = true := decide_eq_true h
      go_enter Try.func22, Try.ntmps22
      go_wp2_with fail
      refine (choose_ok _ n k h0 h1).mono ?_
      rintro e w1 ⟨A1, c1, x, rfl, HX, hx, hB⟩
      go_wp2_with fail
      go_ret2
      exact ⟨rfl, hB⟩
    · have d3 : decide (k < 0) = false := decide_eq_false (by omega)
      have d4 : decide (n < k) = false := decide_eq_false (by omega)
      have E1 : Hid (chI n k = ch n.toNat k.toNat) := by show _ = _; unfold chI; rw [if_neg (by omega)]
      have HV := Lib.hid h
      have RR := Lib.hid hr
      clear h hr
      go_enter Try.func22, Try.ntmps22
      go_wp2_with fail
      refine (choose_ok _ n k h0 h1).mono ?_
      rintro e w1 ⟨A1, c1, x, rfl, HX, hx, hB⟩
      have HB1 := Lib.hid hB
      have RX1 := Lib.hid hx
      have RR1 := Lib.hid (RR.out.below hB)
      clear hB hx
      go_wp2_with fail
      refine (cmp_ok _ A A1 _ _ rs x RR1.out RX1.out).mono ?_
      rintro e w2 ⟨n2, rfl, rfl⟩
      have hc : decide (0 ≤ cmpI (V rs) (V x)) = true := by
        refine decide_eq_true ?_
        have h2 := HV.out
        have h1 : V x ≤ V rs := by rw [HX.out, V_limbs, E1.out]; exact h2
        unfold cmpI
        split <;> (try split) <;> omega
      have HB2 := Lib.hid (below_drewN HB1.out n2)
      go_wp2_with fail
      go_ret2
      exact ⟨rfl, HB2.out⟩

end Go.Proofs.Ytmafifpibfjomaa.M
