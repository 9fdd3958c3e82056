/- The scores of several abilities, and the first that reaches a score, by the program. -/
import Derived.Test.YtgdlnmhpnlmofaaMany
namespace Go.Proofs.Ytgdlnmhpnlmofaa.M
set_option maxRecDepth 10000
open Go.RowKit
set_option linter.unusedVariables false
set_option linter.unusedSimpArgs false
theorem info_int2 : (Try.prog.info? 3).map (fun i => (i.zero, i.size, i.bytes)) = some (some (.int .i64 0), 1, 8) := by kernel_rfl
theorem OwnI.nil2 (w : World) (base e : Nat) (k : IntKind) : OwnI w base e k (.slice none 0 0) [] := World.ownsRow_nil w base e 1
/-- The first error of a scale and a list of n. -/
def chkE (E : Int) (n : Nat) : Int := if E = 0 then (if 61 < n then 5 else 0) else E
/-- The scores of a list. -/
def scoresOf (a b : Rat) (lo hi md : Int) (rs : List Rt) : List Int := rs.map fun r => scoreQ a b lo hi md r.q
/-- Numbers and an error. -/
def RetTab (l : List Int) (e0 : Int) (w : World) (e : Ending) (w' : World) : Prop := ∃ A c xs, e = .returned (.tuple #[.slice A xs.length c, .int .i64 e0]) ∧ Hid (xs = l) ∧ Rk w' .i64 A c xs ∧ Below w.heap.size w w'
def tabV (a b : Rat) (lo hi md : Int) (rs : List Rt) : List Int := if chkE (linE a lo hi md) rs.length = 0 then scoresOf a b lo hi md rs else []
def disord (rs : List Rt) : Prop := ∃ i r s, rs[i]? = some r ∧ rs[i + 1]? = some s ∧ cmpQ s.q r.q < 0
/-- What Reach answers. -/
def ReachP (rs : List Rt) (ss : List Int) (least k e0 : Int) : Prop := (disord rs ∧ k = 0 ∧ e0 = 23) ∨ (¬ disord rs ∧ ((∃ i : Nat, i < ss.length ∧ k = i ∧ e0 = 0 ∧ least ≤ dg ss i ∧ ∀ j, j < i → dg ss j < least) ∨ (k = 0 ∧ e0 = 6 ∧ ∀ j, j < ss.length → dg ss j < least)))
theorem scores_at {a b : Rat} {lo hi md : Int} {rs : List Rt} {k : Nat} {r : Rt} (h : rs[k]? = some r) : dg (scoresOf a b lo hi md rs) k = scoreQ a b lo hi md r.q := by
  unfold dg scoresOf
  rw [List.getD_eq_getElem?_getD, List.getElem?_map, h]
  rfl
theorem scores_len {a b : Rat} {lo hi md : Int} {rs : List Rt} : (scoresOf a b lo hi md rs).length = rs.length := by unfold scoresOf; rw [List.length_map]
theorem scores_next {a b : Rat} {lo hi md : Int} {rs : List Rt} {k : Nat} {r : Rt} (h : rs[k]? = some r) : scoresOf a b lo hi md (rs.take (k + 1)) = scoresOf a b lo hi md (rs.take k) ++ [scoreQ a b lo hi md r.q] := by
  unfold scoresOf
  rw [List.take_add_one, h, List.map_append]
  rfl
theorem cmpQ_swap {p q : Rat} : 0 < cmpQ p q ↔ cmpQ q p < 0 := by
  rw [cmpQ_lt]
  unfold cmpQ
  by_cases h : p < q
  · rw [if_pos h]
    refine ⟨fun h1 => absurd h1 (by decide), fun h1 => ?_⟩
    have h3 : q ≤ p := Rat.le_of_lt h1
    exact absurd h3 (fun h4 => absurd h (Rat.not_lt.2 h4))
  · rw [if_neg h]
    by_cases h2 : p = q
    · rw [if_pos h2, h2]
      exact ⟨fun h1 => absurd h1 (by decide), fun h1 => absurd h1 Rat.lt_irrefl⟩
    · rw [if_neg h2]
      refine ⟨fun _ => ?_, fun _ => by decide⟩
      rcases Classical.em (q < p) with h3 | h3
      · exact h3
      · exact absurd (Rat.le_antisymm (Rat.not_lt.1 h3) (Rat.not_lt.1 h)) h2

set_option maxHeartbeats 1600000 in
theorem check_ok (w : World) (la lb : Bool) (LA LD LB LE : Option Addr) (ca da cb db : Nat) (xa ya xb yb : List Int) (lo hi md : Int) (hxa : RN w LA ca xa) (hya : RN w LD da ya) (hxb : RN w LB cb xb) (hyb : RN w LE db yb) (sxa : xa.length ≤ 20) (sya : ya.length ≤ 20) (sxb : xb.length ≤ 20) (syb : yb.length ≤ 20) (S : Option Addr) (cS : Nat) (rs : List Rt) :
    Calls Try.prog 42 #[.agg #[.bool la, .slice LA xa.length ca, .slice LD ya.length da, .bool lb, .slice LB xb.length cb, .slice LE yb.length db, .int .i64 lo, .int .i64 hi, .int .i64 md], .slice S rs.length cS] w (fun e w' => e = .returned (.int .i64 (chkE (linE (qv la xa ya) lo hi md) rs.length)) ∧ Below w.heap.size w w') := by
  have HXA := Lib.hid hxa
  have HYA := Lib.hid hya
  have HXB := Lib.hid hxb
  have HYB := Lib.hid hyb
  clear hxa hya hxb hyb
  go_enter Try.func42, Try.ntmps42
  obtain ⟨E, hE⟩ : ∃ E, linE (qv la xa ya) lo hi md = E := ⟨_, rfl⟩
  have HE := Lib.hid hE
  rw [hE]
  clear hE
  go_upto_region 1 with fail
  obtain ⟨W, hW⟩ : ∃ W, W = (w.alloc (.cells #[.bool la, .slice LA xa.length ca, .slice LD ya.length da, .bool lb, .slice LB xb.length cb, .slice LE yb.length db, .int .i64 lo, .int .i64 hi, .int .i64 md] 35)) := ⟨_, rfl⟩
  rw [← hW]
  have H_W : Mo w W [(w.heap.size, 35, #[.bool la, .slice LA xa.length ca, .slice LD ya.length da, .bool lb, .slice LB xb.length cb, .slice LE yb.length db, .int .i64 lo, .int .i64 hi, .int .i64 md])] [] := by
    rw [hW]
    have h := ((Mo.start w).alloc (t := 35) (cs := #[.bool la, .slice LA xa.length ca, .slice LD ya.length da, .bool lb, .slice LB xb.length cb, .slice LE yb.length db, .int .i64 lo, .int .i64 hi, .int .i64 md]) (nd_lin _ _ _ _ _ _ _ _ _ _ _ _ _ _ _ _ _))
    simp only [size_alloc, List.nil_append, List.cons_append] at h
    exact h
  clear hW
  have H_W := Lib.hid H_W
  have k0Wc0 := ((H_W.out.var 0 rfl)).cell 0 rfl
  have k0Wc1 := ((H_W.out.var 0 rfl)).cell 1 rfl
  have k0Wc2 := ((H_W.out.var 0 rfl)).cell 2 rfl
  have k0Wc3 := ((H_W.out.var 0 rfl)).cell 3 rfl
  have k0Wc4 := ((H_W.out.var 0 rfl)).cell 4 rfl
  have k0Wc5 := ((H_W.out.var 0 rfl)).cell 5 rfl
  have k0Wc6 := ((H_W.out.var 0 rfl)).cell 6 rfl
  have k0Wc7 := ((H_W.out.var 0 rfl)).cell 7 rfl
  have k0Wc8 := ((H_W.out.var 0 rfl)).cell 8 rfl
  go_wp2_with fail
  refine (svalid_ok W la lb LA LD LB LE ca da cb db xa ya xb yb lo hi md (HXA.out.below H_W.out.below) (HYA.out.below H_W.out.below) (HXB.out.below H_W.out.below) (HYB.out.below H_W.out.below) sxa sya sxb syb).mono ?_
  rw [HE.out]
  rintro e_ w1 ⟨rfl, hB⟩
  have H_w1 := Lib.hid (Mo.call H_W.out hB)
  have k0w1c0 := ((H_w1.out.var 0 rfl)).cell 0 rfl
  have k0w1c1 := ((H_w1.out.var 0 rfl)).cell 1 rfl
  have k0w1c2 := ((H_w1.out.var 0 rfl)).cell 2 rfl
  have k0w1c3 := ((H_w1.out.var 0 rfl)).cell 3 rfl
  have k0w1c4 := ((H_w1.out.var 0 rfl)).cell 4 rfl
  have k0w1c5 := ((H_w1.out.var 0 rfl)).cell 5 rfl
  have k0w1c6 := ((H_w1.out.var 0 rfl)).cell 6 rfl
  have k0w1c7 := ((H_w1.out.var 0 rfl)).cell 7 rfl
  have k0w1c8 := ((H_w1.out.var 0 rfl)).cell 8 rfl
  clear hB
  by_cases h0 : E = 0
  · subst h0
    by_cases h1 : 61 < rs.length
    · have d1 : decide ((61 : Int) < (rs.length : Int)) = true := decide_eq_true (by omega)
      have d2 : decide (61 < rs.length) = true := decide_eq_true h1
      have HC : Hid (chkE 0 rs.length = 5) := by show _ = _; unfold chkE; rw [if_pos rfl, if_pos h1]
      clear h1
      go_wp2_with fail
      go_ret
      exact ⟨by rw [HC.out]; rfl, H_w1.out.below⟩
    · have d1 : decide ((61 : Int) < (rs.length : Int)) = false := decide_eq_false (by omega)
      have d2 : decide (61 < rs.length) = false := decide_eq_false h1
      have HC : Hid (chkE 0 rs.length = 0) := by show _ = _; unfold chkE; rw [if_pos rfl, if_neg h1]
      clear h1
      go_wp2_with fail
      go_ret
      exact ⟨by rw [HC.out]; rfl, H_w1.out.below⟩
  · have e1 : (E == 0) = false := beq_eq_false_iff_ne.2 h0
    have e2 : (E != 0) = true := by simpa using h0
    have HC : Hid (chkE E rs.length = E) := by show _ = _; unfold chkE; rw [if_neg h0]
    clear h0
    go_wp2_with fail
    go_ret
    exact ⟨by rw [HC.out]; rfl, H_w1.out.below⟩

set_option maxHeartbeats 3200000 in
theorem table_ok (w : World) (la lb : Bool) (LA LD LB LE : Option Addr) (ca da cb db : Nat) (xa ya xb yb : List Int) (lo hi md : Int) (hxa : RN w LA ca xa) (hya : RN w LD da ya) (hxb : RN w LB cb xb) (hyb : RN w LE db yb) (sxa : xa.length ≤ 20) (sya : ya.length ≤ 20) (sxb : xb.length ≤ 20) (syb : yb.length ≤ 20) (S : Option Addr) (cS : Nat) (rs : List Rt) (hrs : Rs w S cS rs) (hsm : ∀ (j : Nat) (r : Rt), rs[j]? = some r → r.xs.length ≤ 20 ∧ r.ys.length ≤ 20) :
    Calls Try.prog 23 #[.agg #[.bool la, .slice LA xa.length ca, .slice LD ya.length da, .bool lb, .slice LB xb.length cb, .slice LE yb.length db, .int .i64 lo, .int .i64 hi, .int .i64 md], .slice S rs.length cS] w (RetTab (tabV (qv la xa ya) (qv lb xb yb) lo hi md rs) (chkE (linE (qv la xa ya) lo hi md) rs.length) w) := by
  have HXA := Lib.hid hxa
  have HYA := Lib.hid hya
  have HXB := Lib.hid hxb
  have HYB := Lib.hid hyb
  clear hxa hya hxb hyb
  have hmx : rs.length ≤ 9223372036854775807 := Nat.le_trans hrs.1 hrs.2.1
  have HRS := Lib.hid hrs
  clear hrs
  have HSM := Lib.hid hsm
  clear hsm
  go_enter Try.func23, Try.ntmps23
  obtain ⟨E, hE⟩ : ∃ E, chkE (linE (qv la xa ya) lo hi md) rs.length = E := ⟨_, rfl⟩
  have HE := Lib.hid hE
  try rw [hE]
  clear hE
  go_upto_region 1 with fail
  obtain ⟨W, hW⟩ : ∃ W, W = (w.alloc (.cells #[.bool la, .slice LA xa.length ca, .slice LD ya.length da, .bool lb, .slice LB xb.length cb, .slice LE yb.length db, .int .i64 lo, .int .i64 hi, .int .i64 md] 35)) := ⟨_, rfl⟩
  rw [← hW]
  have H_W : Mo w W [(w.heap.size, 35, #[.bool la, .slice LA xa.length ca, .slice LD ya.length da, .bool lb, .slice LB xb.length cb, .slice LE yb.length db, .int .i64 lo, .int .i64 hi, .int .i64 md])] [] := by
    rw [hW]
    have h := ((Mo.start w).alloc (t := 35) (cs := #[.bool la, .slice LA xa.length ca, .slice LD ya.length da, .bool lb, .slice LB xb.length cb, .slice LE yb.length db, .int .i64 lo, .int .i64 hi, .int .i64 md]) (nd_lin _ _ _ _ _ _ _ _ _ _ _ _ _ _ _ _ _))
    simp only [size_alloc, List.nil_append, List.cons_append] at h
    exact h
  clear hW
  have H_W := Lib.hid H_W
  have k0Wc0 := ((H_W.out.var 0 rfl)).cell 0 rfl
  have k0Wc1 := ((H_W.out.var 0 rfl)).cell 1 rfl
  have k0Wc2 := ((H_W.out.var 0 rfl)).cell 2 rfl
  have k0Wc3 := ((H_W.out.var 0 rfl)).cell 3 rfl
  have k0Wc4 := ((H_W.out.var 0 rfl)).cell 4 rfl
  have k0Wc5 := ((H_W.out.var 0 rfl)).cell 5 rfl
  have k0Wc6 := ((H_W.out.var 0 rfl)).cell 6 rfl
  have k0Wc7 := ((H_W.out.var 0 rfl)).cell 7 rfl
  have k0Wc8 := ((H_W.out.var 0 rfl)).cell 8 rfl
  go_wp2_with fail
  refine (check_ok W la lb LA LD LB LE ca da cb db xa ya xb yb lo hi md (HXA.out.below H_W.out.below) (HYA.out.below H_W.out.below) (HXB.out.below H_W.out.below) (HYB.out.below H_W.out.below) sxa sya sxb syb S cS rs).mono ?_
  rw [HE.out]
  rintro e_ w1 ⟨rfl, hB⟩
  have H_w1 := Lib.hid (Mo.call H_W.out hB)
  have k0w1c0 := ((H_w1.out.var 0 rfl)).cell 0 rfl
  have k0w1c1 := ((H_w1.out.var 0 rfl)).cell 1 rfl
  have k0w1c2 := ((H_w1.out.var 0 rfl)).cell 2 rfl
  have k0w1c3 := ((H_w1.out.var 0 rfl)).cell 3 rfl
  have k0w1c4 := ((H_w1.out.var 0 rfl)).cell 4 rfl
  have k0w1c5 := ((H_w1.out.var 0 rfl)).cell 5 rfl
  have k0w1c6 := ((H_w1.out.var 0 rfl)).cell 6 rfl
  have k0w1c7 := ((H_w1.out.var 0 rfl)).cell 7 rfl
  have k0w1c8 := ((H_w1.out.var 0 rfl)).cell 8 rfl
  clear hB
  by_cases h0 : E = 0
  rotate_left
  · have e1 : (E == 0) = false := beq_eq_false_iff_ne.2 h0
    have e2 : (E != 0) = true := by simpa using h0
    have HN0 : Hid (E ≠ 0) := h0
    clear h0
    go_wp2_with fail
    go_ret2
    exact ⟨none, 0, [], rfl, by show _ = _; unfold tabV; rw [HE.out, if_neg (fun h => HN0.out h)], ⟨Nat.le_refl _, by omega, fun j hj => by simp at hj⟩, H_w1.out.below⟩
  subst h0
  have HK : Hid (linE (qv la xa ya) lo hi md = 0 ∧ rs.length ≤ 61) := by
    have h := HE.out
    unfold chkE at h
    show _ ∧ _
    split at h
    · split at h
      · cases h
      · exact ⟨by assumption, by omega⟩
    · contradiction
  obtain ⟨k1, k2, k3, k4, k5⟩ := linE_ok HK.out.1
  have hl61 := HK.out.2
  clear k1 k4
  obtain ⟨i0, hi0, hz0, hz1, hz2⟩ := info_parts info_int2
  go_wp2_with fail
  go_loopw [7, 9, 18] (fun ov pv iv wr => ∃ (k : Nat) (l : List Int), iv = .int .i64 (k : Int) ∧ k ≤ rs.length ∧ Hid (l = scoresOf (qv la xa ya) (qv lb xb yb) lo hi md (rs.take k)) ∧ OwnI wr w1.heap.size 3 .i64 ov l ∧ Hid (Below w1.heap.size w1 wr)) (fun _ _ iv _ => rs.length - (intOf iv).toNat)
  case atStart => exact ⟨0, [], rfl, Nat.zero_le _, by simp [Hid, scoresOf], OwnI.nil2 _ _ _ _, Below.refl _ _⟩
  case round =>
    obtain ⟨k, l, rfl, hk, HL, HO, HB⟩ := hrel
    obtain ⟨A10, c10, rfl, hr10⟩ := own_rk HO
    have HR10 := Lib.hid hr10
    clear hr10
    have hll : l.length ≤ 61 := by rw [HL.out, scores_len, List.length_take]; omega
    by_cases hlt : k < rs.length
    · have d1 : decide ((k : Int) < (rs.length : Int)) = true := decide_eq_true (by omega)
      have H_wr := Lib.hid (Mo.call H_w1.out HB.out)
      have k0wrc0 := ((H_wr.out.var 0 rfl)).cell 0 rfl
      have k0wrc1 := ((H_wr.out.var 0 rfl)).cell 1 rfl
      have k0wrc2 := ((H_wr.out.var 0 rfl)).cell 2 rfl
      have k0wrc3 := ((H_wr.out.var 0 rfl)).cell 3 rfl
      have k0wrc4 := ((H_wr.out.var 0 rfl)).cell 4 rfl
      have k0wrc5 := ((H_wr.out.var 0 rfl)).cell 5 rfl
      have k0wrc6 := ((H_wr.out.var 0 rfl)).cell 6 rfl
      have k0wrc7 := ((H_wr.out.var 0 rfl)).cell 7 rfl
      have k0wrc8 := ((H_wr.out.var 0 rfl)).cell 8 rfl
      obtain ⟨ad, b, A, c2, xs, B, d, ys, rfl, hr, h0, h1, h2, h3, h4⟩ := (HRS.out.below H_wr.out.below).at hlt
      have HR := Lib.hid hr
      have H3 := Lib.hid h3
      have H4 := Lib.hid h4
      clear hr h3 h4
      have hsm := HSM.out _ _ HR.out
      go_upto_region 8 with fail
      obtain ⟨T, hT⟩ : ∃ T, T = wr.alloc (.cells #[.bool b, .slice A xs.length c2, .slice B ys.length d] 33) := ⟨_, rfl⟩
      rw [← hT]
      have HBT : Hid (Below wr.heap.size wr T) := by rw [hT]; exact (Below.refl _ _).alloc (Nat.le_refl _) _
      have HOT : OwnI T w1.heap.size 3 .i64 (.slice A10 l.length c10) l := by rw [hT]; exact World.ownsRow.alloc HO _
      have H_T : Hid (Mo w T _ _) := Lib.hid (by rw [hT]; exact H_wr.out.alloc (t := 33) (cs := #[.bool b, .slice A xs.length c2, .slice B ys.length d]) (nd_rat _ _ _ _ _ _ _))
      clear hT
      have k0Tc0 := ((H_T.out.var 0 rfl)).cell 0 rfl
      have k0Tc1 := ((H_T.out.var 0 rfl)).cell 1 rfl
      have k0Tc2 := ((H_T.out.var 0 rfl)).cell 2 rfl
      have k0Tc3 := ((H_T.out.var 0 rfl)).cell 3 rfl
      have k0Tc4 := ((H_T.out.var 0 rfl)).cell 4 rfl
      have k0Tc5 := ((H_T.out.var 0 rfl)).cell 5 rfl
      have k0Tc6 := ((H_T.out.var 0 rfl)).cell 6 rfl
      have k0Tc7 := ((H_T.out.var 0 rfl)).cell 7 rfl
      have k0Tc8 := ((H_T.out.var 0 rfl)).cell 8 rfl
      have k1Tc0 := ((H_T.out.var 1 rfl)).cell 0 rfl
      have k1Tc1 := ((H_T.out.var 1 rfl)).cell 1 rfl
      have k1Tc2 := ((H_T.out.var 1 rfl)).cell 2 rfl
      go_wp2_with fail
      refine (sscore_ok T la lb LA LD LB LE ca da cb db xa ya xb yb lo hi md (HXA.out.below H_T.out.below) (HYA.out.below H_T.out.below) (HXB.out.below H_T.out.below) (HYB.out.below H_T.out.below) sxa sya sxb syb b A B c2 d xs ys (H3.out.below HBT.out) (H4.out.below HBT.out) hsm.1 hsm.2 k2 k3 k5).mono ?_
      rintro e_ w4 ⟨rfl, hB⟩
      have H_w4 := Lib.hid (Mo.call H_T.out hB)
      have HB4 := below_seq HB.out (below_seq HBT.out hB)
      have HO4 := HOT.below hB
      have HLN : Hid (l ++ [scoreQ (qv la xa ya) (qv lb xb yb) lo hi md (qv b xs ys)] = scoresOf (qv la xa ya) (qv lb xb yb) lo hi md (rs.take (k + 1))) := by show _ = _; rw [scores_next HR.out, HL.out]; rfl
      clear hB
      obtain ⟨s, hs⟩ : ∃ s, scoreQ (qv la xa ya) (qv lb xb yb) lo hi md (qv b xs ys) = s := ⟨_, rfl⟩
      rw [hs] at HLN ⊢
      clear hs HO HOT HBT HB
      go_wp2_with (at_builtin; refine wpList_append2 rfl _ _ 22 rfl Try.underlying22 hi0 hz0 hz1 hz2 rfl rfl HO4 HB4 HB4.size ?_ ?_; (omega))
      intro v1 w6 HO6 HB6 HG6 HM6
      clear HG6 HM6 HO4 HB4
      go_wp2_with fail
      go_roundw
      case rel => exact ⟨k + 1, l ++ [s], by go_num, hlt, HLN, HO6, HB6⟩
      case measure => simp [intOf]; omega
    · have d1 : decide ((k : Int) < (rs.length : Int)) = false := decide_eq_false (by omega)
      have d2 : decide (k < rs.length) = false := decide_eq_false hlt
      have HF : Hid (l = tabV (qv la xa ya) (qv lb xb yb) lo hi md rs) := by show _ = _; unfold tabV; rw [HE.out, if_pos rfl, HL.out, List.take_of_length_le (by omega)]
      clear HO
      go_wp2_with fail
      go_ret2
      exact ⟨A10, c10, l, rfl, HF, HR10.out, (Mo.call H_w1.out HB.out).below⟩

end Go.Proofs.Ytgdlnmhpnlmofaa.M
