/- The scores of an interval's ends, by the program and by the reference; the law ScalingRanges: its walk. -/
import Derived.Test.YtgdlnmhpnlmofaaRefScore
namespace Go.Proofs.Ytgdlnmhpnlmofaa.M
set_option maxRecDepth 10000
open Go.RowKit
set_option linter.unusedVariables false
set_option linter.unusedSimpArgs false
theorem nd_span (b1 b2 : Bool) (A B C D : Option Addr) (m1 c1 m2 c2 m3 c3 m4 c4 : Nat) : NoDigits #[.bool b1, .slice A m1 c1, .slice B m2 c2, .bool b2, .slice C m3 c3, .slice D m4 c4] := by
  intro j n
  match j with
  | 0 => simp
  | 1 => simp
  | 2 => simp
  | 3 => simp
  | 4 => simp
  | 5 => simp
  | k + 6 => simp
def loI (a b : Int) : Int := if b < a then b else a
def hiI (a b : Int) : Int := if b < a then a else b

set_option maxHeartbeats 3200000 in
theorem srange_ok (w : World) (la lb : Bool) (LA LD LB LE : Option Addr) (ca da cb db : Nat) (xa ya xb yb : List Int) (lo hi md : Int) (hxa : RN w LA ca xa) (hya : RN w LD da ya) (hxb : RN w LB cb xb) (hyb : RN w LE db yb) (sxa : xa.length ≤ 20) (sya : ya.length ≤ 20) (sxb : xb.length ≤ 20) (syb : yb.length ≤ 20) (pb qb : Bool) (PA PD QA QD : Option Addr) (pc pe qc qe : Nat) (pn pd qn_ qd_ : List Int) (hpn : RN w PA pc pn) (hpd : RN w PD pe pd) (hqn : RN w QA qc qn_) (hqd : RN w QD qe qd_) (spn : pn.length ≤ 20) (spd : pd.length ≤ 20) (sqn : qn_.length ≤ 20) (sqd : qd_.length ≤ 20) :
    Calls Try.prog 18 #[.agg #[.bool la, .slice LA xa.length ca, .slice LD ya.length da, .bool lb, .slice LB xb.length cb, .slice LE yb.length db, .int .i64 lo, .int .i64 hi, .int .i64 md], .agg #[.bool pb, .slice PA pn.length pc, .slice PD pd.length pe, .bool qb, .slice QA qn_.length qc, .slice QD qd_.length qe]] w (fun e w' => e = .returned (.tuple #[.int .i64 (loI (scoreV (qv la xa ya) (qv lb xb yb) lo hi md (qv pb pn pd)) (scoreV (qv la xa ya) (qv lb xb yb) lo hi md (qv qb qn_ qd_))), .int .i64 (hiI (scoreV (qv la xa ya) (qv lb xb yb) lo hi md (qv pb pn pd)) (scoreV (qv la xa ya) (qv lb xb yb) lo hi md (qv qb qn_ qd_))), .int .i64 (linE (qv la xa ya) lo hi md)]) ∧ Below w.heap.size w w') := by
  have HXA := Lib.hid hxa
  have HYA := Lib.hid hya
  have HXB := Lib.hid hxb
  have HYB := Lib.hid hyb
  clear hxa hya hxb hyb
  have HPN := Lib.hid hpn
  have HPD := Lib.hid hpd
  have HQN := Lib.hid hqn
  have HQD := Lib.hid hqd
  clear hpn hpd hqn hqd
  go_enter Try.func18, Try.ntmps18
  obtain ⟨E, hE⟩ : ∃ E, linE (qv la xa ya) lo hi md = E := ⟨_, rfl⟩
  obtain ⟨a, ha⟩ : ∃ a, scoreV (qv la xa ya) (qv lb xb yb) lo hi md (qv pb pn pd) = a := ⟨_, rfl⟩
  obtain ⟨c, hc⟩ : ∃ c, scoreV (qv la xa ya) (qv lb xb yb) lo hi md (qv qb qn_ qd_) = c := ⟨_, rfl⟩
  have HE := Lib.hid hE
  have HA := Lib.hid ha
  have HC := Lib.hid hc
  rw [hE, ha, hc]
  clear hE ha hc
  go_upto_region 1 with fail
  obtain ⟨W, hW⟩ : ∃ W, W = ((w.alloc (.cells #[.bool la, .slice LA xa.length ca, .slice LD ya.length da, .bool lb, .slice LB xb.length cb, .slice LE yb.length db, .int .i64 lo, .int .i64 hi, .int .i64 md] 35)).alloc (.cells #[.bool pb, .slice PA pn.length pc, .slice PD pd.length pe, .bool qb, .slice QA qn_.length qc, .slice QD qd_.length qe] 42)) := ⟨_, rfl⟩
  rw [← hW]
  have H_W : Mo w W [(w.heap.size, 35, #[.bool la, .slice LA xa.length ca, .slice LD ya.length da, .bool lb, .slice LB xb.length cb, .slice LE yb.length db, .int .i64 lo, .int .i64 hi, .int .i64 md]), (w.heap.size + 1, 42, #[.bool pb, .slice PA pn.length pc, .slice PD pd.length pe, .bool qb, .slice QA qn_.length qc, .slice QD qd_.length qe])] [] := by
    rw [hW]
    have h := (((Mo.start w).alloc (t := 35) (cs := #[.bool la, .slice LA xa.length ca, .slice LD ya.length da, .bool lb, .slice LB xb.length cb, .slice LE yb.length db, .int .i64 lo, .int .i64 hi, .int .i64 md]) (nd_lin _ _ _ _ _ _ _ _ _ _ _ _ _ _ _ _ _)).alloc (t := 42) (cs := #[.bool pb, .slice PA pn.length pc, .slice PD pd.length pe, .bool qb, .slice QA qn_.length qc, .slice QD qd_.length qe]) (nd_span _ _ _ _ _ _ _ _ _ _ _ _ _ _))
    simp only [size_alloc, List.nil_append, List.cons_append] at h
    exact h
  clear hW
  obtain ⟨gW1, hgW1⟩ : ∃ g, w.heap.size + 1 = g := ⟨_, rfl⟩
  rw [hgW1] at H_W ⊢
  clear hgW1
  have neW01 : w.heap.size ≠ gW1 := H_W.apart 0 1 _ _ _ _ _ _ rfl rfl (by decide)
  have neW10 : gW1 ≠ w.heap.size := H_W.apart 1 0 _ _ _ _ _ _ rfl rfl (by decide)
  have H_W := Lib.hid H_W
  have k0Wc0 := ((H_W.out.var 0 rfl)).cell 0 rfl
  have k0Wc1 := ((H_W.out.var 0 rfl)).cell 1 rfl
  have k0Wc2 := ((H_W.out.var 0 rfl)).cell 2 rfl
  have k0Wc3 := ((H_W.out.var 0 rfl)).cell 3 rfl
  have k0Wc4 := ((H_W.out.var 0 rfl)).cell 4 rfl
  have k0Wc5 := ((H_W.out.var 0 rfl)).cell 5 rfl
  have k0Wc6 := ((H_W.out.var 0 rfl)).cell 6 rfl
  have k0Wc7 := ((H_W.out.var 0 rfl)).cell 7 rfl
  have k0Wc8 := ((H_W.out.var 0 rfl)).cell 8 rfl
  have k1Wc0 := ((H_W.out.var 1 rfl)).cell 0 rfl
  have k1Wc1 := ((H_W.out.var 1 rfl)).cell 1 rfl
  have k1Wc2 := ((H_W.out.var 1 rfl)).cell 2 rfl
  have k1Wc3 := ((H_W.out.var 1 rfl)).cell 3 rfl
  have k1Wc4 := ((H_W.out.var 1 rfl)).cell 4 rfl
  have k1Wc5 := ((H_W.out.var 1 rfl)).cell 5 rfl
  go_wp2_with fail
  refine (svalid_ok W la lb LA LD LB LE ca da cb db xa ya xb yb lo hi md (HXA.out.below H_W.out.below) (HYA.out.below H_W.out.below) (HXB.out.below H_W.out.below) (HYB.out.below H_W.out.below) sxa sya sxb syb).mono ?_
  rw [HE.out]
  rintro e_ w1 ⟨rfl, hB⟩
  have H_w1 := Lib.hid (Mo.call H_W.out hB)
  have k0w1c0 := ((H_w1.out.var 0 rfl)).cell 0 rfl
  have k0w1c1 := ((H_w1.out.var 0 rfl)).cell 1 rfl
  have k0w1c2 := ((H_w1.out.var 0 rfl)).cell 2 rfl
  have k0w1c3 := ((H_w1.out.var 0 rfl)).cell 3 rfl
  have k0w1c4 := ((H_w1.out.var 0 rfl)).cell 4 rfl
  have k0w1c5 := ((H_w1.out.var 0 rfl)).cell 5 rfl
  have k0w1c6 := ((H_w1.out.var 0 rfl)).cell 6 rfl
  have k0w1c7 := ((H_w1.out.var 0 rfl)).cell 7 rfl
  have k0w1c8 := ((H_w1.out.var 0 rfl)).cell 8 rfl
  have k1w1c0 := ((H_w1.out.var 1 rfl)).cell 0 rfl
  have k1w1c1 := ((H_w1.out.var 1 rfl)).cell 1 rfl
  have k1w1c2 := ((H_w1.out.var 1 rfl)).cell 2 rfl
  have k1w1c3 := ((H_w1.out.var 1 rfl)).cell 3 rfl
  have k1w1c4 := ((H_w1.out.var 1 rfl)).cell 4 rfl
  have k1w1c5 := ((H_w1.out.var 1 rfl)).cell 5 rfl
  clear hB
  by_cases h0 : E = 0
  rotate_left
  · have e1 : (E == 0) = false := beq_eq_false_iff_ne.2 h0
    have e2 : (E != 0) = true := by simpa using h0
    obtain rfl : a = 0 := by rw [← HA.out]; unfold scoreV; rw [if_neg (by rw [HE.out]; exact h0)]
    obtain rfl : c = 0 := by rw [← HC.out]; unfold scoreV; rw [if_neg (by rw [HE.out]; exact h0)]
    clear h0
    go_wp2_with fail
    go_ret3
    exact ⟨rfl, H_w1.out.below⟩
  subst h0
  obtain ⟨k1, hlo, hhi, hlh, hmd⟩ := linE_ok HE.out
  have hsa : scoreQ (qv la xa ya) (qv lb xb yb) lo hi md (qv pb pn pd) = a := by rw [← HA.out]; unfold scoreV; rw [if_pos HE.out]
  have hsc : scoreQ (qv la xa ya) (qv lb xb yb) lo hi md (qv qb qn_ qd_) = c := by rw [← HC.out]; unfold scoreV; rw [if_pos HE.out]
  have HSA := Lib.hid hsa
  have HSC := Lib.hid hsc
  clear k1 hsa hsc
  go_upto_region 4 with fail
  have H_w1d := Lib.hid H_w1.out.drew
  first
  | go_region_held3 (fun w' => w'.cell? ⟨w.heap.size, 0, none⟩ = some (.bool la) ∧ w'.cell? ⟨w.heap.size, 1, none⟩ = some (.slice LA xa.length ca) ∧ w'.cell? ⟨w.heap.size, 2, none⟩ = some (.slice LD ya.length da) ∧ w'.cell? ⟨w.heap.size, 3, none⟩ = some (.bool lb) ∧ w'.cell? ⟨w.heap.size, 4, none⟩ = some (.slice LB xb.length cb) ∧ w'.cell? ⟨w.heap.size, 5, none⟩ = some (.slice LE yb.length db) ∧ w'.cell? ⟨w.heap.size, 6, none⟩ = some (.int .i64 lo) ∧ w'.cell? ⟨w.heap.size, 7, none⟩ = some (.int .i64 hi) ∧ w'.cell? ⟨w.heap.size, 8, none⟩ = some (.int .i64 md) ∧ w'.cell? ⟨gW1, 0, none⟩ = some (.bool pb) ∧ w'.cell? ⟨gW1, 1, none⟩ = some (.slice PA pn.length pc) ∧ w'.cell? ⟨gW1, 2, none⟩ = some (.slice PD pd.length pe) ∧ w'.cell? ⟨gW1, 3, none⟩ = some (.bool qb) ∧ w'.cell? ⟨gW1, 4, none⟩ = some (.slice QA qn_.length qc) ∧ w'.cell? ⟨gW1, 5, none⟩ = some (.slice QD qd_.length qe)) (go_keep)
     (first
      | (go_at_call_of 27 PA
         refine (sscore_ok w1.drew la lb LA LD LB LE ca da cb db xa ya xb yb lo hi md (HXA.out.below H_w1d.out.below) (HYA.out.below H_w1d.out.below) (HXB.out.below H_w1d.out.below) (HYB.out.below H_w1d.out.below) sxa sya sxb syb pb PA PD pc pe pn pd (HPN.out.below H_w1d.out.below) (HPD.out.below H_w1d.out.below) spn spd hlo hhi hmd).mono ?_
         rw [HSA.out]
         rintro e_ w2 ⟨rfl, hB⟩
         have H_w2 := Lib.hid (Mo.call H_w1d.out hB)
         have k0w2c0 := ((H_w2.out.var 0 rfl)).cell 0 rfl
         have k0w2c1 := ((H_w2.out.var 0 rfl)).cell 1 rfl
         have k0w2c2 := ((H_w2.out.var 0 rfl)).cell 2 rfl
         have k0w2c3 := ((H_w2.out.var 0 rfl)).cell 3 rfl
         have k0w2c4 := ((H_w2.out.var 0 rfl)).cell 4 rfl
         have k0w2c5 := ((H_w2.out.var 0 rfl)).cell 5 rfl
         have k0w2c6 := ((H_w2.out.var 0 rfl)).cell 6 rfl
         have k0w2c7 := ((H_w2.out.var 0 rfl)).cell 7 rfl
         have k0w2c8 := ((H_w2.out.var 0 rfl)).cell 8 rfl
         have k1w2c0 := ((H_w2.out.var 1 rfl)).cell 0 rfl
         have k1w2c1 := ((H_w2.out.var 1 rfl)).cell 1 rfl
         have k1w2c2 := ((H_w2.out.var 1 rfl)).cell 2 rfl
         have k1w2c3 := ((H_w2.out.var 1 rfl)).cell 3 rfl
         have k1w2c4 := ((H_w2.out.var 1 rfl)).cell 4 rfl
         have k1w2c5 := ((H_w2.out.var 1 rfl)).cell 5 rfl
         clear hB)
      | (go_at_call_of 27 QA
         refine (sscore_ok w2 la lb LA LD LB LE ca da cb db xa ya xb yb lo hi md (HXA.out.below H_w2.out.below) (HYA.out.below H_w2.out.below) (HXB.out.below H_w2.out.below) (HYB.out.below H_w2.out.below) sxa sya sxb syb qb QA QD qc qe qn_ qd_ (HQN.out.below H_w2.out.below) (HQD.out.below H_w2.out.below) sqn sqd hlo hhi hmd).mono ?_
         rw [HSC.out]
         rintro e_ w3 ⟨rfl, hB⟩
         have H_w3 := Lib.hid (Mo.call H_w2.out hB)
         have k0w3c0 := ((H_w3.out.var 0 rfl)).cell 0 rfl
         have k0w3c1 := ((H_w3.out.var 0 rfl)).cell 1 rfl
         have k0w3c2 := ((H_w3.out.var 0 rfl)).cell 2 rfl
         have k0w3c3 := ((H_w3.out.var 0 rfl)).cell 3 rfl
         have k0w3c4 := ((H_w3.out.var 0 rfl)).cell 4 rfl
         have k0w3c5 := ((H_w3.out.var 0 rfl)).cell 5 rfl
         have k0w3c6 := ((H_w3.out.var 0 rfl)).cell 6 rfl
         have k0w3c7 := ((H_w3.out.var 0 rfl)).cell 7 rfl
         have k0w3c8 := ((H_w3.out.var 0 rfl)).cell 8 rfl
         have k1w3c0 := ((H_w3.out.var 1 rfl)).cell 0 rfl
         have k1w3c1 := ((H_w3.out.var 1 rfl)).cell 1 rfl
         have k1w3c2 := ((H_w3.out.var 1 rfl)).cell 2 rfl
         have k1w3c3 := ((H_w3.out.var 1 rfl)).cell 3 rfl
         have k1w3c4 := ((H_w3.out.var 1 rfl)).cell 4 rfl
         have k1w3c5 := ((H_w3.out.var 1 rfl)).cell 5 rfl
         clear hB))
  | fail
  by_cases h : c < a
  · have d1 : decide (c < a) = true := decide_eq_true h
    have d2 : decide (a < c) = false := decide_eq_false (by omega)
    have d3 : decide (a ≤ c) = false := decide_eq_false (by omega)
    have d4 : decide (c ≤ a) = true := decide_eq_true (by omega)
    have m1 : min a c = c := by omega
    have m2 : max a c = a := by omega
    have HM1 : Hid (loI a c = c) := if_pos h
    have HM2 : Hid (hiI a c = a) := if_pos h
    go_wp2_with fail
    go_ret3
    exact ⟨by rw [HM1.out, HM2.out]; first | rfl | simp [d1, d2, d3, d4], H_w3.out.below⟩
  · have d1 : decide (c < a) = false := decide_eq_false h
    have d4 : decide (a ≤ c) = true := decide_eq_true (by omega)
    have m1 : min a c = a := by omega
    have m2 : max a c = c := by omega
    have HM1 : Hid (loI a c = a) := if_neg h
    have HM2 : Hid (hiI a c = c) := if_neg h
    go_wp2_with fail
    go_ret3
    exact ⟨by rw [HM1.out, HM2.out]; first | rfl | simp [d1, d4], H_w3.out.below⟩

set_option maxHeartbeats 3200000 in
theorem rsrange_ok (w : World) (la lb : Bool) (LA LD LB LE : Option Addr) (ca da cb db : Nat) (xa ya xb yb : List Int) (lo hi md : Int) (hxa : RN w LA ca xa) (hya : RN w LD da ya) (hxb : RN w LB cb xb) (hyb : RN w LE db yb) (sxa : xa.length ≤ 20) (sya : ya.length ≤ 20) (sxb : xb.length ≤ 20) (syb : yb.length ≤ 20) (pb qb : Bool) (PA PD QA QD : Option Addr) (pc pe qc qe : Nat) (pn pd qn_ qd_ : List Int) (hpn : RN w PA pc pn) (hpd : RN w PD pe pd) (hqn : RN w QA qc qn_) (hqd : RN w QD qe qd_) (spn : pn.length ≤ 20) (spd : pd.length ≤ 20) (sqn : qn_.length ≤ 20) (sqd : qd_.length ≤ 20) :
    Calls Try.prog 19 #[.agg #[.bool la, .slice LA xa.length ca, .slice LD ya.length da, .bool lb, .slice LB xb.length cb, .slice LE yb.length db, .int .i64 lo, .int .i64 hi, .int .i64 md], .agg #[.bool pb, .slice PA pn.length pc, .slice PD pd.length pe, .bool qb, .slice QA qn_.length qc, .slice QD qd_.length qe]] w (fun e w' => e = .returned (.tuple #[.int .i64 (loI (scoreV (qv la xa ya) (qv lb xb yb) lo hi md (qv pb pn pd)) (scoreV (qv la xa ya) (qv lb xb yb) lo hi md (qv qb qn_ qd_))), .int .i64 (hiI (scoreV (qv la xa ya) (qv lb xb yb) lo hi md (qv pb pn pd)) (scoreV (qv la xa ya) (qv lb xb yb) lo hi md (qv qb qn_ qd_))), .int .i64 (linE (qv la xa ya) lo hi md)]) ∧ Below w.heap.size w w') := by
  have HXA := Lib.hid hxa
  have HYA := Lib.hid hya
  have HXB := Lib.hid hxb
  have HYB := Lib.hid hyb
  clear hxa hya hxb hyb
  have HPN := Lib.hid hpn
  have HPD := Lib.hid hpd
  have HQN := Lib.hid hqn
  have HQD := Lib.hid hqd
  clear hpn hpd hqn hqd
  go_enter Try.func19, Try.ntmps19
  obtain ⟨E, hE⟩ : ∃ E, linE (qv la xa ya) lo hi md = E := ⟨_, rfl⟩
  obtain ⟨a, ha⟩ : ∃ a, scoreV (qv la xa ya) (qv lb xb yb) lo hi md (qv pb pn pd) = a := ⟨_, rfl⟩
  obtain ⟨c, hc⟩ : ∃ c, scoreV (qv la xa ya) (qv lb xb yb) lo hi md (qv qb qn_ qd_) = c := ⟨_, rfl⟩
  have HE := Lib.hid hE
  have HA := Lib.hid ha
  have HC := Lib.hid hc
  rw [hE, ha, hc]
  clear hE ha hc
  go_upto_region 1 with fail
  obtain ⟨W, hW⟩ : ∃ W, W = ((w.alloc (.cells #[.bool la, .slice LA xa.length ca, .slice LD ya.length da, .bool lb, .slice LB xb.length cb, .slice LE yb.length db, .int .i64 lo, .int .i64 hi, .int .i64 md] 35)).alloc (.cells #[.bool pb, .slice PA pn.length pc, .slice PD pd.length pe, .bool qb, .slice QA qn_.length qc, .slice QD qd_.length qe] 42)) := ⟨_, rfl⟩
  rw [← hW]
  have H_W : Mo w W [(w.heap.size, 35, #[.bool la, .slice LA xa.length ca, .slice LD ya.length da, .bool lb, .slice LB xb.length cb, .slice LE yb.length db, .int .i64 lo, .int .i64 hi, .int .i64 md]), (w.heap.size + 1, 42, #[.bool pb, .slice PA pn.length pc, .slice PD pd.length pe, .bool qb, .slice QA qn_.length qc, .slice QD qd_.length qe])] [] := by
    rw [hW]
    have h := (((Mo.start w).alloc (t := 35) (cs := #[.bool la, .slice LA xa.length ca, .slice LD ya.length da, .bool lb, .slice LB xb.length cb, .slice LE yb.length db, .int .i64 lo, .int .i64 hi, .int .i64 md]) (nd_lin _ _ _ _ _ _ _ _ _ _ _ _ _ _ _ _ _)).alloc (t := 42) (cs := #[.bool pb, .slice PA pn.length pc, .slice PD pd.length pe, .bool qb, .slice QA qn_.length qc, .slice QD qd_.length qe]) (nd_span _ _ _ _ _ _ _ _ _ _ _ _ _ _))
    simp only [size_alloc, List.nil_append, List.cons_append] at h
    exact h
  clear hW
  obtain ⟨gW1, hgW1⟩ : ∃ g, w.heap.size + 1 = g := ⟨_, rfl⟩
  rw [hgW1] at H_W ⊢
  clear hgW1
  have neW01 : w.heap.size ≠ gW1 := H_W.apart 0 1 _ _ _ _ _ _ rfl rfl (by decide)
  have neW10 : gW1 ≠ w.heap.size := H_W.apart 1 0 _ _ _ _ _ _ rfl rfl (by decide)
  have H_W := Lib.hid H_W
  have k0Wc0 := ((H_W.out.var 0 rfl)).cell 0 rfl
  have k0Wc1 := ((H_W.out.var 0 rfl)).cell 1 rfl
  have k0Wc2 := ((H_W.out.var 0 rfl)).cell 2 rfl
  have k0Wc3 := ((H_W.out.var 0 rfl)).cell 3 rfl
  have k0Wc4 := ((H_W.out.var 0 rfl)).cell 4 rfl
  have k0Wc5 := ((H_W.out.var 0 rfl)).cell 5 rfl
  have k0Wc6 := ((H_W.out.var 0 rfl)).cell 6 rfl
  have k0Wc7 := ((H_W.out.var 0 rfl)).cell 7 rfl
  have k0Wc8 := ((H_W.out.var 0 rfl)).cell 8 rfl
  have k1Wc0 := ((H_W.out.var 1 rfl)).cell 0 rfl
  have k1Wc1 := ((H_W.out.var 1 rfl)).cell 1 rfl
  have k1Wc2 := ((H_W.out.var 1 rfl)).cell 2 rfl
  have k1Wc3 := ((H_W.out.var 1 rfl)).cell 3 rfl
  have k1Wc4 := ((H_W.out.var 1 rfl)).cell 4 rfl
  have k1Wc5 := ((H_W.out.var 1 rfl)).cell 5 rfl
  go_wp2_with fail
  refine (rsScore_ok W la lb LA LD LB LE ca da cb db xa ya xb yb lo hi md (HXA.out.below H_W.out.below) (HYA.out.below H_W.out.below) (HXB.out.below H_W.out.below) (HYB.out.below H_W.out.below) sxa sya sxb syb pb PA PD pc pe pn pd (HPN.out.below H_W.out.below) (HPD.out.below H_W.out.below) spn spd).mono ?_
  rw [HE.out, HA.out]
  rintro e_ w1 ⟨rfl, hB⟩
  have H_w1 := Lib.hid (Mo.call H_W.out hB)
  have k0w1c0 := ((H_w1.out.var 0 rfl)).cell 0 rfl
  have k0w1c1 := ((H_w1.out.var 0 rfl)).cell 1 rfl
  have k0w1c2 := ((H_w1.out.var 0 rfl)).cell 2 rfl
  have k0w1c3 := ((H_w1.out.var 0 rfl)).cell 3 rfl
  have k0w1c4 := ((H_w1.out.var 0 rfl)).cell 4 rfl
  have k0w1c5 := ((H_w1.out.var 0 rfl)).cell 5 rfl
  have k0w1c6 := ((H_w1.out.var 0 rfl)).cell 6 rfl
  have k0w1c7 := ((H_w1.out.var 0 rfl)).cell 7 rfl
  have k0w1c8 := ((H_w1.out.var 0 rfl)).cell 8 rfl
  have k1w1c0 := ((H_w1.out.var 1 rfl)).cell 0 rfl
  have k1w1c1 := ((H_w1.out.var 1 rfl)).cell 1 rfl
  have k1w1c2 := ((H_w1.out.var 1 rfl)).cell 2 rfl
  have k1w1c3 := ((H_w1.out.var 1 rfl)).cell 3 rfl
  have k1w1c4 := ((H_w1.out.var 1 rfl)).cell 4 rfl
  have k1w1c5 := ((H_w1.out.var 1 rfl)).cell 5 rfl
  clear hB
  by_cases h0 : E = 0
  rotate_left
  · have e1 : (E == 0) = false := beq_eq_false_iff_ne.2 h0
    have e2 : (E != 0) = true := by simpa using h0
    obtain rfl : a = 0 := by rw [← HA.out]; unfold scoreV; rw [if_neg (by rw [HE.out]; exact h0)]
    obtain rfl : c = 0 := by rw [← HC.out]; unfold scoreV; rw [if_neg (by rw [HE.out]; exact h0)]
    clear h0
    go_wp2_with fail
    go_ret3
    exact ⟨rfl, H_w1.out.below⟩
  subst h0
  go_wp2_with fail
  refine (rsScore_ok w1 la lb LA LD LB LE ca da cb db xa ya xb yb lo hi md (HXA.out.below H_w1.out.below) (HYA.out.below H_w1.out.below) (HXB.out.below H_w1.out.below) (HYB.out.below H_w1.out.below) sxa sya sxb syb qb QA QD qc qe qn_ qd_ (HQN.out.below H_w1.out.below) (HQD.out.below H_w1.out.below) sqn sqd).mono ?_
  rw [HE.out, HC.out]
  rintro e_ w2 ⟨rfl, hB⟩
  have H_w2 := Lib.hid (Mo.call H_w1.out hB)
  clear hB
  by_cases h : c < a
  · have d1 : decide (c < a) = true := decide_eq_true h
    have HM1 : Hid (loI a c = c) := if_pos h
    have HM2 : Hid (hiI a c = a) := if_pos h
    go_wp2_with fail
    go_ret3
    exact ⟨by rw [HM1.out, HM2.out]; rfl, H_w2.out.below⟩
  · have d1 : decide (c < a) = false := decide_eq_false h
    have HM1 : Hid (loI a c = a) := if_neg h
    have HM2 : Hid (hiI a c = c) := if_neg h
    go_wp2_with fail
    go_ret3
    exact ⟨by rw [HM1.out, HM2.out]; rfl, H_w2.out.below⟩

set_option maxHeartbeats 3200000 in
theorem ranges_ok (w : World) (la lb : Bool) (LA LD LB LE : Option Addr) (ca da cb db : Nat) (xa ya xb yb : List Int) (lo hi md : Int) (hxa : RN w LA ca xa) (hya : RN w LD da ya) (hxb : RN w LB cb xb) (hyb : RN w LE db yb) (pb qb : Bool) (PA PD QA QD : Option Addr) (pc pe qc qe : Nat) (pn pd qn_ qd_ : List Int) (hpn : RN w PA pc pn) (hpd : RN w PD pe pd) (hqn : RN w QA qc qn_) (hqd : RN w QD qe qd_) :
    Calls Try.prog 6 #[.agg #[.bool la, .slice LA xa.length ca, .slice LD ya.length da, .bool lb, .slice LB xb.length cb, .slice LE yb.length db, .int .i64 lo, .int .i64 hi, .int .i64 md], .agg #[.bool pb, .slice PA pn.length pc, .slice PD pd.length pe, .bool qb, .slice QA qn_.length qc, .slice QD qd_.length qe]] w (RetT w) := by
  have HXA := Lib.hid hxa
  have HYA := Lib.hid hya
  have HXB := Lib.hid hxb
  have HYB := Lib.hid hyb
  clear hxa hya hxb hyb
  have HPN := Lib.hid hpn
  have HPD := Lib.hid hpd
  have HQN := Lib.hid hqn
  have HQD := Lib.hid hqd
  clear hpn hpd hqn hqd
  go_enter Try.func6, Try.ntmps6
  obtain ⟨bl, hbl⟩ : ∃ bl, (big xa ya || big xb yb) = bl := ⟨_, rfl⟩
  obtain ⟨bp, hbp⟩ : ∃ bp, big pn pd = bp := ⟨_, rfl⟩
  obtain ⟨bq, hbq⟩ : ∃ bq, big qn_ qd_ = bq := ⟨_, rfl⟩
  have HBL := Lib.hid hbl
  have HBP := Lib.hid hbp
  have HBQ := Lib.hid hbq
  clear hbl hbp hbq
  go_upto_region 1 with fail
  obtain ⟨W, hW⟩ : ∃ W, W = ((w.alloc (.cells #[.bool la, .slice LA xa.length ca, .slice LD ya.length da, .bool lb, .slice LB xb.length cb, .slice LE yb.length db, .int .i64 lo, .int .i64 hi, .int .i64 md] 35)).alloc (.cells #[.bool pb, .slice PA pn.length pc, .slice PD pd.length pe, .bool qb, .slice QA qn_.length qc, .slice QD qd_.length qe] 42)) := ⟨_, rfl⟩
  rw [← hW]
  have H_W : Mo w W [(w.heap.size, 35, #[.bool la, .slice LA xa.length ca, .slice LD ya.length da, .bool lb, .slice LB xb.length cb, .slice LE yb.length db, .int .i64 lo, .int .i64 hi, .int .i64 md]), (w.heap.size + 1, 42, #[.bool pb, .slice PA pn.length pc, .slice PD pd.length pe, .bool qb, .slice QA qn_.length qc, .slice QD qd_.length qe])] [] := by
    rw [hW]
    have h := (((Mo.start w).alloc (t := 35) (cs := #[.bool la, .slice LA xa.length ca, .slice LD ya.length da, .bool lb, .slice LB xb.length cb, .slice LE yb.length db, .int .i64 lo, .int .i64 hi, .int .i64 md]) (nd_lin _ _ _ _ _ _ _ _ _ _ _ _ _ _ _ _ _)).alloc (t := 42) (cs := #[.bool pb, .slice PA pn.length pc, .slice PD pd.length pe, .bool qb, .slice QA qn_.length qc, .slice QD qd_.length qe]) (nd_span _ _ _ _ _ _ _ _ _ _ _ _ _ _))
    simp only [size_alloc, List.nil_append, List.cons_append] at h
    exact h
  clear hW
  obtain ⟨gW1, hgW1⟩ : ∃ g, w.heap.size + 1 = g := ⟨_, rfl⟩
  rw [hgW1] at H_W ⊢
  clear hgW1
  have neW01 : w.heap.size ≠ gW1 := H_W.apart 0 1 _ _ _ _ _ _ rfl rfl (by decide)
  have neW10 : gW1 ≠ w.heap.size := H_W.apart 1 0 _ _ _ _ _ _ rfl rfl (by decide)
  have H_W := Lib.hid H_W
  have k0Wc0 := ((H_W.out.var 0 rfl)).cell 0 rfl
  have k0Wc1 := ((H_W.out.var 0 rfl)).cell 1 rfl
  have k0Wc2 := ((H_W.out.var 0 rfl)).cell 2 rfl
  have k0Wc3 := ((H_W.out.var 0 rfl)).cell 3 rfl
  have k0Wc4 := ((H_W.out.var 0 rfl)).cell 4 rfl
  have k0Wc5 := ((H_W.out.var 0 rfl)).cell 5 rfl
  have k0Wc6 := ((H_W.out.var 0 rfl)).cell 6 rfl
  have k0Wc7 := ((H_W.out.var 0 rfl)).cell 7 rfl
  have k0Wc8 := ((H_W.out.var 0 rfl)).cell 8 rfl
  have k1Wc0 := ((H_W.out.var 1 rfl)).cell 0 rfl
  have k1Wc1 := ((H_W.out.var 1 rfl)).cell 1 rfl
  have k1Wc2 := ((H_W.out.var 1 rfl)).cell 2 rfl
  have k1Wc3 := ((H_W.out.var 1 rfl)).cell 3 rfl
  have k1Wc4 := ((H_W.out.var 1 rfl)).cell 4 rfl
  have k1Wc5 := ((H_W.out.var 1 rfl)).cell 5 rfl
  go_wp2_with fail
  refine (wide_ok W la lb LA LD LB LE ca da cb db xa ya xb yb lo hi md).mono ?_
  rw [HBL.out]
  rintro e_ w1 ⟨rfl, hB⟩
  have H_w1 := Lib.hid (Mo.call H_W.out hB)
  have k0w1c0 := ((H_w1.out.var 0 rfl)).cell 0 rfl
  have k0w1c1 := ((H_w1.out.var 0 rfl)).cell 1 rfl
  have k0w1c2 := ((H_w1.out.var 0 rfl)).cell 2 rfl
  have k0w1c3 := ((H_w1.out.var 0 rfl)).cell 3 rfl
  have k0w1c4 := ((H_w1.out.var 0 rfl)).cell 4 rfl
  have k0w1c5 := ((H_w1.out.var 0 rfl)).cell 5 rfl
  have k0w1c6 := ((H_w1.out.var 0 rfl)).cell 6 rfl
  have k0w1c7 := ((H_w1.out.var 0 rfl)).cell 7 rfl
  have k0w1c8 := ((H_w1.out.var 0 rfl)).cell 8 rfl
  have k1w1c0 := ((H_w1.out.var 1 rfl)).cell 0 rfl
  have k1w1c1 := ((H_w1.out.var 1 rfl)).cell 1 rfl
  have k1w1c2 := ((H_w1.out.var 1 rfl)).cell 2 rfl
  have k1w1c3 := ((H_w1.out.var 1 rfl)).cell 3 rfl
  have k1w1c4 := ((H_w1.out.var 1 rfl)).cell 4 rfl
  have k1w1c5 := ((H_w1.out.var 1 rfl)).cell 5 rfl
  clear hB
  cases bl
  rotate_left
  · go_wp2_with fail
    go_ret
    exact ⟨rfl, H_w1.out.below⟩
  go_wp2_with fail
  refine (large_ok w1 pb PA PD pc pe pn pd).mono ?_
  rw [HBP.out]
  rintro e_ w2 ⟨rfl, hB⟩
  have H_w2 := Lib.hid (Mo.call H_w1.out hB)
  have k0w2c0 := ((H_w2.out.var 0 rfl)).cell 0 rfl
  have k0w2c1 := ((H_w2.out.var 0 rfl)).cell 1 rfl
  have k0w2c2 := ((H_w2.out.var 0 rfl)).cell 2 rfl
  have k0w2c3 := ((H_w2.out.var 0 rfl)).cell 3 rfl
  have k0w2c4 := ((H_w2.out.var 0 rfl)).cell 4 rfl
  have k0w2c5 := ((H_w2.out.var 0 rfl)).cell 5 rfl
  have k0w2c6 := ((H_w2.out.var 0 rfl)).cell 6 rfl
  have k0w2c7 := ((H_w2.out.var 0 rfl)).cell 7 rfl
  have k0w2c8 := ((H_w2.out.var 0 rfl)).cell 8 rfl
  have k1w2c0 := ((H_w2.out.var 1 rfl)).cell 0 rfl
  have k1w2c1 := ((H_w2.out.var 1 rfl)).cell 1 rfl
  have k1w2c2 := ((H_w2.out.var 1 rfl)).cell 2 rfl
  have k1w2c3 := ((H_w2.out.var 1 rfl)).cell 3 rfl
  have k1w2c4 := ((H_w2.out.var 1 rfl)).cell 4 rfl
  have k1w2c5 := ((H_w2.out.var 1 rfl)).cell 5 rfl
  clear hB
  cases bp
  rotate_left
  · go_wp2_with fail
    go_ret
    exact ⟨rfl, H_w2.out.below⟩
  go_wp2_with fail
  refine (large_ok w2 qb QA QD qc qe qn_ qd_).mono ?_
  rw [HBQ.out]
  rintro e_ w3 ⟨rfl, hB⟩
  have H_w3 := Lib.hid (Mo.call H_w2.out hB)
  have k0w3c0 := ((H_w3.out.var 0 rfl)).cell 0 rfl
  have k0w3c1 := ((H_w3.out.var 0 rfl)).cell 1 rfl
  have k0w3c2 := ((H_w3.out.var 0 rfl)).cell 2 rfl
  have k0w3c3 := ((H_w3.out.var 0 rfl)).cell 3 rfl
  have k0w3c4 := ((H_w3.out.var 0 rfl)).cell 4 rfl
  have k0w3c5 := ((H_w3.out.var 0 rfl)).cell 5 rfl
  have k0w3c6 := ((H_w3.out.var 0 rfl)).cell 6 rfl
  have k0w3c7 := ((H_w3.out.var 0 rfl)).cell 7 rfl
  have k0w3c8 := ((H_w3.out.var 0 rfl)).cell 8 rfl
  have k1w3c0 := ((H_w3.out.var 1 rfl)).cell 0 rfl
  have k1w3c1 := ((H_w3.out.var 1 rfl)).cell 1 rfl
  have k1w3c2 := ((H_w3.out.var 1 rfl)).cell 2 rfl
  have k1w3c3 := ((H_w3.out.var 1 rfl)).cell 3 rfl
  have k1w3c4 := ((H_w3.out.var 1 rfl)).cell 4 rfl
  have k1w3c5 := ((H_w3.out.var 1 rfl)).cell 5 rfl
  clear hB
  cases bq
  rotate_left
  · go_wp2_with fail
    go_ret
    exact ⟨rfl, H_w3.out.below⟩
  have sall : (xa.length ≤ 20 ∧ ya.length ≤ 20) ∧ (xb.length ≤ 20 ∧ yb.length ≤ 20) ∧ (pn.length ≤ 20 ∧ pd.length ≤ 20) ∧ qn_.length ≤ 20 ∧ qd_.length ≤ 20 := by
    have h1 := HBL.out
    have h2 := HBP.out
    have h3 := HBQ.out
    unfold big at h1 h2 h3
    simp only [Bool.or_eq_false_iff, decide_eq_false_iff_not] at h1 h2 h3
    omega
  obtain ⟨⟨sxa, sya⟩, ⟨sxb, syb⟩, ⟨spn, spd⟩, sqn, sqd⟩ := sall
  clear HBL HBP HBQ
  obtain ⟨E, hE⟩ : ∃ E, linE (qv la xa ya) lo hi md = E := ⟨_, rfl⟩
  obtain ⟨a, ha⟩ : ∃ a, loI (scoreV (qv la xa ya) (qv lb xb yb) lo hi md (qv pb pn pd)) (scoreV (qv la xa ya) (qv lb xb yb) lo hi md (qv qb qn_ qd_)) = a := ⟨_, rfl⟩
  obtain ⟨c, hc⟩ : ∃ c, hiI (scoreV (qv la xa ya) (qv lb xb yb) lo hi md (qv pb pn pd)) (scoreV (qv la xa ya) (qv lb xb yb) lo hi md (qv qb qn_ qd_)) = c := ⟨_, rfl⟩
  have HE := Lib.hid hE
  have HA := Lib.hid ha
  have HC := Lib.hid hc
  clear hE ha hc
  go_wp2_with fail
  refine (srange_ok w3 la lb LA LD LB LE ca da cb db xa ya xb yb lo hi md (HXA.out.below H_w3.out.below) (HYA.out.below H_w3.out.below) (HXB.out.below H_w3.out.below) (HYB.out.below H_w3.out.below) sxa sya sxb syb pb qb PA PD QA QD pc pe qc qe pn pd qn_ qd_ (HPN.out.below H_w3.out.below) (HPD.out.below H_w3.out.below) (HQN.out.below H_w3.out.below) (HQD.out.below H_w3.out.below) spn spd sqn sqd).mono ?_
  rw [HA.out, HC.out, HE.out]
  rintro e_ w4 ⟨rfl, hB⟩
  have H_w4 := Lib.hid (Mo.call H_w3.out hB)
  have k0w4c0 := ((H_w4.out.var 0 rfl)).cell 0 rfl
  have k0w4c1 := ((H_w4.out.var 0 rfl)).cell 1 rfl
  have k0w4c2 := ((H_w4.out.var 0 rfl)).cell 2 rfl
  have k0w4c3 := ((H_w4.out.var 0 rfl)).cell 3 rfl
  have k0w4c4 := ((H_w4.out.var 0 rfl)).cell 4 rfl
  have k0w4c5 := ((H_w4.out.var 0 rfl)).cell 5 rfl
  have k0w4c6 := ((H_w4.out.var 0 rfl)).cell 6 rfl
  have k0w4c7 := ((H_w4.out.var 0 rfl)).cell 7 rfl
  have k0w4c8 := ((H_w4.out.var 0 rfl)).cell 8 rfl
  have k1w4c0 := ((H_w4.out.var 1 rfl)).cell 0 rfl
  have k1w4c1 := ((H_w4.out.var 1 rfl)).cell 1 rfl
  have k1w4c2 := ((H_w4.out.var 1 rfl)).cell 2 rfl
  have k1w4c3 := ((H_w4.out.var 1 rfl)).cell 3 rfl
  have k1w4c4 := ((H_w4.out.var 1 rfl)).cell 4 rfl
  have k1w4c5 := ((H_w4.out.var 1 rfl)).cell 5 rfl
  clear hB
  go_wp2_with fail
  refine (rsrange_ok w4 la lb LA LD LB LE ca da cb db xa ya xb yb lo hi md (HXA.out.below H_w4.out.below) (HYA.out.below H_w4.out.below) (HXB.out.below H_w4.out.below) (HYB.out.below H_w4.out.below) sxa sya sxb syb pb qb PA PD QA QD pc pe qc qe pn pd qn_ qd_ (HPN.out.below H_w4.out.below) (HPD.out.below H_w4.out.below) (HQN.out.below H_w4.out.below) (HQD.out.below H_w4.out.below) spn spd sqn sqd).mono ?_
  rw [HA.out, HC.out, HE.out]
  rintro e_ w5 ⟨rfl, hB⟩
  have H_w5 := Lib.hid (Mo.call H_w4.out hB)
  have k0w5c0 := ((H_w5.out.var 0 rfl)).cell 0 rfl
  have k0w5c1 := ((H_w5.out.var 0 rfl)).cell 1 rfl
  have k0w5c2 := ((H_w5.out.var 0 rfl)).cell 2 rfl
  have k0w5c3 := ((H_w5.out.var 0 rfl)).cell 3 rfl
  have k0w5c4 := ((H_w5.out.var 0 rfl)).cell 4 rfl
  have k0w5c5 := ((H_w5.out.var 0 rfl)).cell 5 rfl
  have k0w5c6 := ((H_w5.out.var 0 rfl)).cell 6 rfl
  have k0w5c7 := ((H_w5.out.var 0 rfl)).cell 7 rfl
  have k0w5c8 := ((H_w5.out.var 0 rfl)).cell 8 rfl
  have k1w5c0 := ((H_w5.out.var 1 rfl)).cell 0 rfl
  have k1w5c1 := ((H_w5.out.var 1 rfl)).cell 1 rfl
  have k1w5c2 := ((H_w5.out.var 1 rfl)).cell 2 rfl
  have k1w5c3 := ((H_w5.out.var 1 rfl)).cell 3 rfl
  have k1w5c4 := ((H_w5.out.var 1 rfl)).cell 4 rfl
  have k1w5c5 := ((H_w5.out.var 1 rfl)).cell 5 rfl
  clear hB
  go_wp2_with fail
  go_ret
  exact ⟨rfl, H_w5.out.below⟩
theorem ranges_row (w : World) (la lb : Bool) (LA LD LB LE : Option Addr) (ca da cb db : Nat) (xa ya xb yb : List Int) (lo hi md : Int) (hxa : RN w LA ca xa) (hya : RN w LD da ya) (hxb : RN w LB cb xb) (hyb : RN w LE db yb) (_ : -9223372036854775808 ≤ lo ∧ lo ≤ 9223372036854775807) (_ : -9223372036854775808 ≤ hi ∧ hi ≤ 9223372036854775807) (_ : -9223372036854775808 ≤ md ∧ md ≤ 9223372036854775807)
    (pb qb : Bool) (PA PD QA QD : Option Addr) (pc pe qc qe : Nat) (pn pd qn_ qd_ : List Int) (hpn : RN w PA pc pn) (hpd : RN w PD pe pd) (hqn : RN w QA qc qn_) (hqd : RN w QD qe qd_) :
    Calls Try.prog 6 #[.agg #[.bool la, .slice LA xa.length ca, .slice LD ya.length da, .bool lb, .slice LB xb.length cb, .slice LE yb.length db, .int .i64 lo, .int .i64 hi, .int .i64 md], .agg #[.bool pb, .slice PA pn.length pc, .slice PD pd.length pe, .bool qb, .slice QA qn_.length qc, .slice QD qd_.length qe]] w (RetT w) :=
  ranges_ok w la lb LA LD LB LE ca da cb db xa ya xb yb lo hi md hxa hya hxb hyb pb qb PA PD QA QD pc pe qc qe pn pd qn_ qd_ hpn hpd hqn hqd

end Go.Proofs.Ytgdlnmhpnlmofaa.M
