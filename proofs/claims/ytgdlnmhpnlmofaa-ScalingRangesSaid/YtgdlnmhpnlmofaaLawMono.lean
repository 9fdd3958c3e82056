/- Scores of the program, with the error; what the laws ask first; a higher ability's score. -/
import Derived.Test.YtgdlnmhpnlmofaaScore
import Derived.Test.YtgdlnmhpnlmofaaMono
namespace Go.Proofs.Ytgdlnmhpnlmofaa.M
set_option maxRecDepth 10000
open Go.RowKit
set_option linter.unusedVariables false
set_option linter.unusedSimpArgs false
def RetT (w : World) (e : Ending) (w' : World) : Prop := e = .returned (.bool true) ∧ Below w.heap.size w w'
/-- The score, or 0. -/
def scoreV (a b : Rat) (lo hi md : Int) (x : Rat) : Int := if linE a lo hi md = 0 then scoreQ a b lo hi md x else 0
def big (xs ys : List Int) : Bool := decide (20 < xs.length) || decide (20 < ys.length)
theorem linE_ok {a : Rat} {lo hi md : Int} (h : linE a lo hi md = 0) : 0 < cmpQ a 0 ∧ (-1000000 ≤ lo ∧ lo ≤ 1000000) ∧ (-1000000 ≤ hi ∧ hi ≤ 1000000) ∧ lo ≤ hi ∧ (1 ≤ md ∧ md ≤ 7) := by
  unfold linE at h
  split at h
  · omega
  · split at h
    · omega
    · split at h <;> omega

set_option maxHeartbeats 1600000 in
theorem sScore_ok (w : World) (la lb : Bool) (LA LD LB LE : Option Addr) (ca da cb db : Nat) (xa ya xb yb : List Int) (lo hi md : Int) (hxa : RN w LA ca xa) (hya : RN w LD da ya) (hxb : RN w LB cb xb) (hyb : RN w LE db yb) (sxa : xa.length ≤ 20) (sya : ya.length ≤ 20) (sxb : xb.length ≤ 20) (syb : yb.length ≤ 20) (xb0 : Bool) (XA XD : Option Addr) (cx dx : Nat) (xn xd : List Int) (hxn : RN w XA cx xn) (hxd : RN w XD dx xd) (sxn : xn.length ≤ 20) (sxd : xd.length ≤ 20) :
    Calls Try.prog 14 #[.agg #[.bool la, .slice LA xa.length ca, .slice LD ya.length da, .bool lb, .slice LB xb.length cb, .slice LE yb.length db, .int .i64 lo, .int .i64 hi, .int .i64 md], .agg #[.bool xb0, .slice XA xn.length cx, .slice XD xd.length dx]] w (fun e w' => e = .returned (.tuple #[.int .i64 (scoreV (qv la xa ya) (qv lb xb yb) lo hi md (qv xb0 xn xd)), .int .i64 (linE (qv la xa ya) lo hi md)]) ∧ Below w.heap.size w w') := by
  have HXA := Lib.hid hxa
  have HYA := Lib.hid hya
  have HXB := Lib.hid hxb
  have HYB := Lib.hid hyb
  clear hxa hya hxb hyb
  have HXN := Lib.hid hxn
  have HXD := Lib.hid hxd
  clear hxn hxd
  go_enter Try.func14, Try.ntmps14
  obtain ⟨E, hE⟩ : ∃ E, linE (qv la xa ya) lo hi md = E := ⟨_, rfl⟩
  have HE := Lib.hid hE
  obtain ⟨K, hK⟩ : ∃ K, scoreV (qv la xa ya) (qv lb xb yb) lo hi md (qv xb0 xn xd) = K := ⟨_, rfl⟩
  have HK := Lib.hid hK
  rw [hE, hK]
  clear hE hK
  go_upto_region 1 with fail
  obtain ⟨W, hW⟩ : ∃ W, W = ((w.alloc (.cells #[.bool la, .slice LA xa.length ca, .slice LD ya.length da, .bool lb, .slice LB xb.length cb, .slice LE yb.length db, .int .i64 lo, .int .i64 hi, .int .i64 md] 35)).alloc (.cells #[.bool xb0, .slice XA xn.length cx, .slice XD xd.length dx] 33)) := ⟨_, rfl⟩
  rw [← hW]
  have H_W : Mo w W [(w.heap.size, 35, #[.bool la, .slice LA xa.length ca, .slice LD ya.length da, .bool lb, .slice LB xb.length cb, .slice LE yb.length db, .int .i64 lo, .int .i64 hi, .int .i64 md]), (w.heap.size + 1, 33, #[.bool xb0, .slice XA xn.length cx, .slice XD xd.length dx])] [] := by
    rw [hW]
    have h := (((Mo.start w).alloc (t := 35) (cs := #[.bool la, .slice LA xa.length ca, .slice LD ya.length da, .bool lb, .slice LB xb.length cb, .slice LE yb.length db, .int .i64 lo, .int .i64 hi, .int .i64 md]) (nd_lin _ _ _ _ _ _ _ _ _ _ _ _ _ _ _ _ _)).alloc (t := 33) (cs := #[.bool xb0, .slice XA xn.length cx, .slice XD xd.length dx]) (nd_rat _ _ _ _ _ _ _))
    simp only [size_alloc, List.nil_append, List.cons_append] at h
    exact h
  clear hW
  obtain ⟨gW1, hgW1⟩ : ∃ g, w.heap.size + 1 = g := ⟨_, rfl⟩
  rw [hgW1] at H_W ⊢
  clear hgW1
  have neW01 : w.heap.size ≠ gW1 := H_W.apart 0 1 _ _ _ _ _ _ rfl rfl (by decide)
  have neW10 : gW1 ≠ w.heap.size := H_W.apart 1 0 _ _ _ _ _ _ rfl rfl (by decide)
  have H_W := Lib.hid H_W
  have k0Wc0 := ((H_W.out.var 0 rfl)).cell 0 rfl
  have k0Wc1 := ((H_W.out.var 0 rfl)).cell 1 rfl
  have k0Wc2 := ((H_W.out.var 0 rfl)).cell 2 rfl
  have k0Wc3 := ((H_W.out.var 0 rfl)).cell 3 rfl
  have k0Wc4 := ((H_W.out.var 0 rfl)).cell 4 rfl
  have k0Wc5 := ((H_W.out.var 0 rfl)).cell 5 rfl
  have k0Wc6 := ((H_W.out.var 0 rfl)).cell 6 rfl
  have k0Wc7 := ((H_W.out.var 0 rfl)).cell 7 rfl
  have k0Wc8 := ((H_W.out.var 0 rfl)).cell 8 rfl
  have k1Wc0 := ((H_W.out.var 1 rfl)).cell 0 rfl
  have k1Wc1 := ((H_W.out.var 1 rfl)).cell 1 rfl
  have k1Wc2 := ((H_W.out.var 1 rfl)).cell 2 rfl
  go_wp2_with fail
  refine (svalid_ok W la lb LA LD LB LE ca da cb db xa ya xb yb lo hi md (HXA.out.below H_W.out.below) (HYA.out.below H_W.out.below) (HXB.out.below H_W.out.below) (HYB.out.below H_W.out.below) sxa sya sxb syb).mono ?_
  rw [HE.out]
  rintro e_ w1 ⟨rfl, hB⟩
  have H_w1 := Lib.hid (Mo.call H_W.out hB)
  have k0w1c0 := ((H_w1.out.var 0 rfl)).cell 0 rfl
  have k0w1c1 := ((H_w1.out.var 0 rfl)).cell 1 rfl
  have k0w1c2 := ((H_w1.out.var 0 rfl)).cell 2 rfl
  have k0w1c3 := ((H_w1.out.var 0 rfl)).cell 3 rfl
  have k0w1c4 := ((H_w1.out.var 0 rfl)).cell 4 rfl
  have k0w1c5 := ((H_w1.out.var 0 rfl)).cell 5 rfl
  have k0w1c6 := ((H_w1.out.var 0 rfl)).cell 6 rfl
  have k0w1c7 := ((H_w1.out.var 0 rfl)).cell 7 rfl
  have k0w1c8 := ((H_w1.out.var 0 rfl)).cell 8 rfl
  have k1w1c0 := ((H_w1.out.var 1 rfl)).cell 0 rfl
  have k1w1c1 := ((H_w1.out.var 1 rfl)).cell 1 rfl
  have k1w1c2 := ((H_w1.out.var 1 rfl)).cell 2 rfl
  clear hB
  by_cases h0 : E = 0
  · subst h0
    obtain ⟨k1, k2, k3, k4, k5⟩ := linE_ok HE.out
    have hsc : scoreQ (qv la xa ya) (qv lb xb yb) lo hi md (qv xb0 xn xd) = K := by rw [← HK.out]; unfold scoreV; rw [if_pos HE.out]
    have HSC := Lib.hid hsc
    clear hsc k1 k4
    go_wp2_with fail
    refine (sscore_ok w1 la lb LA LD LB LE ca da cb db xa ya xb yb lo hi md (HXA.out.below H_w1.out.below) (HYA.out.below H_w1.out.below) (HXB.out.below H_w1.out.below) (HYB.out.below H_w1.out.below) sxa sya sxb syb xb0 XA XD cx dx xn xd (HXN.out.below H_w1.out.below) (HXD.out.below H_w1.out.below) sxn sxd k2 k3 k5).mono ?_
    rw [HSC.out]
    rintro e_ w2 ⟨rfl, hB⟩
    have H_w2 := Lib.hid (Mo.call H_w1.out hB)
    clear hB
    go_wp2_with fail
    go_ret2
    exact ⟨rfl, H_w2.out.below⟩
  · have e1 : (E == 0) = false := beq_eq_false_iff_ne.2 h0
    have e2 : (E != 0) = true := by simpa using h0
    obtain rfl : K = 0 := by rw [← HK.out]; unfold scoreV; rw [if_neg (by rw [HE.out]; exact h0)]
    clear h0
    go_wp2_with fail
    go_ret2
    exact ⟨rfl, H_w1.out.below⟩

set_option maxHeartbeats 400000 in
theorem large_ok (w : World) (xb0 : Bool) (XA XD : Option Addr) (cx dx : Nat) (xn xd : List Int) :
    Calls Try.prog 13 #[.agg #[.bool xb0, .slice XA xn.length cx, .slice XD xd.length dx]] w (fun e w' => e = .returned (.bool (big xn xd)) ∧ Below w.heap.size w w') := by
  go_enter Try.func13, Try.ntmps13
  go_upto_region 1 with fail
  obtain ⟨W, hW⟩ : ∃ W, W = (w.alloc (.cells #[.bool xb0, .slice XA xn.length cx, .slice XD xd.length dx] 33)) := ⟨_, rfl⟩
  rw [← hW]
  have H_W : Mo w W [(w.heap.size, 33, #[.bool xb0, .slice XA xn.length cx, .slice XD xd.length dx])] [] := by
    rw [hW]
    have h := ((Mo.start w).alloc (t := 33) (cs := #[.bool xb0, .slice XA xn.length cx, .slice XD xd.length dx]) (nd_rat _ _ _ _ _ _ _))
    simp only [size_alloc, List.nil_append, List.cons_append] at h
    exact h
  clear hW
  have H_W := Lib.hid H_W
  have k0Wc0 := ((H_W.out.var 0 rfl)).cell 0 rfl
  have k0Wc1 := ((H_W.out.var 0 rfl)).cell 1 rfl
  have k0Wc2 := ((H_W.out.var 0 rfl)).cell 2 rfl
  by_cases h1 : 20 < xn.length
  · have e1 : decide (20 < xn.length) = true := decide_eq_true h1
    have e1' : decide ((20 : Int) < (xn.length : Int)) = true := decide_eq_true (by omega)
    have HB : Hid (big xn xd = true) := by show _ = _; unfold big; rw [e1]; rfl
    clear h1
    go_wp2_with fail
    go_ret
    exact ⟨by rw [HB.out]; rfl, H_W.out.below⟩
  · have e1 : decide (20 < xn.length) = false := decide_eq_false h1
    have e1' : decide ((20 : Int) < (xn.length : Int)) = false := decide_eq_false (by omega)
    have HB : Hid (big xn xd = decide ((20 : Int) < (xd.length : Int))) := by show _ = _; unfold big; rw [e1, Bool.false_or]; exact decide_eq_decide.2 (by omega)
    clear h1
    go_wp2_with fail
    go_ret
    exact ⟨by rw [HB.out]; rfl, H_W.out.below⟩

set_option maxHeartbeats 400000 in
theorem wide_ok (w : World) (la lb : Bool) (LA LD LB LE : Option Addr) (ca da cb db : Nat) (xa ya xb yb : List Int) (lo hi md : Int) :
    Calls Try.prog 12 #[.agg #[.bool la, .slice LA xa.length ca, .slice LD ya.length da, .bool lb, .slice LB xb.length cb, .slice LE yb.length db, .int .i64 lo, .int .i64 hi, .int .i64 md]] w (fun e w' => e = .returned (.bool (big xa ya || big xb yb)) ∧ Below w.heap.size w w') := by
  go_enter Try.func12, Try.ntmps12
  obtain ⟨ba, hba⟩ : ∃ ba, big xa ya = ba := ⟨_, rfl⟩
  obtain ⟨bb, hbb⟩ : ∃ bb, big xb yb = bb := ⟨_, rfl⟩
  have HBA := Lib.hid hba
  have HBB := Lib.hid hbb
  rw [hba, hbb]
  clear hba hbb
  go_upto_region 1 with fail
  obtain ⟨W, hW⟩ : ∃ W, W = (w.alloc (.cells #[.bool la, .slice LA xa.length ca, .slice LD ya.length da, .bool lb, .slice LB xb.length cb, .slice LE yb.length db, .int .i64 lo, .int .i64 hi, .int .i64 md] 35)) := ⟨_, rfl⟩
  rw [← hW]
  have H_W : Mo w W [(w.heap.size, 35, #[.bool la, .slice LA xa.length ca, .slice LD ya.length da, .bool lb, .slice LB xb.length cb, .slice LE yb.length db, .int .i64 lo, .int .i64 hi, .int .i64 md])] [] := by
    rw [hW]
    have h := ((Mo.start w).alloc (t := 35) (cs := #[.bool la, .slice LA xa.length ca, .slice LD ya.length da, .bool lb, .slice LB xb.length cb, .slice LE yb.length db, .int .i64 lo, .int .i64 hi, .int .i64 md]) (nd_lin _ _ _ _ _ _ _ _ _ _ _ _ _ _ _ _ _))
    simp only [size_alloc, List.nil_append, List.cons_append] at h
    exact h
  clear hW
  have H_W := Lib.hid H_W
  have k0Wc0 := ((H_W.out.var 0 rfl)).cell 0 rfl
  have k0Wc1 := ((H_W.out.var 0 rfl)).cell 1 rfl
  have k0Wc2 := ((H_W.out.var 0 rfl)).cell 2 rfl
  have k0Wc3 := ((H_W.out.var 0 rfl)).cell 3 rfl
  have k0Wc4 := ((H_W.out.var 0 rfl)).cell 4 rfl
  have k0Wc5 := ((H_W.out.var 0 rfl)).cell 5 rfl
  have k0Wc6 := ((H_W.out.var 0 rfl)).cell 6 rfl
  have k0Wc7 := ((H_W.out.var 0 rfl)).cell 7 rfl
  have k0Wc8 := ((H_W.out.var 0 rfl)).cell 8 rfl
  go_wp2_with fail
  refine (large_ok W la LA LD ca da xa ya).mono ?_
  rw [HBA.out]
  rintro e_ w1 ⟨rfl, hB⟩
  have H_w1 := Lib.hid (Mo.call H_W.out hB)
  have k0w1c0 := ((H_w1.out.var 0 rfl)).cell 0 rfl
  have k0w1c1 := ((H_w1.out.var 0 rfl)).cell 1 rfl
  have k0w1c2 := ((H_w1.out.var 0 rfl)).cell 2 rfl
  have k0w1c3 := ((H_w1.out.var 0 rfl)).cell 3 rfl
  have k0w1c4 := ((H_w1.out.var 0 rfl)).cell 4 rfl
  have k0w1c5 := ((H_w1.out.var 0 rfl)).cell 5 rfl
  have k0w1c6 := ((H_w1.out.var 0 rfl)).cell 6 rfl
  have k0w1c7 := ((H_w1.out.var 0 rfl)).cell 7 rfl
  have k0w1c8 := ((H_w1.out.var 0 rfl)).cell 8 rfl
  clear hB
  cases ba
  · go_wp2_with fail
    refine (large_ok w1 lb LB LE cb db xb yb).mono ?_
    rw [HBB.out]
    rintro e_ w2 ⟨rfl, hB⟩
    have H_w2 := Lib.hid (Mo.call H_w1.out hB)
    clear hB
    go_wp2_with fail
    go_ret
    exact ⟨rfl, H_w2.out.below⟩
  · go_wp2_with fail
    go_ret
    exact ⟨rfl, H_w1.out.below⟩
theorem plain_score : scoreV (mkRat 2 1) 0 (-9) 9 6 (mkRat 2 1) = 4 ∧ linE (mkRat 2 1) (-9) 9 6 = 0 := by
  have h1 : linE (mkRat 2 1) (-9) 9 6 = 0 := by
    have h : cmpQ (mkRat 2 1) 0 = 1 := by
      have e : mkRat 0 1 = 0 := rfl
      rw [← e, ← cmpQ_mk (by decide) (by decide)]
      decide
    unfold linE
    rw [h]
    decide
  refine ⟨?_, h1⟩
  unfold scoreV scoreQ
  rw [if_pos h1, Rat.mkRat_mul_mkRat, Rat.add_zero]
  have h2 : rnd (mkRat (2 * 2) (1 * 1)) 6 = 4 := by
    unfold rnd
    rw [Rat.num_mkRat, Rat.den_mkRat]
    decide
  rw [h2]
  decide
theorem clamp_in {A B X : Rat} {lo hi md a : Int} (h : linE A lo hi md = 0) (ha : scoreV A B lo hi md X = a) : lo ≤ a ∧ a ≤ hi := by
  obtain ⟨_, _, _, h4, _⟩ := linE_ok h
  unfold scoreV scoreQ clampI at ha
  rw [if_pos h] at ha
  split at ha
  · omega
  · split at ha <;> omega
theorem score_mono {A B X Y : Rat} {lo hi md a c : Int} (h : linE A lo hi md = 0) (ha : scoreV A B lo hi md X = a) (hc : scoreV A B lo hi md Y = c) : (cmpQ X Y ≤ 0 ∧ a ≤ c) ∨ (¬ cmpQ X Y ≤ 0 ∧ c ≤ a) := by
  obtain ⟨h1, _, _, h4, h5⟩ := linE_ok h
  have hA : 0 < A := by
    have h2 : cmpQ A 0 ≤ 0 ↔ ¬ 0 < A := cmpQ_le'
    rcases Classical.em (0 < A) with h3 | h3
    · exact h3
    · have := h2.2 h3; omega
  unfold scoreV scoreQ at ha hc
  rw [if_pos h] at ha hc
  rcases Classical.em (cmpQ X Y ≤ 0) with h6 | h6
  · refine .inl ⟨h6, ?_⟩
    have h7 := Rat.not_lt.1 (cmpQ_le'.1 h6)
    have h8 : A * X + B ≤ A * Y + B := by
      have := Rat.mul_le_mul_of_nonneg_left h7 (Rat.le_of_lt hA)
      grind
    have h9 := rnd_mono h8 h5
    unfold clampI at ha hc
    split at ha <;> split at hc <;> (try split at ha) <;> (try split at hc) <;> omega
  · refine .inr ⟨h6, ?_⟩
    have h7 : Y ≤ X := by
      have h8 := fun h => h6 (cmpQ_le'.2 h)
      have : Y < X := Classical.not_not.1 h8
      exact Rat.le_of_lt this
    have h8 : A * Y + B ≤ A * X + B := by
      have := Rat.mul_le_mul_of_nonneg_left h7 (Rat.le_of_lt hA)
      grind
    have h9 := rnd_mono h8 h5
    unfold clampI at ha hc
    split at ha <;> split at hc <;> (try split at ha) <;> (try split at hc) <;> omega

set_option maxHeartbeats 3200000 in
theorem monotone_ok (w : World) (la lb : Bool) (LA LD LB LE : Option Addr) (ca da cb db : Nat) (xa ya xb yb : List Int) (lo hi md : Int) (hxa : RN w LA ca xa) (hya : RN w LD da ya) (hxb : RN w LB cb xb) (hyb : RN w LE db yb) (pb qb : Bool) (PA PD QA QD : Option Addr) (pc pe qc qe : Nat) (pn pd qn_ qd_ : List Int) (hpn : RN w PA pc pn) (hpd : RN w PD pe pd) (hqn : RN w QA qc qn_) (hqd : RN w QD qe qd_) :
    Calls Try.prog 7 #[.agg #[.bool la, .slice LA xa.length ca, .slice LD ya.length da, .bool lb, .slice LB xb.length cb, .slice LE yb.length db, .int .i64 lo, .int .i64 hi, .int .i64 md], .agg #[.bool pb, .slice PA pn.length pc, .slice PD pd.length pe], .agg #[.bool qb, .slice QA qn_.length qc, .slice QD qd_.length qe]] w (RetT w) := by
  have HXA := Lib.hid hxa
  have HYA := Lib.hid hya
  have HXB := Lib.hid hxb
  have HYB := Lib.hid hyb
  clear hxa hya hxb hyb
  have HPN := Lib.hid hpn
  have HPD := Lib.hid hpd
  have HQN := Lib.hid hqn
  have HQD := Lib.hid hqd
  clear hpn hpd hqn hqd
  go_enter Try.func7, Try.ntmps7
  obtain ⟨bl, hbl⟩ : ∃ bl, (big xa ya || big xb yb) = bl := ⟨_, rfl⟩
  obtain ⟨bp, hbp⟩ : ∃ bp, big pn pd = bp := ⟨_, rfl⟩
  obtain ⟨bq, hbq⟩ : ∃ bq, big qn_ qd_ = bq := ⟨_, rfl⟩
  have HBL := Lib.hid hbl
  have HBP := Lib.hid hbp
  have HBQ := Lib.hid hbq
  clear hbl hbp hbq
  go_upto_region 1 with fail
  obtain ⟨W, hW⟩ : ∃ W, W = (((w.alloc (.cells #[.bool la, .slice LA xa.length ca, .slice LD ya.length da, .bool lb, .slice LB xb.length cb, .slice LE yb.length db, .int .i64 lo, .int .i64 hi, .int .i64 md] 35)).alloc (.cells #[.bool pb, .slice PA pn.length pc, .slice PD pd.length pe] 33)).alloc (.cells #[.bool qb, .slice QA qn_.length qc, .slice QD qd_.length qe] 33)) := ⟨_, rfl⟩
  rw [← hW]
  have H_W : Mo w W [(w.heap.size, 35, #[.bool la, .slice LA xa.length ca, .slice LD ya.length da, .bool lb, .slice LB xb.length cb, .slice LE yb.length db, .int .i64 lo, .int .i64 hi, .int .i64 md]), (w.heap.size + 1, 33, #[.bool pb, .slice PA pn.length pc, .slice PD pd.length pe]), (w.heap.size + 1 + 1, 33, #[.bool qb, .slice QA qn_.length qc, .slice QD qd_.length qe])] [] := by
    rw [hW]
    have h := ((((Mo.start w).alloc (t := 35) (cs := #[.bool la, .slice LA xa.length ca, .slice LD ya.length da, .bool lb, .slice LB xb.length cb, .slice LE yb.length db, .int .i64 lo, .int .i64 hi, .int .i64 md]) (nd_lin _ _ _ _ _ _ _ _ _ _ _ _ _ _ _ _ _)).alloc (t := 33) (cs := #[.bool pb, .slice PA pn.length pc, .slice PD pd.length pe]) (nd_rat _ _ _ _ _ _ _)).alloc (t := 33) (cs := #[.bool qb, .slice QA qn_.length qc, .slice QD qd_.length qe]) (nd_rat _ _ _ _ _ _ _))
    simp only [size_alloc, List.nil_append, List.cons_append] at h
    exact h
  clear hW
  obtain ⟨gW2, hgW2⟩ : ∃ g, w.heap.size + 1 + 1 = g := ⟨_, rfl⟩
  rw [hgW2] at H_W ⊢
  clear hgW2
  obtain ⟨gW1, hgW1⟩ : ∃ g, w.heap.size + 1 = g := ⟨_, rfl⟩
  rw [hgW1] at H_W ⊢
  clear hgW1
  have neW01 : w.heap.size ≠ gW1 := H_W.apart 0 1 _ _ _ _ _ _ rfl rfl (by decide)
  have neW02 : w.heap.size ≠ gW2 := H_W.apart 0 2 _ _ _ _ _ _ rfl rfl (by decide)
  have neW10 : gW1 ≠ w.heap.size := H_W.apart 1 0 _ _ _ _ _ _ rfl rfl (by decide)
  have neW12 : gW1 ≠ gW2 := H_W.apart 1 2 _ _ _ _ _ _ rfl rfl (by decide)
  have neW20 : gW2 ≠ w.heap.size := H_W.apart 2 0 _ _ _ _ _ _ rfl rfl (by decide)
  have neW21 : gW2 ≠ gW1 := H_W.apart 2 1 _ _ _ _ _ _ rfl rfl (by decide)
  have H_W := Lib.hid H_W
  have k0Wc0 := ((H_W.out.var 0 rfl)).cell 0 rfl
  have k0Wc1 := ((H_W.out.var 0 rfl)).cell 1 rfl
  have k0Wc2 := ((H_W.out.var 0 rfl)).cell 2 rfl
  have k0Wc3 := ((H_W.out.var 0 rfl)).cell 3 rfl
  have k0Wc4 := ((H_W.out.var 0 rfl)).cell 4 rfl
  have k0Wc5 := ((H_W.out.var 0 rfl)).cell 5 rfl
  have k0Wc6 := ((H_W.out.var 0 rfl)).cell 6 rfl
  have k0Wc7 := ((H_W.out.var 0 rfl)).cell 7 rfl
  have k0Wc8 := ((H_W.out.var 0 rfl)).cell 8 rfl
  have k1Wc0 := ((H_W.out.var 1 rfl)).cell 0 rfl
  have k1Wc1 := ((H_W.out.var 1 rfl)).cell 1 rfl
  have k1Wc2 := ((H_W.out.var 1 rfl)).cell 2 rfl
  have k2Wc0 := ((H_W.out.var 2 rfl)).cell 0 rfl
  have k2Wc1 := ((H_W.out.var 2 rfl)).cell 1 rfl
  have k2Wc2 := ((H_W.out.var 2 rfl)).cell 2 rfl
  go_wp2_with fail
  refine (wide_ok W la lb LA LD LB LE ca da cb db xa ya xb yb lo hi md).mono ?_
  rw [HBL.out]
  rintro e_ w1 ⟨rfl, hB⟩
  have H_w1 := Lib.hid (Mo.call H_W.out hB)
  have k0w1c0 := ((H_w1.out.var 0 rfl)).cell 0 rfl
  have k0w1c1 := ((H_w1.out.var 0 rfl)).cell 1 rfl
  have k0w1c2 := ((H_w1.out.var 0 rfl)).cell 2 rfl
  have k0w1c3 := ((H_w1.out.var 0 rfl)).cell 3 rfl
  have k0w1c4 := ((H_w1.out.var 0 rfl)).cell 4 rfl
  have k0w1c5 := ((H_w1.out.var 0 rfl)).cell 5 rfl
  have k0w1c6 := ((H_w1.out.var 0 rfl)).cell 6 rfl
  have k0w1c7 := ((H_w1.out.var 0 rfl)).cell 7 rfl
  have k0w1c8 := ((H_w1.out.var 0 rfl)).cell 8 rfl
  have k1w1c0 := ((H_w1.out.var 1 rfl)).cell 0 rfl
  have k1w1c1 := ((H_w1.out.var 1 rfl)).cell 1 rfl
  have k1w1c2 := ((H_w1.out.var 1 rfl)).cell 2 rfl
  have k2w1c0 := ((H_w1.out.var 2 rfl)).cell 0 rfl
  have k2w1c1 := ((H_w1.out.var 2 rfl)).cell 1 rfl
  have k2w1c2 := ((H_w1.out.var 2 rfl)).cell 2 rfl
  clear hB
  cases bl
  rotate_left
  · go_wp2_with fail
    go_ret
    exact ⟨rfl, H_w1.out.below⟩
  go_wp2_with fail
  refine (large_ok w1 pb PA PD pc pe pn pd).mono ?_
  rw [HBP.out]
  rintro e_ w2 ⟨rfl, hB⟩
  have H_w2 := Lib.hid (Mo.call H_w1.out hB)
  have k0w2c0 := ((H_w2.out.var 0 rfl)).cell 0 rfl
  have k0w2c1 := ((H_w2.out.var 0 rfl)).cell 1 rfl
  have k0w2c2 := ((H_w2.out.var 0 rfl)).cell 2 rfl
  have k0w2c3 := ((H_w2.out.var 0 rfl)).cell 3 rfl
  have k0w2c4 := ((H_w2.out.var 0 rfl)).cell 4 rfl
  have k0w2c5 := ((H_w2.out.var 0 rfl)).cell 5 rfl
  have k0w2c6 := ((H_w2.out.var 0 rfl)).cell 6 rfl
  have k0w2c7 := ((H_w2.out.var 0 rfl)).cell 7 rfl
  have k0w2c8 := ((H_w2.out.var 0 rfl)).cell 8 rfl
  have k1w2c0 := ((H_w2.out.var 1 rfl)).cell 0 rfl
  have k1w2c1 := ((H_w2.out.var 1 rfl)).cell 1 rfl
  have k1w2c2 := ((H_w2.out.var 1 rfl)).cell 2 rfl
  have k2w2c0 := ((H_w2.out.var 2 rfl)).cell 0 rfl
  have k2w2c1 := ((H_w2.out.var 2 rfl)).cell 1 rfl
  have k2w2c2 := ((H_w2.out.var 2 rfl)).cell 2 rfl
  clear hB
  cases bp
  rotate_left
  · go_wp2_with fail
    go_ret
    exact ⟨rfl, H_w2.out.below⟩
  go_wp2_with fail
  refine (large_ok w2 qb QA QD qc qe qn_ qd_).mono ?_
  rw [HBQ.out]
  rintro e_ w3 ⟨rfl, hB⟩
  have H_w3 := Lib.hid (Mo.call H_w2.out hB)
  have k0w3c0 := ((H_w3.out.var 0 rfl)).cell 0 rfl
  have k0w3c1 := ((H_w3.out.var 0 rfl)).cell 1 rfl
  have k0w3c2 := ((H_w3.out.var 0 rfl)).cell 2 rfl
  have k0w3c3 := ((H_w3.out.var 0 rfl)).cell 3 rfl
  have k0w3c4 := ((H_w3.out.var 0 rfl)).cell 4 rfl
  have k0w3c5 := ((H_w3.out.var 0 rfl)).cell 5 rfl
  have k0w3c6 := ((H_w3.out.var 0 rfl)).cell 6 rfl
  have k0w3c7 := ((H_w3.out.var 0 rfl)).cell 7 rfl
  have k0w3c8 := ((H_w3.out.var 0 rfl)).cell 8 rfl
  have k1w3c0 := ((H_w3.out.var 1 rfl)).cell 0 rfl
  have k1w3c1 := ((H_w3.out.var 1 rfl)).cell 1 rfl
  have k1w3c2 := ((H_w3.out.var 1 rfl)).cell 2 rfl
  have k2w3c0 := ((H_w3.out.var 2 rfl)).cell 0 rfl
  have k2w3c1 := ((H_w3.out.var 2 rfl)).cell 1 rfl
  have k2w3c2 := ((H_w3.out.var 2 rfl)).cell 2 rfl
  clear hB
  cases bq
  rotate_left
  · go_wp2_with fail
    go_ret
    exact ⟨rfl, H_w3.out.below⟩
  have sall : (xa.length ≤ 20 ∧ ya.length ≤ 20) ∧ (xb.length ≤ 20 ∧ yb.length ≤ 20) ∧ (pn.length ≤ 20 ∧ pd.length ≤ 20) ∧ qn_.length ≤ 20 ∧ qd_.length ≤ 20 := by
    have h1 := HBL.out
    have h2 := HBP.out
    have h3 := HBQ.out
    unfold big at h1 h2 h3
    simp only [Bool.or_eq_false_iff, decide_eq_false_iff_not] at h1 h2 h3
    omega
  obtain ⟨⟨sxa, sya⟩, ⟨sxb, syb⟩, ⟨spn, spd⟩, sqn, sqd⟩ := sall
  clear HBL HBP HBQ
  obtain ⟨E, hE⟩ : ∃ E, linE (qv la xa ya) lo hi md = E := ⟨_, rfl⟩
  obtain ⟨a, ha⟩ : ∃ a, scoreV (qv la xa ya) (qv lb xb yb) lo hi md (qv pb pn pd) = a := ⟨_, rfl⟩
  obtain ⟨c, hc⟩ : ∃ c, scoreV (qv la xa ya) (qv lb xb yb) lo hi md (qv qb qn_ qd_) = c := ⟨_, rfl⟩
  have HE := Lib.hid hE
  have HA := Lib.hid ha
  have HC := Lib.hid hc
  clear hE ha hc
  go_wp2_with fail
  refine (sScore_ok w3 la lb LA LD LB LE ca da cb db xa ya xb yb lo hi md (HXA.out.below H_w3.out.below) (HYA.out.below H_w3.out.below) (HXB.out.below H_w3.out.below) (HYB.out.below H_w3.out.below) sxa sya sxb syb pb PA PD pc pe pn pd (HPN.out.below H_w3.out.below) (HPD.out.below H_w3.out.below) spn spd).mono ?_
  rw [HA.out, HE.out]
  rintro e_ w4 ⟨rfl, hB⟩
  have H_w4 := Lib.hid (Mo.call H_w3.out hB)
  have k0w4c0 := ((H_w4.out.var 0 rfl)).cell 0 rfl
  have k0w4c1 := ((H_w4.out.var 0 rfl)).cell 1 rfl
  have k0w4c2 := ((H_w4.out.var 0 rfl)).cell 2 rfl
  have k0w4c3 := ((H_w4.out.var 0 rfl)).cell 3 rfl
  have k0w4c4 := ((H_w4.out.var 0 rfl)).cell 4 rfl
  have k0w4c5 := ((H_w4.out.var 0 rfl)).cell 5 rfl
  have k0w4c6 := ((H_w4.out.var 0 rfl)).cell 6 rfl
  have k0w4c7 := ((H_w4.out.var 0 rfl)).cell 7 rfl
  have k0w4c8 := ((H_w4.out.var 0 rfl)).cell 8 rfl
  have k1w4c0 := ((H_w4.out.var 1 rfl)).cell 0 rfl
  have k1w4c1 := ((H_w4.out.var 1 rfl)).cell 1 rfl
  have k1w4c2 := ((H_w4.out.var 1 rfl)).cell 2 rfl
  have k2w4c0 := ((H_w4.out.var 2 rfl)).cell 0 rfl
  have k2w4c1 := ((H_w4.out.var 2 rfl)).cell 1 rfl
  have k2w4c2 := ((H_w4.out.var 2 rfl)).cell 2 rfl
  clear hB
  go_wp2_with fail
  refine (sScore_ok w4 la lb LA LD LB LE ca da cb db xa ya xb yb lo hi md (HXA.out.below H_w4.out.below) (HYA.out.below H_w4.out.below) (HXB.out.below H_w4.out.below) (HYB.out.below H_w4.out.below) sxa sya sxb syb qb QA QD qc qe qn_ qd_ (HQN.out.below H_w4.out.below) (HQD.out.below H_w4.out.below) sqn sqd).mono ?_
  rw [HC.out, HE.out]
  rintro e_ w5 ⟨rfl, hB⟩
  have H_w5 := Lib.hid (Mo.call H_w4.out hB)
  have k0w5c0 := ((H_w5.out.var 0 rfl)).cell 0 rfl
  have k0w5c1 := ((H_w5.out.var 0 rfl)).cell 1 rfl
  have k0w5c2 := ((H_w5.out.var 0 rfl)).cell 2 rfl
  have k0w5c3 := ((H_w5.out.var 0 rfl)).cell 3 rfl
  have k0w5c4 := ((H_w5.out.var 0 rfl)).cell 4 rfl
  have k0w5c5 := ((H_w5.out.var 0 rfl)).cell 5 rfl
  have k0w5c6 := ((H_w5.out.var 0 rfl)).cell 6 rfl
  have k0w5c7 := ((H_w5.out.var 0 rfl)).cell 7 rfl
  have k0w5c8 := ((H_w5.out.var 0 rfl)).cell 8 rfl
  have k1w5c0 := ((H_w5.out.var 1 rfl)).cell 0 rfl
  have k1w5c1 := ((H_w5.out.var 1 rfl)).cell 1 rfl
  have k1w5c2 := ((H_w5.out.var 1 rfl)).cell 2 rfl
  have k2w5c0 := ((H_w5.out.var 2 rfl)).cell 0 rfl
  have k2w5c1 := ((H_w5.out.var 2 rfl)).cell 1 rfl
  have k2w5c2 := ((H_w5.out.var 2 rfl)).cell 2 rfl
  clear hB
  by_cases h0 : E = 0
  rotate_left
  · have e1 : (E == 0) = false := beq_eq_false_iff_ne.2 h0
    have e2 : (E != 0) = true := by simpa using h0
    obtain rfl : a = 0 := by rw [← HA.out]; unfold scoreV; rw [if_neg (by rw [HE.out]; exact h0)]
    obtain rfl : c = 0 := by rw [← HC.out]; unfold scoreV; rw [if_neg (by rw [HE.out]; exact h0)]
    clear h0
    go_wp2_with fail
    refine (svalid_ok w5 la lb LA LD LB LE ca da cb db xa ya xb yb lo hi md (HXA.out.below H_w5.out.below) (HYA.out.below H_w5.out.below) (HXB.out.below H_w5.out.below) (HYB.out.below H_w5.out.below) sxa sya sxb syb).mono ?_
    rw [HE.out]
    rintro e_ w6 ⟨rfl, hB⟩
    have H_w6 := Lib.hid (Mo.call H_w5.out hB)
    clear hB
    go_wp2_with fail
    go_ret
    exact ⟨rfl, H_w6.out.below⟩
  subst h0
  have HLO := Lib.hid (linE_ok HE.out)
  go_wp2_with fail
  refine (qof_ok w5 2 1 (by omega) (by omega) (by omega) (by omega)).mono ?_
  rintro e_ w6 ⟨tb, TA, tc, tn, TD, te, td, rfl, HT1, HT2, HT3, ht1, ht2, hB⟩
  have H_w6 := Lib.hid (Mo.num (Mo.num (Mo.call H_w5.out hB) ht1) ht2)
  have hml := mk_len (n := 2) (m := 1) (by decide) (by decide) (by decide)
  have HTV : Hid (qv tb tn td = mkRat 2 1) := qv_is HT1.out HT2.out HT3.out
  have HTL : Hid (tn.length ≤ 2 ∧ td.length ≤ 2) := by show _ ∧ _; rw [HT2.out, HT3.out]; exact hml
  clear hml
  clear hB ht1 ht2
  go_upto_region 8 with fail
  obtain ⟨T1, hT1⟩ : ∃ T1, T1 = w6.alloc (.cells #[.bool tb, .slice TA tn.length tc, .slice TD td.length te] 33) := ⟨_, rfl⟩
  rw [← hT1]
  have H_T1 : Hid (Mo w T1 _ _) := Lib.hid (by rw [hT1]; exact H_w6.out.alloc (t := 33) (cs := #[.bool tb, .slice TA tn.length tc, .slice TD td.length te]) (nd_rat _ _ _ _ _ _ _))
  clear hT1
  have k3T1c0 := ((H_T1.out.var 3 rfl)).cell 0 rfl
  have k3T1c1 := ((H_T1.out.var 3 rfl)).cell 1 rfl
  have k3T1c2 := ((H_T1.out.var 3 rfl)).cell 2 rfl
  go_upto_region 9 with fail
  obtain ⟨T2, hT2⟩ : ∃ T2, T2 = T1.alloc (.cells #[.bool tb, .slice TA tn.length tc, .slice TD td.length te, .bool false, .slice none 0 0, .slice none 0 0, .int .i64 (-9), .int .i64 9, .int .i64 6] 35) := ⟨_, rfl⟩
  rw [← hT2]
  have H_T2 : Hid (Mo w T2 _ _) := Lib.hid (by rw [hT2]; exact H_T1.out.alloc (t := 35) (cs := #[.bool tb, .slice TA tn.length tc, .slice TD td.length te, .bool false, .slice none 0 0, .slice none 0 0, .int .i64 (-9), .int .i64 9, .int .i64 6]) (nd_lin _ _ _ _ _ _ _ _ _ _ _ _ _ _ _ _ _))
  clear hT2
  have k0T2c0 := ((H_T2.out.var 0 rfl)).cell 0 rfl
  have k0T2c1 := ((H_T2.out.var 0 rfl)).cell 1 rfl
  have k0T2c2 := ((H_T2.out.var 0 rfl)).cell 2 rfl
  have k0T2c3 := ((H_T2.out.var 0 rfl)).cell 3 rfl
  have k0T2c4 := ((H_T2.out.var 0 rfl)).cell 4 rfl
  have k0T2c5 := ((H_T2.out.var 0 rfl)).cell 5 rfl
  have k0T2c6 := ((H_T2.out.var 0 rfl)).cell 6 rfl
  have k0T2c7 := ((H_T2.out.var 0 rfl)).cell 7 rfl
  have k0T2c8 := ((H_T2.out.var 0 rfl)).cell 8 rfl
  have k1T2c0 := ((H_T2.out.var 1 rfl)).cell 0 rfl
  have k1T2c1 := ((H_T2.out.var 1 rfl)).cell 1 rfl
  have k1T2c2 := ((H_T2.out.var 1 rfl)).cell 2 rfl
  have k2T2c0 := ((H_T2.out.var 2 rfl)).cell 0 rfl
  have k2T2c1 := ((H_T2.out.var 2 rfl)).cell 1 rfl
  have k2T2c2 := ((H_T2.out.var 2 rfl)).cell 2 rfl
  have k3T2c0 := ((H_T2.out.var 3 rfl)).cell 0 rfl
  have k3T2c1 := ((H_T2.out.var 3 rfl)).cell 1 rfl
  have k3T2c2 := ((H_T2.out.var 3 rfl)).cell 2 rfl
  have k4T2c0 := ((H_T2.out.var 4 rfl)).cell 0 rfl
  have k4T2c1 := ((H_T2.out.var 4 rfl)).cell 1 rfl
  have k4T2c2 := ((H_T2.out.var 4 rfl)).cell 2 rfl
  have k4T2c3 := ((H_T2.out.var 4 rfl)).cell 3 rfl
  have k4T2c4 := ((H_T2.out.var 4 rfl)).cell 4 rfl
  have k4T2c5 := ((H_T2.out.var 4 rfl)).cell 5 rfl
  have k4T2c6 := ((H_T2.out.var 4 rfl)).cell 6 rfl
  have k4T2c7 := ((H_T2.out.var 4 rfl)).cell 7 rfl
  have k4T2c8 := ((H_T2.out.var 4 rfl)).cell 8 rfl
  go_wp2_with fail
  refine (sScore_ok T2 tb false TA TD none none tc te 0 0 tn td [] [] (-9) 9 6 (H_T2.out.rn 0 rfl) (H_T2.out.rn 1 rfl) (RN.nil T2) (RN.nil T2) (by have := HTL.out; omega) (by have := HTL.out; omega) (by decide) (by decide) tb TA TD tc te tn td (H_T2.out.rn 0 rfl) (H_T2.out.rn 1 rfl) (by have := HTL.out; omega) (by have := HTL.out; omega)).mono ?_
  rw [HTV.out, show qv false [] [] = 0 from rfl, plain_score.1, plain_score.2]
  rintro e_ w7 ⟨rfl, hB⟩
  have H_w7 := Lib.hid (Mo.call H_T2.out hB)
  have k0w7c0 := ((H_w7.out.var 0 rfl)).cell 0 rfl
  have k0w7c1 := ((H_w7.out.var 0 rfl)).cell 1 rfl
  have k0w7c2 := ((H_w7.out.var 0 rfl)).cell 2 rfl
  have k0w7c3 := ((H_w7.out.var 0 rfl)).cell 3 rfl
  have k0w7c4 := ((H_w7.out.var 0 rfl)).cell 4 rfl
  have k0w7c5 := ((H_w7.out.var 0 rfl)).cell 5 rfl
  have k0w7c6 := ((H_w7.out.var 0 rfl)).cell 6 rfl
  have k0w7c7 := ((H_w7.out.var 0 rfl)).cell 7 rfl
  have k0w7c8 := ((H_w7.out.var 0 rfl)).cell 8 rfl
  have k1w7c0 := ((H_w7.out.var 1 rfl)).cell 0 rfl
  have k1w7c1 := ((H_w7.out.var 1 rfl)).cell 1 rfl
  have k1w7c2 := ((H_w7.out.var 1 rfl)).cell 2 rfl
  have k2w7c0 := ((H_w7.out.var 2 rfl)).cell 0 rfl
  have k2w7c1 := ((H_w7.out.var 2 rfl)).cell 1 rfl
  have k2w7c2 := ((H_w7.out.var 2 rfl)).cell 2 rfl
  clear hB
  have hin := clamp_in HE.out HA.out
  have hin2 := clamp_in HE.out HC.out
  have e1 : decide (a < lo) = false := decide_eq_false (by omega)
  have e2 : decide (hi < a) = false := decide_eq_false (by omega)
  have e3 : decide (c < lo) = false := decide_eq_false (by omega)
  have e4 : decide (hi < c) = false := decide_eq_false (by omega)
  clear hin hin2
  go_wp2_with fail
  refine (qcmp_ok w7 pb qb PA PD QA QD pc pe qc qe pn pd qn_ qd_ (HPN.out.below H_w7.out.below) (HPD.out.below H_w7.out.below) (HQN.out.below H_w7.out.below) (HQD.out.below H_w7.out.below) (by omega) (by omega) (by omega) (by omega)).mono ?_
  rw [cmp_qv HPD.out.2 HQD.out.2]
  rintro e_ w8 ⟨rfl, hB⟩
  have H_w8 := Lib.hid (Mo.call H_w7.out hB)
  clear hB
  rcases score_mono HE.out HA.out HC.out with ⟨h1, h2⟩ | ⟨h1, h2⟩
  · have d1 : decide (cmpQ (qv pb pn pd) (qv qb qn_ qd_) ≤ 0) = true := decide_eq_true h1
    obtain ⟨s, hs⟩ : ∃ s, cmpQ (qv pb pn pd) (qv qb qn_ qd_) = s := ⟨_, rfl⟩
    rw [hs] at d1 ⊢
    have d2 : decide (a ≤ c) = true := decide_eq_true h2
    clear h1 h2 hs
    go_wp2_with fail
    go_ret
    exact ⟨rfl, H_w8.out.below⟩
  · have d1 : decide (cmpQ (qv pb pn pd) (qv qb qn_ qd_) ≤ 0) = false := decide_eq_false h1
    obtain ⟨s, hs⟩ : ∃ s, cmpQ (qv pb pn pd) (qv qb qn_ qd_) = s := ⟨_, rfl⟩
    rw [hs] at d1 ⊢
    have d2 : decide (c ≤ a) = true := decide_eq_true h2
    clear h1 h2 hs
    go_wp2_with fail
    go_ret
    exact ⟨rfl, H_w8.out.below⟩
theorem monotone_row (w : World) (la lb : Bool) (LA LD LB LE : Option Addr) (ca da cb db : Nat) (xa ya xb yb : List Int) (lo hi md : Int) (hxa : RN w LA ca xa) (hya : RN w LD da ya) (hxb : RN w LB cb xb) (hyb : RN w LE db yb) (_ : -9223372036854775808 ≤ lo ∧ lo ≤ 9223372036854775807) (_ : -9223372036854775808 ≤ hi ∧ hi ≤ 9223372036854775807) (_ : -9223372036854775808 ≤ md ∧ md ≤ 9223372036854775807)
    (pb : Bool) (PA PD : Option Addr) (pc pe : Nat) (pn pd : List Int) (hpn : RN w PA pc pn) (hpd : RN w PD pe pd) (qb : Bool) (QA QD : Option Addr) (qc qe : Nat) (qn_ qd_ : List Int) (hqn : RN w QA qc qn_) (hqd : RN w QD qe qd_) :
    Calls Try.prog 7 #[.agg #[.bool la, .slice LA xa.length ca, .slice LD ya.length da, .bool lb, .slice LB xb.length cb, .slice LE yb.length db, .int .i64 lo, .int .i64 hi, .int .i64 md], .agg #[.bool pb, .slice PA pn.length pc, .slice PD pd.length pe], .agg #[.bool qb, .slice QA qn_.length qc, .slice QD qd_.length qe]] w (RetT w) :=
  monotone_ok w la lb LA LD LB LE ca da cb db xa ya xb yb lo hi md hxa hya hxb hyb pb qb PA PD QA QD pc pe qc qe pn pd qn_ qd_ hpn hpd hqn hqd

end Go.Proofs.Ytgdlnmhpnlmofaa.M
