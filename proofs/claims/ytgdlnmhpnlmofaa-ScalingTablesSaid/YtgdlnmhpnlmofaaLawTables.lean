/- The law ScalingTables: its walk. -/
import Derived.Test.YtgdlnmhpnlmofaaRefTable
namespace Go.Proofs.Ytgdlnmhpnlmofaa.M
set_option maxRecDepth 10000
open Go.RowKit
set_option linter.unusedVariables false
set_option linter.unusedSimpArgs false

set_option maxHeartbeats 3200000 in
theorem tables_ok (w : World) (la lb : Bool) (LA LD LB LE : Option Addr) (ca da cb db : Nat) (xa ya xb yb : List Int) (lo hi md : Int) (hxa : RN w LA ca xa) (hya : RN w LD da ya) (hxb : RN w LB cb xb) (hyb : RN w LE db yb) (S : Option Addr) (cS : Nat) (rs : List Rt) (hrs : Rs w S cS rs) (least : Int) :
    Calls Try.prog 8 #[.agg #[.bool la, .slice LA xa.length ca, .slice LD ya.length da, .bool lb, .slice LB xb.length cb, .slice LE yb.length db, .int .i64 lo, .int .i64 hi, .int .i64 md], .slice S rs.length cS, .int .i64 least] w (RetT w) := by
  have HXA := Lib.hid hxa
  have HYA := Lib.hid hya
  have HXB := Lib.hid hxb
  have HYB := Lib.hid hyb
  clear hxa hya hxb hyb
  have hmx : rs.length ≤ 9223372036854775807 := Nat.le_trans hrs.1 hrs.2.1
  have HRS := Lib.hid hrs
  clear hrs
  go_enter Try.func8, Try.ntmps8
  obtain ⟨bl, hbl⟩ : ∃ bl, (big xa ya || big xb yb) = bl := ⟨_, rfl⟩
  obtain ⟨bm, hbm⟩ : ∃ bm, anyBig rs = bm := ⟨_, rfl⟩
  have HBL := Lib.hid hbl
  have HBM := Lib.hid hbm
  clear hbl hbm
  go_upto_region 1 with fail
  obtain ⟨W, hW⟩ : ∃ W, W = (w.alloc (.cells #[.bool la, .slice LA xa.length ca, .slice LD ya.length da, .bool lb, .slice LB xb.length cb, .slice LE yb.length db, .int .i64 lo, .int .i64 hi, .int .i64 md] 35)) := ⟨_, rfl⟩
  rw [← hW]
  have H_W : Mo w W [(w.heap.size, 35, #[.bool la, .slice LA xa.length ca, .slice LD ya.length da, .bool lb, .slice LB xb.length cb, .slice LE yb.length db, .int .i64 lo, .int .i64 hi, .int .i64 md])] [] := by
    rw [hW]
    have h := ((Mo.start w).alloc (t := 35) (cs := #[.bool la, .slice LA xa.length ca, .slice LD ya.length da, .bool lb, .slice LB xb.length cb, .slice LE yb.length db, .int .i64 lo, .int .i64 hi, .int .i64 md]) (nd_lin _ _ _ _ _ _ _ _ _ _ _ _ _ _ _ _ _))
    simp only [size_alloc, List.nil_append, List.cons_append] at h
    exact h
  clear hW
  have H_W := Lib.hid H_W
  have k0Wc0 := ((H_W.out.var 0 rfl)).cell 0 rfl
  have k0Wc1 := ((H_W.out.var 0 rfl)).cell 1 rfl
  have k0Wc2 := ((H_W.out.var 0 rfl)).cell 2 rfl
  have k0Wc3 := ((H_W.out.var 0 rfl)).cell 3 rfl
  have k0Wc4 := ((H_W.out.var 0 rfl)).cell 4 rfl
  have k0Wc5 := ((H_W.out.var 0 rfl)).cell 5 rfl
  have k0Wc6 := ((H_W.out.var 0 rfl)).cell 6 rfl
  have k0Wc7 := ((H_W.out.var 0 rfl)).cell 7 rfl
  have k0Wc8 := ((H_W.out.var 0 rfl)).cell 8 rfl
  go_wp2_with fail
  refine (wide_ok W la lb LA LD LB LE ca da cb db xa ya xb yb lo hi md).mono ?_
  rw [HBL.out]
  rintro e_ w1 ⟨rfl, hB⟩
  have H_w1 := Lib.hid (Mo.call H_W.out hB)
  have k0w1c0 := ((H_w1.out.var 0 rfl)).cell 0 rfl
  have k0w1c1 := ((H_w1.out.var 0 rfl)).cell 1 rfl
  have k0w1c2 := ((H_w1.out.var 0 rfl)).cell 2 rfl
  have k0w1c3 := ((H_w1.out.var 0 rfl)).cell 3 rfl
  have k0w1c4 := ((H_w1.out.var 0 rfl)).cell 4 rfl
  have k0w1c5 := ((H_w1.out.var 0 rfl)).cell 5 rfl
  have k0w1c6 := ((H_w1.out.var 0 rfl)).cell 6 rfl
  have k0w1c7 := ((H_w1.out.var 0 rfl)).cell 7 rfl
  have k0w1c8 := ((H_w1.out.var 0 rfl)).cell 8 rfl
  clear hB
  cases bl
  rotate_left
  · go_wp2_with fail
    go_ret
    exact ⟨rfl, H_w1.out.below⟩
  go_wp2_with fail
  refine (much_ok w1 S cS rs (HRS.out.below H_w1.out.below)).mono ?_
  rw [HBM.out]
  rintro e_ w2 ⟨rfl, hB⟩
  have H_w2 := Lib.hid (Mo.call H_w1.out hB)
  have k0w2c0 := ((H_w2.out.var 0 rfl)).cell 0 rfl
  have k0w2c1 := ((H_w2.out.var 0 rfl)).cell 1 rfl
  have k0w2c2 := ((H_w2.out.var 0 rfl)).cell 2 rfl
  have k0w2c3 := ((H_w2.out.var 0 rfl)).cell 3 rfl
  have k0w2c4 := ((H_w2.out.var 0 rfl)).cell 4 rfl
  have k0w2c5 := ((H_w2.out.var 0 rfl)).cell 5 rfl
  have k0w2c6 := ((H_w2.out.var 0 rfl)).cell 6 rfl
  have k0w2c7 := ((H_w2.out.var 0 rfl)).cell 7 rfl
  have k0w2c8 := ((H_w2.out.var 0 rfl)).cell 8 rfl
  clear hB
  cases bm
  rotate_left
  · go_wp2_with fail
    go_ret
    exact ⟨rfl, H_w2.out.below⟩
  by_cases h70 : 70 < rs.length
  · have d1 : decide ((70 : Int) < (rs.length : Int)) = true := decide_eq_true (by omega)
    have d1' : decide (70 < rs.length) = true := decide_eq_true h70
    go_wp2_with fail
    go_ret
    exact ⟨rfl, H_w2.out.below⟩
  have d1 : decide ((70 : Int) < (rs.length : Int)) = false := decide_eq_false (by omega)
  have d1' : decide (70 < rs.length) = false := decide_eq_false h70
  have hrl : rs.length ≤ 70 := by omega
  have HSM : Hid (∀ (j : Nat) (r : Rt), rs[j]? = some r → r.xs.length ≤ 20 ∧ r.ys.length ≤ 20) := fun j r h => anyBig_small HBM.out hrl h
  have sall : (xa.length ≤ 20 ∧ ya.length ≤ 20) ∧ (xb.length ≤ 20 ∧ yb.length ≤ 20) := by
    have h1 := HBL.out
    unfold big at h1
    simp only [Bool.or_eq_false_iff, decide_eq_false_iff_not] at h1
    omega
  obtain ⟨⟨sxa, sya⟩, ⟨sxb, syb⟩⟩ := sall
  clear HBL HBM h70
  obtain ⟨E, hE⟩ : ∃ E, chkE (linE (qv la xa ya) lo hi md) rs.length = E := ⟨_, rfl⟩
  have HE := Lib.hid hE
  clear hE
  go_wp2_with fail
  refine (table_ok w2 la lb LA LD LB LE ca da cb db xa ya xb yb lo hi md (HXA.out.below H_w2.out.below) (HYA.out.below H_w2.out.below) (HXB.out.below H_w2.out.below) (HYB.out.below H_w2.out.below) sxa sya sxb syb S cS rs (HRS.out.below H_w2.out.below) HSM.out).mono ?_
  rw [HE.out]
  rintro e_ w3 ⟨T, cT, ts, rfl, HT, hT, hB⟩
  have H_w3 := Lib.hid (Mo.call H_w2.out hB)
  have k0w3c0 := ((H_w3.out.var 0 rfl)).cell 0 rfl
  have k0w3c1 := ((H_w3.out.var 0 rfl)).cell 1 rfl
  have k0w3c2 := ((H_w3.out.var 0 rfl)).cell 2 rfl
  have k0w3c3 := ((H_w3.out.var 0 rfl)).cell 3 rfl
  have k0w3c4 := ((H_w3.out.var 0 rfl)).cell 4 rfl
  have k0w3c5 := ((H_w3.out.var 0 rfl)).cell 5 rfl
  have k0w3c6 := ((H_w3.out.var 0 rfl)).cell 6 rfl
  have k0w3c7 := ((H_w3.out.var 0 rfl)).cell 7 rfl
  have k0w3c8 := ((H_w3.out.var 0 rfl)).cell 8 rfl
  have HTT := Lib.hid hT
  clear hT
  clear hB
  go_wp2_with fail
  refine (rtable_ok w3 la lb LA LD LB LE ca da cb db xa ya xb yb lo hi md (HXA.out.below H_w3.out.below) (HYA.out.below H_w3.out.below) (HXB.out.below H_w3.out.below) (HYB.out.below H_w3.out.below) sxa sya sxb syb S cS rs (HRS.out.below H_w3.out.below) HSM.out).mono ?_
  rw [HE.out]
  rintro e_ w4 ⟨T_, cT_, ts_, rfl, HT_, hT_, hB⟩
  have H_w4 := Lib.hid (Mo.call H_w3.out hB)
  have k0w4c0 := ((H_w4.out.var 0 rfl)).cell 0 rfl
  have k0w4c1 := ((H_w4.out.var 0 rfl)).cell 1 rfl
  have k0w4c2 := ((H_w4.out.var 0 rfl)).cell 2 rfl
  have k0w4c3 := ((H_w4.out.var 0 rfl)).cell 3 rfl
  have k0w4c4 := ((H_w4.out.var 0 rfl)).cell 4 rfl
  have k0w4c5 := ((H_w4.out.var 0 rfl)).cell 5 rfl
  have k0w4c6 := ((H_w4.out.var 0 rfl)).cell 6 rfl
  have k0w4c7 := ((H_w4.out.var 0 rfl)).cell 7 rfl
  have k0w4c8 := ((H_w4.out.var 0 rfl)).cell 8 rfl
  have HT4 := Lib.hid (HTT.out.below hB)
  have HT4_ := Lib.hid hT_
  clear hT_
  clear hB
  obtain rfl : ts_ = ts := by rw [HT.out, HT_.out]
  have e3 : (E == E) = true := beq_self_eq_true E
  have e4 : (E != E) = false := bne_self_eq_false E
  have hts : ts_.length ≤ 70 := by
    rw [HT.out]
    unfold tabV
    split
    · rw [scores_len]; exact hrl
    · simp
  clear HT HT_ HTT
  go_wp2_with fail
  go_loopw [11] (fun iv wr => ∃ (k : Nat), iv = .int .i64 (k : Int) ∧ k ≤ ts_.length ∧ Hid (Below w4.heap.size w4 wr)) (fun iv _ => ts_.length - (intOf iv).toNat)
  case atStart => exact ⟨0, rfl, Nat.zero_le _, Below.refl _ _⟩
  case round =>
    clear d1 d1'
    obtain ⟨k, rfl, hk, HB⟩ := hrel
    by_cases hlt : k < ts_.length
    · have d1 : decide ((k : Int) < (ts_.length : Int)) = true := decide_eq_true (by omega)
      obtain ⟨ad, rfl, hc⟩ := (HT4.out.below HB.out).2.2 k hlt
      obtain ⟨ad_, rfl, hc_⟩ := (HT4_.out.below HB.out).2.2 k hlt
      have e5 : (dg ts_ k != dg ts_ k) = false := bne_self_eq_false _
      go_wp2_with fail
      go_quiet (fail)
      go_wp2_with fail
      go_roundw
      case rel => exact ⟨k + 1, by go_num, hlt, by first | exact HB | exact Lib.hid HB.out.drew | exact Lib.hid (below_drewN HB.out _)⟩
      case measure => simp [intOf]; omega
    · have d1 : decide ((k : Int) < (ts_.length : Int)) = false := decide_eq_false (by omega)
      have d1' : decide (k < ts_.length) = false := decide_eq_false hlt
      have H_wr := Lib.hid (Mo.call H_w4.out HB.out)
      have k0wrc0 := ((H_wr.out.var 0 rfl)).cell 0 rfl
      have k0wrc1 := ((H_wr.out.var 0 rfl)).cell 1 rfl
      have k0wrc2 := ((H_wr.out.var 0 rfl)).cell 2 rfl
      have k0wrc3 := ((H_wr.out.var 0 rfl)).cell 3 rfl
      have k0wrc4 := ((H_wr.out.var 0 rfl)).cell 4 rfl
      have k0wrc5 := ((H_wr.out.var 0 rfl)).cell 5 rfl
      have k0wrc6 := ((H_wr.out.var 0 rfl)).cell 6 rfl
      have k0wrc7 := ((H_wr.out.var 0 rfl)).cell 7 rfl
      have k0wrc8 := ((H_wr.out.var 0 rfl)).cell 8 rfl
      go_wp2_with fail
      refine (reach_ok wr la lb LA LD LB LE ca da cb db xa ya xb yb lo hi md (HXA.out.below H_wr.out.below) (HYA.out.below H_wr.out.below) (HXB.out.below H_wr.out.below) (HYB.out.below H_wr.out.below) sxa sya sxb syb S cS rs (HRS.out.below H_wr.out.below) HSM.out least).mono ?_
      rintro e_ w5 ⟨k1, f1, rfl, HR1, hB⟩
      have H_w5 := Lib.hid (Mo.call H_wr.out hB)
      have k0w5c0 := ((H_w5.out.var 0 rfl)).cell 0 rfl
      have k0w5c1 := ((H_w5.out.var 0 rfl)).cell 1 rfl
      have k0w5c2 := ((H_w5.out.var 0 rfl)).cell 2 rfl
      have k0w5c3 := ((H_w5.out.var 0 rfl)).cell 3 rfl
      have k0w5c4 := ((H_w5.out.var 0 rfl)).cell 4 rfl
      have k0w5c5 := ((H_w5.out.var 0 rfl)).cell 5 rfl
      have k0w5c6 := ((H_w5.out.var 0 rfl)).cell 6 rfl
      have k0w5c7 := ((H_w5.out.var 0 rfl)).cell 7 rfl
      have k0w5c8 := ((H_w5.out.var 0 rfl)).cell 8 rfl
      clear hB
      go_wp2_with fail
      refine (rreach_ok w5 la lb LA LD LB LE ca da cb db xa ya xb yb lo hi md (HXA.out.below H_w5.out.below) (HYA.out.below H_w5.out.below) (HXB.out.below H_w5.out.below) (HYB.out.below H_w5.out.below) sxa sya sxb syb S cS rs (HRS.out.below H_w5.out.below) HSM.out least).mono ?_
      rintro e_ w6 ⟨k2, f2, rfl, HR2, hB⟩
      have H_w6 := Lib.hid (Mo.call H_w5.out hB)
      have k0w6c0 := ((H_w6.out.var 0 rfl)).cell 0 rfl
      have k0w6c1 := ((H_w6.out.var 0 rfl)).cell 1 rfl
      have k0w6c2 := ((H_w6.out.var 0 rfl)).cell 2 rfl
      have k0w6c3 := ((H_w6.out.var 0 rfl)).cell 3 rfl
      have k0w6c4 := ((H_w6.out.var 0 rfl)).cell 4 rfl
      have k0w6c5 := ((H_w6.out.var 0 rfl)).cell 5 rfl
      have k0w6c6 := ((H_w6.out.var 0 rfl)).cell 6 rfl
      have k0w6c7 := ((H_w6.out.var 0 rfl)).cell 7 rfl
      have k0w6c8 := ((H_w6.out.var 0 rfl)).cell 8 rfl
      clear hB
      obtain ⟨rfl, rfl⟩ := reachQ_one HR1.out HR2.out
      have e5 : (k2 == k2) = true := beq_self_eq_true k2
      have e6 : (f2 == f2) = true := beq_self_eq_true f2
      go_wp2_with fail
      go_ret
      exact ⟨rfl, H_w6.out.below⟩
theorem tables_row (w : World) (la lb : Bool) (LA LD LB LE : Option Addr) (ca da cb db : Nat) (xa ya xb yb : List Int) (lo hi md : Int) (hxa : RN w LA ca xa) (hya : RN w LD da ya) (hxb : RN w LB cb xb) (hyb : RN w LE db yb) (_ : -9223372036854775808 ≤ lo ∧ lo ≤ 9223372036854775807) (_ : -9223372036854775808 ≤ hi ∧ hi ≤ 9223372036854775807) (_ : -9223372036854775808 ≤ md ∧ md ≤ 9223372036854775807) (S : Option Addr) (cS : Nat) (rs : List Rt) (hrs : Rs w S cS rs) (least : Int) (_ : -9223372036854775808 ≤ least ∧ least ≤ 9223372036854775807) :
    Calls Try.prog 8 #[.agg #[.bool la, .slice LA xa.length ca, .slice LD ya.length da, .bool lb, .slice LB xb.length cb, .slice LE yb.length db, .int .i64 lo, .int .i64 hi, .int .i64 md], .slice S rs.length cS, .int .i64 least] w (RetT w) :=
  tables_ok w la lb LA LD LB LE ca da cb db xa ya xb yb lo hi md hxa hya hxb hyb S cS rs hrs least

end Go.Proofs.Ytgdlnmhpnlmofaa.M
