/- The law ScalingScores: its walk. -/
import Derived.Test.YtgdlnmhpnlmofaaRefScore
namespace Go.Proofs.Ytgdlnmhpnlmofaa.M
set_option maxRecDepth 10000
open Go.RowKit
set_option linter.unusedVariables false
set_option linter.unusedSimpArgs false

set_option maxHeartbeats 3200000 in
theorem scores_ok (w : World) (la lb : Bool) (LA LD LB LE : Option Addr) (ca da cb db : Nat) (xa ya xb yb : List Int) (lo hi md : Int) (hxa : RN w LA ca xa) (hya : RN w LD da ya) (hxb : RN w LB cb xb) (hyb : RN w LE db yb) (xb0 : Bool) (XA XD : Option Addr) (cx dx : Nat) (xn xd : List Int) (hxn : RN w XA cx xn) (hxd : RN w XD dx xd) :
    Calls Try.prog 5 #[.agg #[.bool la, .slice LA xa.length ca, .slice LD ya.length da, .bool lb, .slice LB xb.length cb, .slice LE yb.length db, .int .i64 lo, .int .i64 hi, .int .i64 md], .agg #[.bool xb0, .slice XA xn.length cx, .slice XD xd.length dx]] w (RetT w) := by
  have HXA := Lib.hid hxa
  have HYA := Lib.hid hya
  have HXB := Lib.hid hxb
  have HYB := Lib.hid hyb
  clear hxa hya hxb hyb
  have HXN := Lib.hid hxn
  have HXD := Lib.hid hxd
  clear hxn hxd
  go_enter Try.func5, Try.ntmps5
  obtain ⟨bl, hbl⟩ : ∃ bl, (big xa ya || big xb yb) = bl := ⟨_, rfl⟩
  obtain ⟨bp, hbp⟩ : ∃ bp, big xn xd = bp := ⟨_, rfl⟩
  have HBL := Lib.hid hbl
  have HBP := Lib.hid hbp
  clear hbl hbp
  go_upto_region 1 with fail
  obtain ⟨W, hW⟩ : ∃ W, W = ((w.alloc (.cells #[.bool la, .slice LA xa.length ca, .slice LD ya.length da, .bool lb, .slice LB xb.length cb, .slice LE yb.length db, .int .i64 lo, .int .i64 hi, .int .i64 md] 35)).alloc (.cells #[.bool xb0, .slice XA xn.length cx, .slice XD xd.length dx] 33)) := ⟨_, rfl⟩
  rw [← hW]
  have H_W : Mo w W [(w.heap.size, 35, #[.bool la, .slice LA xa.length ca, .slice LD ya.length da, .bool lb, .slice LB xb.length cb, .slice LE yb.length db, .int .i64 lo, .int .i64 hi, .int .i64 md]), (w.heap.size + 1, 33, #[.bool xb0, .slice XA xn.length cx, .slice XD xd.length dx])] [] := by
    rw [hW]
    have h := (((Mo.start w).alloc (t := 35) (cs := #[.bool la, .slice LA xa.length ca, .slice LD ya.length da, .bool lb, .slice LB xb.length cb, .slice LE yb.length db, .int .i64 lo, .int .i64 hi, .int .i64 md]) (nd_lin _ _ _ _ _ _ _ _ _ _ _ _ _ _ _ _ _)).alloc (t := 33) (cs := #[.bool xb0, .slice XA xn.length cx, .slice XD xd.length dx]) (nd_rat _ _ _ _ _ _ _))
    simp only [size_alloc, List.nil_append, List.cons_append] at h
    exact h
  clear hW
  obtain ⟨gW1, hgW1⟩ : ∃ g, w.heap.size + 1 = g := ⟨_, rfl⟩
  rw [hgW1] at H_W ⊢
  clear hgW1
  have neW01 : w.heap.size ≠ gW1 := H_W.apart 0 1 _ _ _ _ _ _ rfl rfl (by decide)
  have neW10 : gW1 ≠ w.heap.size := H_W.apart 1 0 _ _ _ _ _ _ rfl rfl (by decide)
  have H_W := Lib.hid H_W
  have k0Wc0 := ((H_W.out.var 0 rfl)).cell 0 rfl
  have k0Wc1 := ((H_W.out.var 0 rfl)).cell 1 rfl
  have k0Wc2 := ((H_W.out.var 0 rfl)).cell 2 rfl
  have k0Wc3 := ((H_W.out.var 0 rfl)).cell 3 rfl
  have k0Wc4 := ((H_W.out.var 0 rfl)).cell 4 rfl
  have k0Wc5 := ((H_W.out.var 0 rfl)).cell 5 rfl
  have k0Wc6 := ((H_W.out.var 0 rfl)).cell 6 rfl
  have k0Wc7 := ((H_W.out.var 0 rfl)).cell 7 rfl
  have k0Wc8 := ((H_W.out.var 0 rfl)).cell 8 rfl
  have k1Wc0 := ((H_W.out.var 1 rfl)).cell 0 rfl
  have k1Wc1 := ((H_W.out.var 1 rfl)).cell 1 rfl
  have k1Wc2 := ((H_W.out.var 1 rfl)).cell 2 rfl
  go_wp2_with fail
  refine (wide_ok W la lb LA LD LB LE ca da cb db xa ya xb yb lo hi md).mono ?_
  rw [HBL.out]
  rintro e_ w1 ⟨rfl, hB⟩
  have H_w1 := Lib.hid (Mo.call H_W.out hB)
  have k0w1c0 := ((H_w1.out.var 0 rfl)).cell 0 rfl
  have k0w1c1 := ((H_w1.out.var 0 rfl)).cell 1 rfl
  have k0w1c2 := ((H_w1.out.var 0 rfl)).cell 2 rfl
  have k0w1c3 := ((H_w1.out.var 0 rfl)).cell 3 rfl
  have k0w1c4 := ((H_w1.out.var 0 rfl)).cell 4 rfl
  have k0w1c5 := ((H_w1.out.var 0 rfl)).cell 5 rfl
  have k0w1c6 := ((H_w1.out.var 0 rfl)).cell 6 rfl
  have k0w1c7 := ((H_w1.out.var 0 rfl)).cell 7 rfl
  have k0w1c8 := ((H_w1.out.var 0 rfl)).cell 8 rfl
  have k1w1c0 := ((H_w1.out.var 1 rfl)).cell 0 rfl
  have k1w1c1 := ((H_w1.out.var 1 rfl)).cell 1 rfl
  have k1w1c2 := ((H_w1.out.var 1 rfl)).cell 2 rfl
  clear hB
  cases bl
  rotate_left
  · go_wp2_with fail
    go_ret
    exact ⟨rfl, H_w1.out.below⟩
  go_wp2_with fail
  refine (large_ok w1 xb0 XA XD cx dx xn xd).mono ?_
  rw [HBP.out]
  rintro e_ w2 ⟨rfl, hB⟩
  have H_w2 := Lib.hid (Mo.call H_w1.out hB)
  have k0w2c0 := ((H_w2.out.var 0 rfl)).cell 0 rfl
  have k0w2c1 := ((H_w2.out.var 0 rfl)).cell 1 rfl
  have k0w2c2 := ((H_w2.out.var 0 rfl)).cell 2 rfl
  have k0w2c3 := ((H_w2.out.var 0 rfl)).cell 3 rfl
  have k0w2c4 := ((H_w2.out.var 0 rfl)).cell 4 rfl
  have k0w2c5 := ((H_w2.out.var 0 rfl)).cell 5 rfl
  have k0w2c6 := ((H_w2.out.var 0 rfl)).cell 6 rfl
  have k0w2c7 := ((H_w2.out.var 0 rfl)).cell 7 rfl
  have k0w2c8 := ((H_w2.out.var 0 rfl)).cell 8 rfl
  have k1w2c0 := ((H_w2.out.var 1 rfl)).cell 0 rfl
  have k1w2c1 := ((H_w2.out.var 1 rfl)).cell 1 rfl
  have k1w2c2 := ((H_w2.out.var 1 rfl)).cell 2 rfl
  clear hB
  cases bp
  rotate_left
  · go_wp2_with fail
    go_ret
    exact ⟨rfl, H_w2.out.below⟩
  have sall : (xa.length ≤ 20 ∧ ya.length ≤ 20) ∧ (xb.length ≤ 20 ∧ yb.length ≤ 20) ∧ xn.length ≤ 20 ∧ xd.length ≤ 20 := by
    have h1 := HBL.out
    have h2 := HBP.out
    unfold big at h1 h2
    simp only [Bool.or_eq_false_iff, decide_eq_false_iff_not] at h1 h2
    omega
  obtain ⟨⟨sxa, sya⟩, ⟨sxb, syb⟩, sxn, sxd⟩ := sall
  clear HBL HBP
  obtain ⟨E, hE⟩ : ∃ E, linE (qv la xa ya) lo hi md = E := ⟨_, rfl⟩
  obtain ⟨a, ha⟩ : ∃ a, scoreV (qv la xa ya) (qv lb xb yb) lo hi md (qv xb0 xn xd) = a := ⟨_, rfl⟩
  have HE := Lib.hid hE
  have HA := Lib.hid ha
  clear hE ha
  go_wp2_with fail
  refine (sScore_ok w2 la lb LA LD LB LE ca da cb db xa ya xb yb lo hi md (HXA.out.below H_w2.out.below) (HYA.out.below H_w2.out.below) (HXB.out.below H_w2.out.below) (HYB.out.below H_w2.out.below) sxa sya sxb syb xb0 XA XD cx dx xn xd (HXN.out.below H_w2.out.below) (HXD.out.below H_w2.out.below) sxn sxd).mono ?_
  rw [HA.out, HE.out]
  rintro e_ w3 ⟨rfl, hB⟩
  have H_w3 := Lib.hid (Mo.call H_w2.out hB)
  have k0w3c0 := ((H_w3.out.var 0 rfl)).cell 0 rfl
  have k0w3c1 := ((H_w3.out.var 0 rfl)).cell 1 rfl
  have k0w3c2 := ((H_w3.out.var 0 rfl)).cell 2 rfl
  have k0w3c3 := ((H_w3.out.var 0 rfl)).cell 3 rfl
  have k0w3c4 := ((H_w3.out.var 0 rfl)).cell 4 rfl
  have k0w3c5 := ((H_w3.out.var 0 rfl)).cell 5 rfl
  have k0w3c6 := ((H_w3.out.var 0 rfl)).cell 6 rfl
  have k0w3c7 := ((H_w3.out.var 0 rfl)).cell 7 rfl
  have k0w3c8 := ((H_w3.out.var 0 rfl)).cell 8 rfl
  have k1w3c0 := ((H_w3.out.var 1 rfl)).cell 0 rfl
  have k1w3c1 := ((H_w3.out.var 1 rfl)).cell 1 rfl
  have k1w3c2 := ((H_w3.out.var 1 rfl)).cell 2 rfl
  clear hB
  go_wp2_with fail
  refine (rsScore_ok w3 la lb LA LD LB LE ca da cb db xa ya xb yb lo hi md (HXA.out.below H_w3.out.below) (HYA.out.below H_w3.out.below) (HXB.out.below H_w3.out.below) (HYB.out.below H_w3.out.below) sxa sya sxb syb xb0 XA XD cx dx xn xd (HXN.out.below H_w3.out.below) (HXD.out.below H_w3.out.below) sxn sxd).mono ?_
  rw [HA.out, HE.out]
  rintro e_ w4 ⟨rfl, hB⟩
  have H_w4 := Lib.hid (Mo.call H_w3.out hB)
  have k0w4c0 := ((H_w4.out.var 0 rfl)).cell 0 rfl
  have k0w4c1 := ((H_w4.out.var 0 rfl)).cell 1 rfl
  have k0w4c2 := ((H_w4.out.var 0 rfl)).cell 2 rfl
  have k0w4c3 := ((H_w4.out.var 0 rfl)).cell 3 rfl
  have k0w4c4 := ((H_w4.out.var 0 rfl)).cell 4 rfl
  have k0w4c5 := ((H_w4.out.var 0 rfl)).cell 5 rfl
  have k0w4c6 := ((H_w4.out.var 0 rfl)).cell 6 rfl
  have k0w4c7 := ((H_w4.out.var 0 rfl)).cell 7 rfl
  have k0w4c8 := ((H_w4.out.var 0 rfl)).cell 8 rfl
  have k1w4c0 := ((H_w4.out.var 1 rfl)).cell 0 rfl
  have k1w4c1 := ((H_w4.out.var 1 rfl)).cell 1 rfl
  have k1w4c2 := ((H_w4.out.var 1 rfl)).cell 2 rfl
  clear hB
  go_upto_region 5 with fail
  have H_w4d := Lib.hid H_w4.out.drew
  first
  | go_region_held3 (fun w' => w'.cell? ⟨w.heap.size, 0, none⟩ = some (.bool la) ∧ w'.cell? ⟨w.heap.size, 1, none⟩ = some (.slice LA xa.length ca) ∧ w'.cell? ⟨w.heap.size, 2, none⟩ = some (.slice LD ya.length da) ∧ w'.cell? ⟨w.heap.size, 3, none⟩ = some (.bool lb) ∧ w'.cell? ⟨w.heap.size, 4, none⟩ = some (.slice LB xb.length cb) ∧ w'.cell? ⟨w.heap.size, 5, none⟩ = some (.slice LE yb.length db) ∧ w'.cell? ⟨w.heap.size, 6, none⟩ = some (.int .i64 lo) ∧ w'.cell? ⟨w.heap.size, 7, none⟩ = some (.int .i64 hi) ∧ w'.cell? ⟨w.heap.size, 8, none⟩ = some (.int .i64 md)) (go_keep)
     (first
      | (go_at_call 16
         refine (svalid_ok w4.drew la lb LA LD LB LE ca da cb db xa ya xb yb lo hi md (HXA.out.below H_w4d.out.below) (HYA.out.below H_w4d.out.below) (HXB.out.below H_w4d.out.below) (HYB.out.below H_w4d.out.below) sxa sya sxb syb).mono ?_
         rw [HE.out]
         rintro e_ w5 ⟨rfl, hB⟩
         have H_w5 := Lib.hid (Mo.call H_w4d.out hB)
         have k0w5c0 := ((H_w5.out.var 0 rfl)).cell 0 rfl
         have k0w5c1 := ((H_w5.out.var 0 rfl)).cell 1 rfl
         have k0w5c2 := ((H_w5.out.var 0 rfl)).cell 2 rfl
         have k0w5c3 := ((H_w5.out.var 0 rfl)).cell 3 rfl
         have k0w5c4 := ((H_w5.out.var 0 rfl)).cell 4 rfl
         have k0w5c5 := ((H_w5.out.var 0 rfl)).cell 5 rfl
         have k0w5c6 := ((H_w5.out.var 0 rfl)).cell 6 rfl
         have k0w5c7 := ((H_w5.out.var 0 rfl)).cell 7 rfl
         have k0w5c8 := ((H_w5.out.var 0 rfl)).cell 8 rfl
         clear hB)
      | (go_at_call 17
         refine (rsvalid_ok w5 la lb LA LD LB LE ca da cb db xa ya xb yb lo hi md (HXA.out.below H_w5.out.below) (HYA.out.below H_w5.out.below) (HXB.out.below H_w5.out.below) (HYB.out.below H_w5.out.below) sxa sya sxb syb).mono ?_
         rw [HE.out]
         rintro e_ w6 ⟨rfl, hB⟩
         have H_w6 := Lib.hid (Mo.call H_w5.out hB)
         have k0w6c0 := ((H_w6.out.var 0 rfl)).cell 0 rfl
         have k0w6c1 := ((H_w6.out.var 0 rfl)).cell 1 rfl
         have k0w6c2 := ((H_w6.out.var 0 rfl)).cell 2 rfl
         have k0w6c3 := ((H_w6.out.var 0 rfl)).cell 3 rfl
         have k0w6c4 := ((H_w6.out.var 0 rfl)).cell 4 rfl
         have k0w6c5 := ((H_w6.out.var 0 rfl)).cell 5 rfl
         have k0w6c6 := ((H_w6.out.var 0 rfl)).cell 6 rfl
         have k0w6c7 := ((H_w6.out.var 0 rfl)).cell 7 rfl
         have k0w6c8 := ((H_w6.out.var 0 rfl)).cell 8 rfl
         clear hB))
  | fail
  go_wp2_with fail
  go_ret
  exact ⟨rfl, H_w6.out.below⟩
theorem scores_row (w : World) (la lb : Bool) (LA LD LB LE : Option Addr) (ca da cb db : Nat) (xa ya xb yb : List Int) (lo hi md : Int) (hxa : RN w LA ca xa) (hya : RN w LD da ya) (hxb : RN w LB cb xb) (hyb : RN w LE db yb) (_ : -9223372036854775808 ≤ lo ∧ lo ≤ 9223372036854775807) (_ : -9223372036854775808 ≤ hi ∧ hi ≤ 9223372036854775807) (_ : -9223372036854775808 ≤ md ∧ md ≤ 9223372036854775807)
    (pb : Bool) (PA PD : Option Addr) (pc pe : Nat) (pn pd : List Int) (hpn : RN w PA pc pn) (hpd : RN w PD pe pd) :
    Calls Try.prog 5 #[.agg #[.bool la, .slice LA xa.length ca, .slice LD ya.length da, .bool lb, .slice LB xb.length cb, .slice LE yb.length db, .int .i64 lo, .int .i64 hi, .int .i64 md], .agg #[.bool pb, .slice PA pn.length pc, .slice PD pd.length pe]] w (RetT w) :=
  scores_ok w la lb LA LD LB LE ca da cb db xa ya xb yb lo hi md hxa hya hxb hyb pb PA PD pc pe pn pd hpn hpd

end Go.Proofs.Ytgdlnmhpnlmofaa.M
