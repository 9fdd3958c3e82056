/- Scores by the reference. -/
import Derived.Test.YtgdlnmhpnlmofaaRefDec
import Derived.Test.YtgdlnmhpnlmofaaLawMono
namespace Go.Proofs.Ytgdlnmhpnlmofaa.M
set_option maxRecDepth 10000
open Go.RowKit
set_option linter.unusedVariables false
set_option linter.unusedSimpArgs false

set_option maxHeartbeats 1600000 in
theorem rsvalid_ok (w : World) (la lb : Bool) (LA LD LB LE : Option Addr) (ca da cb db : Nat) (xa ya xb yb : List Int) (lo hi md : Int) (hxa : RN w LA ca xa) (hya : RN w LD da ya) (hxb : RN w LB cb xb) (hyb : RN w LE db yb) (sxa : xa.length ≤ 20) (sya : ya.length ≤ 20) (sxb : xb.length ≤ 20) (syb : yb.length ≤ 20) :
    Calls Try.prog 17 #[.agg #[.bool la, .slice LA xa.length ca, .slice LD ya.length da, .bool lb, .slice LB xb.length cb, .slice LE yb.length db, .int .i64 lo, .int .i64 hi, .int .i64 md]] w (fun e w' => e = .returned (.int .i64 (linE (qv la xa ya) lo hi md)) ∧ Below w.heap.size w w') := by
  have HXA := Lib.hid hxa
  have HYA := Lib.hid hya
  have HXB := Lib.hid hxb
  have HYB := Lib.hid hyb
  clear hxa hya hxb hyb
  go_enter Try.func17, Try.ntmps17
  obtain ⟨s, hs⟩ : ∃ s, cmpQ (qv la xa ya) 0 = s := ⟨_, rfl⟩
  have HS := Lib.hid hs
  have hE : linE (qv la xa ya) lo hi md = if s ≤ 0 ∨ lo < -1000000 ∨ 1000000 < lo ∨ hi < -1000000 ∨ 1000000 < hi then 3 else if hi < lo then 23 else if md < 1 ∨ 7 < md then 1 else 0 := by unfold linE; rw [hs]
  have HLE := Lib.hid hE
  clear hs hE
  go_upto_region 1 with fail
  obtain ⟨W, hW⟩ : ∃ W, W = (w.alloc (.cells #[.bool la, .slice LA xa.length ca, .slice LD ya.length da, .bool lb, .slice LB xb.length cb, .slice LE yb.length db, .int .i64 lo, .int .i64 hi, .int .i64 md] 35)) := ⟨_, rfl⟩
  rw [← hW]
  have H_W : Mo w W [(w.heap.size, 35, #[.bool la, .slice LA xa.length ca, .slice LD ya.length da, .bool lb, .slice LB xb.length cb, .slice LE yb.length db, .int .i64 lo, .int .i64 hi, .int .i64 md])] [] := by
    rw [hW]
    have h := ((Mo.start w).alloc (t := 35) (cs := #[.bool la, .slice LA xa.length ca, .slice LD ya.length da, .bool lb, .slice LB xb.length cb, .slice LE yb.length db, .int .i64 lo, .int .i64 hi, .int .i64 md]) (nd_lin _ _ _ _ _ _ _ _ _ _ _ _ _ _ _ _ _))
    simp only [size_alloc, List.nil_append, List.cons_append] at h
    exact h
  clear hW
  have H_W := Lib.hid H_W
  have k0Wc0 := ((H_W.out.var 0 rfl)).cell 0 rfl
  have k0Wc1 := ((H_W.out.var 0 rfl)).cell 1 rfl
  have k0Wc2 := ((H_W.out.var 0 rfl)).cell 2 rfl
  have k0Wc3 := ((H_W.out.var 0 rfl)).cell 3 rfl
  have k0Wc4 := ((H_W.out.var 0 rfl)).cell 4 rfl
  have k0Wc5 := ((H_W.out.var 0 rfl)).cell 5 rfl
  have k0Wc6 := ((H_W.out.var 0 rfl)).cell 6 rfl
  have k0Wc7 := ((H_W.out.var 0 rfl)).cell 7 rfl
  have k0Wc8 := ((H_W.out.var 0 rfl)).cell 8 rfl
  go_wp2_with fail
  refine (rqsign_ok W la LA LD ca da xa ya (HXA.out.below H_W.out.below) (HYA.out.below H_W.out.below) (by omega) (by omega)).mono ?_
  rw [HS.out]
  rintro e_ W1 ⟨rfl, hB⟩
  have H_W1 := Lib.hid (Mo.call H_W.out hB)
  have k0W1c0 := ((H_W1.out.var 0 rfl)).cell 0 rfl
  have k0W1c1 := ((H_W1.out.var 0 rfl)).cell 1 rfl
  have k0W1c2 := ((H_W1.out.var 0 rfl)).cell 2 rfl
  have k0W1c3 := ((H_W1.out.var 0 rfl)).cell 3 rfl
  have k0W1c4 := ((H_W1.out.var 0 rfl)).cell 4 rfl
  have k0W1c5 := ((H_W1.out.var 0 rfl)).cell 5 rfl
  have k0W1c6 := ((H_W1.out.var 0 rfl)).cell 6 rfl
  have k0W1c7 := ((H_W1.out.var 0 rfl)).cell 7 rfl
  have k0W1c8 := ((H_W1.out.var 0 rfl)).cell 8 rfl
  clear hB
  by_cases h0 : s ≤ 0
  · have e0 : decide (s ≤ 0) = true := decide_eq_true h0
    have HE : Hid (linE (qv la xa ya) lo hi md = 3) := by show _ = _; rw [HLE.out, if_pos (by omega)]
    go_wp2_with fail
    go_ret
    exact ⟨by rw [HE.out]; rfl, H_W1.out.below⟩
  have e0 : decide (s ≤ 0) = false := decide_eq_false h0
  by_cases h1 : lo < -1000000
  · have e1 : decide (lo < -1000000) = true := decide_eq_true h1
    have HE : Hid (linE (qv la xa ya) lo hi md = 3) := by show _ = _; rw [HLE.out, if_pos (by omega)]
    go_wp2_with fail
    go_ret
    exact ⟨by rw [HE.out]; rfl, H_W1.out.below⟩
  have e1 : decide (lo < -1000000) = false := decide_eq_false h1
  by_cases h2 : 1000000 < lo
  · have e2 : decide (1000000 < lo) = true := decide_eq_true h2
    have HE : Hid (linE (qv la xa ya) lo hi md = 3) := by show _ = _; rw [HLE.out, if_pos (by omega)]
    go_wp2_with fail
    go_ret
    exact ⟨by rw [HE.out]; rfl, H_W1.out.below⟩
  have e2 : decide (1000000 < lo) = false := decide_eq_false h2
  by_cases h3 : hi < -1000000
  · have e3 : decide (hi < -1000000) = true := decide_eq_true h3
    have HE : Hid (linE (qv la xa ya) lo hi md = 3) := by show _ = _; rw [HLE.out, if_pos (by omega)]
    go_wp2_with fail
    go_ret
    exact ⟨by rw [HE.out]; rfl, H_W1.out.below⟩
  have e3 : decide (hi < -1000000) = false := decide_eq_false h3
  by_cases h4 : 1000000 < hi
  · have e4 : decide (1000000 < hi) = true := decide_eq_true h4
    have HE : Hid (linE (qv la xa ya) lo hi md = 3) := by show _ = _; rw [HLE.out, if_pos (by omega)]
    go_wp2_with fail
    go_ret
    exact ⟨by rw [HE.out]; rfl, H_W1.out.below⟩
  have e4 : decide (1000000 < hi) = false := decide_eq_false h4
  by_cases h5 : hi < lo
  · have e5 : decide (hi < lo) = true := decide_eq_true h5
    have HE : Hid (linE (qv la xa ya) lo hi md = 23) := by show _ = _; rw [HLE.out, if_neg (by omega), if_pos (by omega)]
    go_wp2_with fail
    go_ret
    exact ⟨by rw [HE.out]; rfl, H_W1.out.below⟩
  have e5 : decide (hi < lo) = false := decide_eq_false h5
  by_cases h6 : md < 1
  · have e6 : decide (md < 1) = true := decide_eq_true h6
    have HE : Hid (linE (qv la xa ya) lo hi md = 1) := by show _ = _; rw [HLE.out, if_neg (by omega), if_neg (by omega), if_pos (by omega)]
    go_wp2_with fail
    go_ret
    exact ⟨by rw [HE.out]; rfl, H_W1.out.below⟩
  have e6 : decide (md < 1) = false := decide_eq_false h6
  by_cases h7 : 7 < md
  · have e7 : decide (7 < md) = true := decide_eq_true h7
    have HE : Hid (linE (qv la xa ya) lo hi md = 1) := by show _ = _; rw [HLE.out, if_neg (by omega), if_neg (by omega), if_pos (by omega)]
    go_wp2_with fail
    go_ret
    exact ⟨by rw [HE.out]; rfl, H_W1.out.below⟩
  have e7 : decide (7 < md) = false := decide_eq_false h7
  have HE : Hid (linE (qv la xa ya) lo hi md = 0) := by show _ = _; rw [HLE.out, if_neg (by omega), if_neg (by omega), if_neg (by omega)]
  go_wp2_with fail
  go_ret
  exact ⟨by rw [HE.out]; rfl, H_W1.out.below⟩

set_option maxHeartbeats 6400000 in
theorem rsScore_ok (w : World) (la lb : Bool) (LA LD LB LE : Option Addr) (ca da cb db : Nat) (xa ya xb yb : List Int) (lo hi md : Int) (hxa : RN w LA ca xa) (hya : RN w LD da ya) (hxb : RN w LB cb xb) (hyb : RN w LE db yb) (sxa : xa.length ≤ 20) (sya : ya.length ≤ 20) (sxb : xb.length ≤ 20) (syb : yb.length ≤ 20) (xb0 : Bool) (XA XD : Option Addr) (cx dx : Nat) (xn xd : List Int) (hxn : RN w XA cx xn) (hxd : RN w XD dx xd) (sxn : xn.length ≤ 20) (sxd : xd.length ≤ 20) :
    Calls Try.prog 15 #[.agg #[.bool la, .slice LA xa.length ca, .slice LD ya.length da, .bool lb, .slice LB xb.length cb, .slice LE yb.length db, .int .i64 lo, .int .i64 hi, .int .i64 md], .agg #[.bool xb0, .slice XA xn.length cx, .slice XD xd.length dx]] w (fun e w' => e = .returned (.tuple #[.int .i64 (scoreV (qv la xa ya) (qv lb xb yb) lo hi md (qv xb0 xn xd)), .int .i64 (linE (qv la xa ya) lo hi md)]) ∧ Below w.heap.size w w') := by
  have HXA := Lib.hid hxa
  have HYA := Lib.hid hya
  have HXB := Lib.hid hxb
  have HYB := Lib.hid hyb
  clear hxa hya hxb hyb
  have HXN := Lib.hid hxn
  have HXD := Lib.hid hxd
  clear hxn hxd
  go_enter Try.func15, Try.ntmps15
  obtain ⟨E, hE⟩ : ∃ E, linE (qv la xa ya) lo hi md = E := ⟨_, rfl⟩
  have HE := Lib.hid hE
  obtain ⟨C, hC⟩ : ∃ C, scoreV (qv la xa ya) (qv lb xb yb) lo hi md (qv xb0 xn xd) = C := ⟨_, rfl⟩
  have HC := Lib.hid hC
  rw [hE, hC]
  clear hE hC
  go_upto_region 1 with fail
  obtain ⟨W, hW⟩ : ∃ W, W = ((w.alloc (.cells #[.bool la, .slice LA xa.length ca, .slice LD ya.length da, .bool lb, .slice LB xb.length cb, .slice LE yb.length db, .int .i64 lo, .int .i64 hi, .int .i64 md] 35)).alloc (.cells #[.bool xb0, .slice XA xn.length cx, .slice XD xd.length dx] 33)) := ⟨_, rfl⟩
  rw [← hW]
  have H_W : Mo w W [(w.heap.size, 35, #[.bool la, .slice LA xa.length ca, .slice LD ya.length da, .bool lb, .slice LB xb.length cb, .slice LE yb.length db, .int .i64 lo, .int .i64 hi, .int .i64 md]), (w.heap.size + 1, 33, #[.bool xb0, .slice XA xn.length cx, .slice XD xd.length dx])] [] := by
    rw [hW]
    have h := (((Mo.start w).alloc (t := 35) (cs := #[.bool la, .slice LA xa.length ca, .slice LD ya.length da, .bool lb, .slice LB xb.length cb, .slice LE yb.length db, .int .i64 lo, .int .i64 hi, .int .i64 md]) (nd_lin _ _ _ _ _ _ _ _ _ _ _ _ _ _ _ _ _)).alloc (t := 33) (cs := #[.bool xb0, .slice XA xn.length cx, .slice XD xd.length dx]) (nd_rat _ _ _ _ _ _ _))
    simp only [size_alloc, List.nil_append, List.cons_append] at h
    exact h
  clear hW
  obtain ⟨gW1, hgW1⟩ : ∃ g, w.heap.size + 1 = g := ⟨_, rfl⟩
  rw [hgW1] at H_W ⊢
  clear hgW1
  have neW01 : w.heap.size ≠ gW1 := H_W.apart 0 1 _ _ _ _ _ _ rfl rfl (by decide)
  have neW10 : gW1 ≠ w.heap.size := H_W.apart 1 0 _ _ _ _ _ _ rfl rfl (by decide)
  have H_W := Lib.hid H_W
  have k0Wc0 := ((H_W.out.var 0 rfl)).cell 0 rfl
  have k0Wc1 := ((H_W.out.var 0 rfl)).cell 1 rfl
  have k0Wc2 := ((H_W.out.var 0 rfl)).cell 2 rfl
  have k0Wc3 := ((H_W.out.var 0 rfl)).cell 3 rfl
  have k0Wc4 := ((H_W.out.var 0 rfl)).cell 4 rfl
  have k0Wc5 := ((H_W.out.var 0 rfl)).cell 5 rfl
  have k0Wc6 := ((H_W.out.var 0 rfl)).cell 6 rfl
  have k0Wc7 := ((H_W.out.var 0 rfl)).cell 7 rfl
  have k0Wc8 := ((H_W.out.var 0 rfl)).cell 8 rfl
  have k1Wc0 := ((H_W.out.var 1 rfl)).cell 0 rfl
  have k1Wc1 := ((H_W.out.var 1 rfl)).cell 1 rfl
  have k1Wc2 := ((H_W.out.var 1 rfl)).cell 2 rfl
  go_wp2_with fail
  refine (rsvalid_ok W la lb LA LD LB LE ca da cb db xa ya xb yb lo hi md (HXA.out.below H_W.out.below) (HYA.out.below H_W.out.below) (HXB.out.below H_W.out.below) (HYB.out.below H_W.out.below) sxa sya sxb syb).mono ?_
  rw [HE.out]
  rintro e_ w1 ⟨rfl, hB⟩
  have H_w1 := Lib.hid (Mo.call H_W.out hB)
  have k0w1c0 := ((H_w1.out.var 0 rfl)).cell 0 rfl
  have k0w1c1 := ((H_w1.out.var 0 rfl)).cell 1 rfl
  have k0w1c2 := ((H_w1.out.var 0 rfl)).cell 2 rfl
  have k0w1c3 := ((H_w1.out.var 0 rfl)).cell 3 rfl
  have k0w1c4 := ((H_w1.out.var 0 rfl)).cell 4 rfl
  have k0w1c5 := ((H_w1.out.var 0 rfl)).cell 5 rfl
  have k0w1c6 := ((H_w1.out.var 0 rfl)).cell 6 rfl
  have k0w1c7 := ((H_w1.out.var 0 rfl)).cell 7 rfl
  have k0w1c8 := ((H_w1.out.var 0 rfl)).cell 8 rfl
  have k1w1c0 := ((H_w1.out.var 1 rfl)).cell 0 rfl
  have k1w1c1 := ((H_w1.out.var 1 rfl)).cell 1 rfl
  have k1w1c2 := ((H_w1.out.var 1 rfl)).cell 2 rfl
  clear hB
  by_cases h0 : E = 0
  rotate_left
  · have e1 : (E == 0) = false := beq_eq_false_iff_ne.2 h0
    have e2 : (E != 0) = true := by simpa using h0
    obtain rfl : C = 0 := by rw [← HC.out]; unfold scoreV; rw [if_neg (by rw [HE.out]; exact h0)]
    clear h0
    go_wp2_with fail
    go_ret2
    exact ⟨rfl, H_w1.out.below⟩
  subst h0
  obtain ⟨k1, hlo, hhi, hlh, hmd⟩ := linE_ok HE.out
  clear k1
  obtain ⟨K, hK⟩ : ∃ K, rnd (qv la xa ya * qv xb0 xn xd + qv lb xb yb) md = K := ⟨_, rfl⟩
  have hsc : clampI K lo hi = C := by rw [← HC.out]; unfold scoreV scoreQ; rw [if_pos HE.out, hK]
  have HK := Lib.hid hK
  have HSC := Lib.hid hsc
  clear hK hsc HC
  go_upto_region 4 with fail
  go_cut [7] (fun s7 wc => ∃ (g : Nat) (b5 : Bool) (A5 : Option Addr) (c5 : Nat) (z5 : List Int), s7 = .pointer (some ⟨g, 0, none⟩) ∧ Hid (b5 = decide (K < 0)) ∧ Hid (z5 = limbs K.natAbs) ∧ Hid (Mo w wc [(w.heap.size, 35, #[.bool la, .slice LA xa.length ca, .slice LD ya.length da, .bool lb, .slice LB xb.length cb, .slice LE yb.length db, .int .i64 lo, .int .i64 hi, .int .i64 md]), (gW1, 33, #[.bool xb0, .slice XA xn.length cx, .slice XD xd.length dx]), (g, 31, #[.bool b5, .slice A5 z5.length c5])] [(A5, c5, z5)]))
  case first =>
    have k0w1c0 := ((H_w1.out.var 0 rfl)).cell 0 rfl
    have k0w1c1 := ((H_w1.out.var 0 rfl)).cell 1 rfl
    have k0w1c2 := ((H_w1.out.var 0 rfl)).cell 2 rfl
    have k0w1c3 := ((H_w1.out.var 0 rfl)).cell 3 rfl
    have k0w1c4 := ((H_w1.out.var 0 rfl)).cell 4 rfl
    have k0w1c5 := ((H_w1.out.var 0 rfl)).cell 5 rfl
    have k0w1c6 := ((H_w1.out.var 0 rfl)).cell 6 rfl
    have k0w1c7 := ((H_w1.out.var 0 rfl)).cell 7 rfl
    have k0w1c8 := ((H_w1.out.var 0 rfl)).cell 8 rfl
    have k1w1c0 := ((H_w1.out.var 1 rfl)).cell 0 rfl
    have k1w1c1 := ((H_w1.out.var 1 rfl)).cell 1 rfl
    have k1w1c2 := ((H_w1.out.var 1 rfl)).cell 2 rfl
    have new101 : w.heap.size ≠ gW1 := H_w1.out.apart 0 1 _ _ _ _ _ _ rfl rfl (by decide)
    have new110 : gW1 ≠ w.heap.size := H_w1.out.apart 1 0 _ _ _ _ _ _ rfl rfl (by decide)
    have H_w1d := Lib.hid H_w1.out.drew
    first
    | go_region_held3 (fun w' => w'.cell? ⟨w.heap.size, 0, none⟩ = some (.bool la) ∧ w'.cell? ⟨w.heap.size, 1, none⟩ = some (.slice LA xa.length ca) ∧ w'.cell? ⟨w.heap.size, 2, none⟩ = some (.slice LD ya.length da) ∧ w'.cell? ⟨w.heap.size, 3, none⟩ = some (.bool lb) ∧ w'.cell? ⟨w.heap.size, 4, none⟩ = some (.slice LB xb.length cb) ∧ w'.cell? ⟨w.heap.size, 5, none⟩ = some (.slice LE yb.length db) ∧ w'.cell? ⟨w.heap.size, 6, none⟩ = some (.int .i64 lo) ∧ w'.cell? ⟨w.heap.size, 7, none⟩ = some (.int .i64 hi) ∧ w'.cell? ⟨w.heap.size, 8, none⟩ = some (.int .i64 md) ∧ w'.cell? ⟨gW1, 0, none⟩ = some (.bool xb0) ∧ w'.cell? ⟨gW1, 1, none⟩ = some (.slice XA xn.length cx) ∧ w'.cell? ⟨gW1, 2, none⟩ = some (.slice XD xd.length dx)) (go_keep)
       (first
        | (go_at_call 30
           refine (rqmul_ok _ la xb0 LA LD XA XD ca da cx dx xa ya xn xd (by first | exact HXA.out.below (H_w1d.out).below | exact HXA.out.below (((H_w1d.out).alloc' (w1.heap.size) rfl (nd_int false none 0 0))).below) (by first | exact HYA.out.below (H_w1d.out).below | exact HYA.out.below (((H_w1d.out).alloc' (w1.heap.size) rfl (nd_int false none 0 0))).below) (by first | exact HXN.out.below (H_w1d.out).below | exact HXN.out.below (((H_w1d.out).alloc' (w1.heap.size) rfl (nd_int false none 0 0))).below) (by first | exact HXD.out.below (H_w1d.out).below | exact HXD.out.below (((H_w1d.out).alloc' (w1.heap.size) rfl (nd_int false none 0 0))).below) (by omega) (by omega) (by omega) (by omega) (by omega) (by omega)).mono ?_
           rintro e_ a1 ⟨b1, A1, c1, x1, B1, d1, y1, rfl, HQ1, HQ2, HQ3, hx1, hy1, hB⟩
           have H_a1 := Lib.hid (Mo.num (Mo.num (Mo.call (by first | exact H_w1d.out | exact ((H_w1d.out).alloc' (w1.heap.size) rfl (nd_int false none 0 0))) hB) hx1) hy1)
           have k0a1c0 := ((H_a1.out.var 0 rfl)).cell 0 rfl
           have k0a1c1 := ((H_a1.out.var 0 rfl)).cell 1 rfl
           have k0a1c2 := ((H_a1.out.var 0 rfl)).cell 2 rfl
           have k0a1c3 := ((H_a1.out.var 0 rfl)).cell 3 rfl
           have k0a1c4 := ((H_a1.out.var 0 rfl)).cell 4 rfl
           have k0a1c5 := ((H_a1.out.var 0 rfl)).cell 5 rfl
           have k0a1c6 := ((H_a1.out.var 0 rfl)).cell 6 rfl
           have k0a1c7 := ((H_a1.out.var 0 rfl)).cell 7 rfl
           have k0a1c8 := ((H_a1.out.var 0 rfl)).cell 8 rfl
           have k1a1c0 := ((H_a1.out.var 1 rfl)).cell 0 rfl
           have k1a1c1 := ((H_a1.out.var 1 rfl)).cell 1 rfl
           have k1a1c2 := ((H_a1.out.var 1 rfl)).cell 2 rfl
           try have x0c0a1 := (H_a1.out.var 2 rfl).cell 0 rfl
           try have x0f0a1 := (H_a1.out.var 2 rfl).thaw 0
           try have x0c1a1 := (H_a1.out.var 2 rfl).cell 1 rfl
           try have x0f1a1 := (H_a1.out.var 2 rfl).thaw 1
           try have x0n0a1 := H_a1.out.apart 2 0 _ _ _ _ _ _ rfl rfl (by decide)
           try have x0n1a1 := H_a1.out.apart 2 1 _ _ _ _ _ _ rfl rfl (by decide)
           have HP1 : Hid (qv b1 x1 y1 = qv la xa ya * qv xb0 xn xd) := qv_is HQ1.out HQ2.out HQ3.out
           have hl1 := qlen_mul (b := la) (q := xb0) HXA.out.2 HYA.out.2 HXN.out.2 HXD.out.2
           have HLN : Hid (x1.length ≤ 40) := by show _ ≤ _; rw [HQ2.out]; omega
           have HLD : Hid (y1.length ≤ 42) := by show _ ≤ _; rw [HQ3.out]; omega
           clear hl1
           clear hB hx1 hy1)
        | (go_at_call 29
           refine (rqadd_ok _ b1 lb A1 B1 LB LE c1 d1 cb db x1 y1 xb yb (by first | exact (H_a1.out).rn 0 rfl | exact (((H_a1.out).alloc' (a1.heap.size) rfl (nd_int false none 0 0))).rn 0 rfl) (by first | exact (H_a1.out).rn 1 rfl | exact (((H_a1.out).alloc' (a1.heap.size) rfl (nd_int false none 0 0))).rn 1 rfl) (by first | exact HXB.out.below (H_a1.out).below | exact HXB.out.below (((H_a1.out).alloc' (a1.heap.size) rfl (nd_int false none 0 0))).below) (by first | exact HYB.out.below (H_a1.out).below | exact HYB.out.below (((H_a1.out).alloc' (a1.heap.size) rfl (nd_int false none 0 0))).below) (by have := HLN.out; omega) (by have := HLD.out; omega) (by omega) (by omega)).mono ?_
           rintro e_ a2 ⟨b2, A2, c2, x2, B2, d2, y2, rfl, HQ4, HQ5, HQ6, hx2, hy2, hB⟩
           have H_a2 := Lib.hid (Mo.num (Mo.num (Mo.call (by first | exact H_a1.out | exact ((H_a1.out).alloc' (a1.heap.size) rfl (nd_int false none 0 0))) hB) hx2) hy2)
           have k0a2c0 := ((H_a2.out.var 0 rfl)).cell 0 rfl
           have k0a2c1 := ((H_a2.out.var 0 rfl)).cell 1 rfl
           have k0a2c2 := ((H_a2.out.var 0 rfl)).cell 2 rfl
           have k0a2c3 := ((H_a2.out.var 0 rfl)).cell 3 rfl
           have k0a2c4 := ((H_a2.out.var 0 rfl)).cell 4 rfl
           have k0a2c5 := ((H_a2.out.var 0 rfl)).cell 5 rfl
           have k0a2c6 := ((H_a2.out.var 0 rfl)).cell 6 rfl
           have k0a2c7 := ((H_a2.out.var 0 rfl)).cell 7 rfl
           have k0a2c8 := ((H_a2.out.var 0 rfl)).cell 8 rfl
           have k1a2c0 := ((H_a2.out.var 1 rfl)).cell 0 rfl
           have k1a2c1 := ((H_a2.out.var 1 rfl)).cell 1 rfl
           have k1a2c2 := ((H_a2.out.var 1 rfl)).cell 2 rfl
           try have x0c0a2 := (H_a2.out.var 2 rfl).cell 0 rfl
           try have x0f0a2 := (H_a2.out.var 2 rfl).thaw 0
           try have x0c1a2 := (H_a2.out.var 2 rfl).cell 1 rfl
           try have x0f1a2 := (H_a2.out.var 2 rfl).thaw 1
           try have x0n0a2 := H_a2.out.apart 2 0 _ _ _ _ _ _ rfl rfl (by decide)
           try have x0n1a2 := H_a2.out.apart 2 1 _ _ _ _ _ _ rfl rfl (by decide)
           rw [HP1.out] at HQ4 HQ5 HQ6
           have HP2 : Hid (qv b2 x2 y2 = qv la xa ya * qv xb0 xn xd + qv lb xb yb) := qv_is HQ4.out HQ5.out HQ6.out
           have hl2 := qlen (b := lb) HXB.out.2 HYB.out.2
           have hl3 := qlen_add (p := qv la xa ya * qv xb0 xn xd) (q := qv lb xb yb) (by rw [← HQ2.out]; exact HLN.out) (by rw [← HQ3.out]; exact HLD.out) hl2.1 hl2.2
           have HLP : Hid (x2.length ≤ 1000) := by show _ ≤ _; rw [HQ5.out]; omega
           have HLE2 : Hid (y2.length ≤ 1000) := by show _ ≤ _; rw [HQ6.out]; omega
           clear hl2 hl3
           clear hB hx2 hy2)
        | (go_at_call 28
           refine (rinteger_ok _ b2 A2 B2 c2 d2 x2 y2 (by first | exact (H_a2.out).rn 2 rfl | exact (((H_a2.out).alloc' (a2.heap.size) rfl (nd_int false none 0 0))).rn 2 rfl) (by first | exact (H_a2.out).rn 3 rfl | exact (((H_a2.out).alloc' (a2.heap.size) rfl (nd_int false none 0 0))).rn 3 rfl) (by have := HLP.out; omega) (by have := HLE2.out; omega) md hmd).mono ?_
           rw [HP2.out, HK.out]
           rintro e_ a3 ⟨b5, A5, c5, z5, rfl, HB5, HZ5, hz5, hB⟩
           have H_a3 := Lib.hid (Mo.num (Mo.call (by first | exact H_a2.out | exact ((H_a2.out).alloc' (a2.heap.size) rfl (nd_int false none 0 0))) hB) hz5)
           have k0a3c0 := ((H_a3.out.var 0 rfl)).cell 0 rfl
           have k0a3c1 := ((H_a3.out.var 0 rfl)).cell 1 rfl
           have k0a3c2 := ((H_a3.out.var 0 rfl)).cell 2 rfl
           have k0a3c3 := ((H_a3.out.var 0 rfl)).cell 3 rfl
           have k0a3c4 := ((H_a3.out.var 0 rfl)).cell 4 rfl
           have k0a3c5 := ((H_a3.out.var 0 rfl)).cell 5 rfl
           have k0a3c6 := ((H_a3.out.var 0 rfl)).cell 6 rfl
           have k0a3c7 := ((H_a3.out.var 0 rfl)).cell 7 rfl
           have k0a3c8 := ((H_a3.out.var 0 rfl)).cell 8 rfl
           have k1a3c0 := ((H_a3.out.var 1 rfl)).cell 0 rfl
           have k1a3c1 := ((H_a3.out.var 1 rfl)).cell 1 rfl
           have k1a3c2 := ((H_a3.out.var 1 rfl)).cell 2 rfl
           try have x0c0a3 := (H_a3.out.var 2 rfl).cell 0 rfl
           try have x0f0a3 := (H_a3.out.var 2 rfl).thaw 0
           try have x0c1a3 := (H_a3.out.var 2 rfl).cell 1 rfl
           try have x0f1a3 := (H_a3.out.var 2 rfl).thaw 1
           try have x0n0a3 := H_a3.out.apart 2 0 _ _ _ _ _ _ rfl rfl (by decide)
           try have x0n1a3 := H_a3.out.apart 2 1 _ _ _ _ _ _ rfl rfl (by decide)
           try have p0 := ((((H_a3.out).alloc' (t := 31) (cs := #[.bool false, .slice none 0 0]) (a3.heap.size) rfl (nd_int _ _ _ _))).var 2 rfl).cell 0 rfl
           try have q0 := ((((H_a3.out).alloc' (t := 31) (cs := #[.bool false, .slice none 0 0]) (a3.heap.size) rfl (nd_int _ _ _ _))).var 2 rfl).thaw 0
           try have p1 := ((((H_a3.out).alloc' (t := 31) (cs := #[.bool false, .slice none 0 0]) (a3.heap.size) rfl (nd_int _ _ _ _))).var 2 rfl).cell 1 rfl
           try have q1 := ((((H_a3.out).alloc' (t := 31) (cs := #[.bool false, .slice none 0 0]) (a3.heap.size) rfl (nd_int _ _ _ _))).var 2 rfl).thaw 1
           try have pn0 := (((H_a3.out).alloc' (t := 31) (cs := #[.bool false, .slice none 0 0]) (a3.heap.size) rfl (nd_int _ _ _ _))).apart 2 0 _ _ _ _ _ _ rfl rfl (by decide)
           try have pn1 := (((H_a3.out).alloc' (t := 31) (cs := #[.bool false, .slice none 0 0]) (a3.heap.size) rfl (nd_int _ _ _ _))).apart 2 1 _ _ _ _ _ _ rfl rfl (by decide)
           clear hB hz5))
    | fail
    all_goals (go_wp2_with fail; go_meet)
    · exact ⟨_, b5, A5, c5, z5, rfl, HB5, HZ5, (((H_a3.out.sub [4])).alloc' (t := 31) (cs := #[.bool b5, .slice A5 z5.length c5]) (a3.heap.size) rfl (nd_int _ _ _ _))⟩
    · exact ⟨_, b5, A5, c5, z5, rfl, HB5, HZ5, ((((H_a3.out.sub [4])).set 2 (j := 0) (v := .bool b5) (cs' := #[.bool b5, .slice none 0 0]) rfl rfl (nd_int _ _ _ _)).set 2 (j := 1) (v := .slice A5 z5.length c5) (cs' := #[.bool b5, .slice A5 z5.length c5]) rfl rfl (nd_int _ _ _ _))⟩
    · exact ⟨_, b5, A5, c5, z5, rfl, HB5, HZ5, ((((H_a3.out.sub [4])).set 2 (j := 0) (v := .bool b5) (cs' := #[.bool b5, .slice none 0 0]) rfl rfl (nd_int _ _ _ _)).set 2 (j := 1) (v := .slice A5 z5.length c5) (cs' := #[.bool b5, .slice A5 z5.length c5]) rfl rfl (nd_int _ _ _ _))⟩
    · exact ⟨_, b5, A5, c5, z5, rfl, HB5, HZ5, ((((H_a3.out.sub [4])).set 2 (j := 0) (v := .bool b5) (cs' := #[.bool b5, .slice none 0 0]) rfl rfl (nd_int _ _ _ _)).set 2 (j := 1) (v := .slice A5 z5.length c5) (cs' := #[.bool b5, .slice A5 z5.length c5]) rfl rfl (nd_int _ _ _ _))⟩
  case rest =>
    obtain ⟨g, b5, A5, c5, z5, rfl, HB5, HZ5, H_wc⟩ := hcut
    have HE5 : Hid (zv b5 z5 = K) := by show _ = _; rw [HB5.out, HZ5.out]; exact zv_norm _
    have HLK : Hid (z5.length ≤ 70368744177664) := by
      show _ ≤ _
      rw [HZ5.out, ← HK.out]
      exact rnd_len_any _ _ (by
        have hl1 := qlen_mul (b := la) (q := xb0) HXA.out.2 HYA.out.2 HXN.out.2 HXD.out.2
        have hl2 := qlen (b := lb) HXB.out.2 HYB.out.2
        have hl3 := qlen_add (p := qv la xa ya * qv xb0 xn xd) (q := qv lb xb yb) hl1.1 hl1.2 hl2.1 hl2.2
        omega)
    go_upto_region 5 with fail
    have k0wcc0 := ((H_wc.out.var 0 rfl)).cell 0 rfl
    have k0wcc1 := ((H_wc.out.var 0 rfl)).cell 1 rfl
    have k0wcc2 := ((H_wc.out.var 0 rfl)).cell 2 rfl
    have k0wcc3 := ((H_wc.out.var 0 rfl)).cell 3 rfl
    have k0wcc4 := ((H_wc.out.var 0 rfl)).cell 4 rfl
    have k0wcc5 := ((H_wc.out.var 0 rfl)).cell 5 rfl
    have k0wcc6 := ((H_wc.out.var 0 rfl)).cell 6 rfl
    have k0wcc7 := ((H_wc.out.var 0 rfl)).cell 7 rfl
    have k0wcc8 := ((H_wc.out.var 0 rfl)).cell 8 rfl
    have k2wcc0 := ((H_wc.out.var 2 rfl)).cell 0 rfl
    have k2wcc1 := ((H_wc.out.var 2 rfl)).cell 1 rfl
    have H_wcd := Lib.hid H_wc.out.drew
    first
    | go_region_held3 (fun w' => w'.cell? ⟨w.heap.size, 0, none⟩ = some (.bool la) ∧ w'.cell? ⟨w.heap.size, 1, none⟩ = some (.slice LA xa.length ca) ∧ w'.cell? ⟨w.heap.size, 2, none⟩ = some (.slice LD ya.length da) ∧ w'.cell? ⟨w.heap.size, 3, none⟩ = some (.bool lb) ∧ w'.cell? ⟨w.heap.size, 4, none⟩ = some (.slice LB xb.length cb) ∧ w'.cell? ⟨w.heap.size, 5, none⟩ = some (.slice LE yb.length db) ∧ w'.cell? ⟨w.heap.size, 6, none⟩ = some (.int .i64 lo) ∧ w'.cell? ⟨w.heap.size, 7, none⟩ = some (.int .i64 hi) ∧ w'.cell? ⟨w.heap.size, 8, none⟩ = some (.int .i64 md) ∧ w'.cell? ⟨g, 0, none⟩ = some (.bool b5) ∧ w'.cell? ⟨g, 1, none⟩ = some (.slice A5 z5.length c5)) (go_keep)
       (first
        | (go_at_call 32
           refine (riof_ok wc.drew lo (by omega) (by omega)).mono ?_
           rintro e_ w8 ⟨b8, A8, c8, z8, rfl, HB8, HZ8, hz8, hB⟩
           have H_w8 := Lib.hid (Mo.num (Mo.call H_wcd.out hB) hz8)
           have k0w8c0 := ((H_w8.out.var 0 rfl)).cell 0 rfl
           have k0w8c1 := ((H_w8.out.var 0 rfl)).cell 1 rfl
           have k0w8c2 := ((H_w8.out.var 0 rfl)).cell 2 rfl
           have k0w8c3 := ((H_w8.out.var 0 rfl)).cell 3 rfl
           have k0w8c4 := ((H_w8.out.var 0 rfl)).cell 4 rfl
           have k0w8c5 := ((H_w8.out.var 0 rfl)).cell 5 rfl
           have k0w8c6 := ((H_w8.out.var 0 rfl)).cell 6 rfl
           have k0w8c7 := ((H_w8.out.var 0 rfl)).cell 7 rfl
           have k0w8c8 := ((H_w8.out.var 0 rfl)).cell 8 rfl
           have k2w8c0 := ((H_w8.out.var 2 rfl)).cell 0 rfl
           have k2w8c1 := ((H_w8.out.var 2 rfl)).cell 1 rfl
           have HLO8 : Hid (z8.length ≤ 1) := by show _ ≤ _; rw [HZ8.out]; refine limbs_len ?_; rw [pw_succ, pw_zero]; omega
           clear hB hz8)
        | (go_at_call 31
           refine (ricmp_ok w8 b5 b8 A5 A8 c5 c8 z5 z8 (H_w8.out.rn 0 rfl) (H_w8.out.rn 1 rfl) HLK.out (by have := HLO8.out; omega)).mono ?_
           rw [HE5.out, HB8.out, HZ8.out, zv_norm]
           rintro e_ v8 ⟨rfl, hB⟩
           have H_v8 := Lib.hid (Mo.call H_w8.out hB)
           have k0v8c0 := ((H_v8.out.var 0 rfl)).cell 0 rfl
           have k0v8c1 := ((H_v8.out.var 0 rfl)).cell 1 rfl
           have k0v8c2 := ((H_v8.out.var 0 rfl)).cell 2 rfl
           have k0v8c3 := ((H_v8.out.var 0 rfl)).cell 3 rfl
           have k0v8c4 := ((H_v8.out.var 0 rfl)).cell 4 rfl
           have k0v8c5 := ((H_v8.out.var 0 rfl)).cell 5 rfl
           have k0v8c6 := ((H_v8.out.var 0 rfl)).cell 6 rfl
           have k0v8c7 := ((H_v8.out.var 0 rfl)).cell 7 rfl
           have k0v8c8 := ((H_v8.out.var 0 rfl)).cell 8 rfl
           have k2v8c0 := ((H_v8.out.var 2 rfl)).cell 0 rfl
           have k2v8c1 := ((H_v8.out.var 2 rfl)).cell 1 rfl
           clear hB))
    | fail
    rcases (show K < lo ∨ lo = K ∨ lo < K by omega) with h | h | h
    · have HC : Hid (clampI K lo hi = lo) := by show _ = _; unfold clampI; rw [if_pos (by omega)]
      rw [cmpI_lt h]
      clear h
      go_wp2_with fail
      go_ret2
      exact ⟨by rw [← HSC.out, HC.out]; rfl, H_v8.out.below⟩
    · have H1 : Hid (lo ≤ K) := by show _ ≤ _; omega
      rw [cmpI_eq h.symm]
      clear h
      go_upto_region 7 with fail
      have k0v8c0 := ((H_v8.out.var 0 rfl)).cell 0 rfl
      have k0v8c1 := ((H_v8.out.var 0 rfl)).cell 1 rfl
      have k0v8c2 := ((H_v8.out.var 0 rfl)).cell 2 rfl
      have k0v8c3 := ((H_v8.out.var 0 rfl)).cell 3 rfl
      have k0v8c4 := ((H_v8.out.var 0 rfl)).cell 4 rfl
      have k0v8c5 := ((H_v8.out.var 0 rfl)).cell 5 rfl
      have k0v8c6 := ((H_v8.out.var 0 rfl)).cell 6 rfl
      have k0v8c7 := ((H_v8.out.var 0 rfl)).cell 7 rfl
      have k0v8c8 := ((H_v8.out.var 0 rfl)).cell 8 rfl
      have k2v8c0 := ((H_v8.out.var 2 rfl)).cell 0 rfl
      have k2v8c1 := ((H_v8.out.var 2 rfl)).cell 1 rfl
      have H_v8d := Lib.hid H_v8.out.drew
      first
      | go_region_held3 (fun w' => w'.cell? ⟨w.heap.size, 0, none⟩ = some (.bool la) ∧ w'.cell? ⟨w.heap.size, 1, none⟩ = some (.slice LA xa.length ca) ∧ w'.cell? ⟨w.heap.size, 2, none⟩ = some (.slice LD ya.length da) ∧ w'.cell? ⟨w.heap.size, 3, none⟩ = some (.bool lb) ∧ w'.cell? ⟨w.heap.size, 4, none⟩ = some (.slice LB xb.length cb) ∧ w'.cell? ⟨w.heap.size, 5, none⟩ = some (.slice LE yb.length db) ∧ w'.cell? ⟨w.heap.size, 6, none⟩ = some (.int .i64 lo) ∧ w'.cell? ⟨w.heap.size, 7, none⟩ = some (.int .i64 hi) ∧ w'.cell? ⟨w.heap.size, 8, none⟩ = some (.int .i64 md) ∧ w'.cell? ⟨g, 0, none⟩ = some (.bool b5) ∧ w'.cell? ⟨g, 1, none⟩ = some (.slice A5 z5.length c5)) (go_keep)
         (first
          | (go_at_call 32
             refine (riof_ok v8.drew hi (by omega) (by omega)).mono ?_
             rintro e_ w9 ⟨b9, A9, c9, z9, rfl, HB9, HZ9, hz9, hB⟩
             have H_w9 := Lib.hid (Mo.num (Mo.call H_v8d.out hB) hz9)
             have k0w9c0 := ((H_w9.out.var 0 rfl)).cell 0 rfl
             have k0w9c1 := ((H_w9.out.var 0 rfl)).cell 1 rfl
             have k0w9c2 := ((H_w9.out.var 0 rfl)).cell 2 rfl
             have k0w9c3 := ((H_w9.out.var 0 rfl)).cell 3 rfl
             have k0w9c4 := ((H_w9.out.var 0 rfl)).cell 4 rfl
             have k0w9c5 := ((H_w9.out.var 0 rfl)).cell 5 rfl
             have k0w9c6 := ((H_w9.out.var 0 rfl)).cell 6 rfl
             have k0w9c7 := ((H_w9.out.var 0 rfl)).cell 7 rfl
             have k0w9c8 := ((H_w9.out.var 0 rfl)).cell 8 rfl
             have k2w9c0 := ((H_w9.out.var 2 rfl)).cell 0 rfl
             have k2w9c1 := ((H_w9.out.var 2 rfl)).cell 1 rfl
             have HLO9 : Hid (z9.length ≤ 1) := by show _ ≤ _; rw [HZ9.out]; refine limbs_len ?_; rw [pw_succ, pw_zero]; omega
             clear hB hz9)
          | (go_at_call 31
             refine (ricmp_ok w9 b5 b9 A5 A9 c5 c9 z5 z9 (H_w9.out.rn 0 rfl) (H_w9.out.rn 2 rfl) HLK.out (by have := HLO9.out; omega)).mono ?_
             rw [HE5.out, HB9.out, HZ9.out, zv_norm]
             rintro e_ v9 ⟨rfl, hB⟩
             have H_v9 := Lib.hid (Mo.call H_w9.out hB)
             have k0v9c0 := ((H_v9.out.var 0 rfl)).cell 0 rfl
             have k0v9c1 := ((H_v9.out.var 0 rfl)).cell 1 rfl
             have k0v9c2 := ((H_v9.out.var 0 rfl)).cell 2 rfl
             have k0v9c3 := ((H_v9.out.var 0 rfl)).cell 3 rfl
             have k0v9c4 := ((H_v9.out.var 0 rfl)).cell 4 rfl
             have k0v9c5 := ((H_v9.out.var 0 rfl)).cell 5 rfl
             have k0v9c6 := ((H_v9.out.var 0 rfl)).cell 6 rfl
             have k0v9c7 := ((H_v9.out.var 0 rfl)).cell 7 rfl
             have k0v9c8 := ((H_v9.out.var 0 rfl)).cell 8 rfl
             have k2v9c0 := ((H_v9.out.var 2 rfl)).cell 0 rfl
             have k2v9c1 := ((H_v9.out.var 2 rfl)).cell 1 rfl
             clear hB))
      | fail
      rcases (show hi < K ∨ K = hi ∨ K < hi by omega) with h | h | h
      · have HC : Hid (clampI K lo hi = hi) := by show _ = _; have := H1.out; unfold clampI; split <;> (try split) <;> omega
        rw [cmpI_gt h]
        clear h
        go_wp2_with fail
        go_ret2
        exact ⟨by rw [← HSC.out, HC.out]; rfl, H_v9.out.below⟩
      · have HC : Hid (clampI K lo hi = K) := by show _ = _; have := H1.out; unfold clampI; split <;> (try split) <;> omega
        rw [cmpI_eq h]
        have hv5 : V z5 ≤ 4294967295 := by
          rw [HZ5.out, V_limbs]
          have := H1.out
          omega
        clear h
        go_wp2_with fail
        refine (riint64_ok v9 b5 A5 c5 z5 (H_v9.out.rn 0 rfl) HLK.out hv5).mono ?_
        rw [HE5.out]
        rintro e_ u1 ⟨rfl, hB⟩
        have H_u1 := Lib.hid (Mo.call H_v9.out hB)
        clear hB
        go_wp2_with fail
        go_ret2
        exact ⟨by rw [← HSC.out, HC.out]; rfl, H_u1.out.below⟩
      · have HC : Hid (clampI K lo hi = K) := by show _ = _; have := H1.out; unfold clampI; split <;> (try split) <;> omega
        rw [cmpI_lt h]
        have hv5 : V z5 ≤ 4294967295 := by
          rw [HZ5.out, V_limbs]
          have := H1.out
          omega
        clear h
        go_wp2_with fail
        refine (riint64_ok v9 b5 A5 c5 z5 (H_v9.out.rn 0 rfl) HLK.out hv5).mono ?_
        rw [HE5.out]
        rintro e_ u1 ⟨rfl, hB⟩
        have H_u1 := Lib.hid (Mo.call H_v9.out hB)
        clear hB
        go_wp2_with fail
        go_ret2
        exact ⟨by rw [← HSC.out, HC.out]; rfl, H_u1.out.below⟩
    · have H1 : Hid (lo ≤ K) := by show _ ≤ _; omega
      rw [cmpI_gt h]
      clear h
      go_upto_region 7 with fail
      have k0v8c0 := ((H_v8.out.var 0 rfl)).cell 0 rfl
      have k0v8c1 := ((H_v8.out.var 0 rfl)).cell 1 rfl
      have k0v8c2 := ((H_v8.out.var 0 rfl)).cell 2 rfl
      have k0v8c3 := ((H_v8.out.var 0 rfl)).cell 3 rfl
      have k0v8c4 := ((H_v8.out.var 0 rfl)).cell 4 rfl
      have k0v8c5 := ((H_v8.out.var 0 rfl)).cell 5 rfl
      have k0v8c6 := ((H_v8.out.var 0 rfl)).cell 6 rfl
      have k0v8c7 := ((H_v8.out.var 0 rfl)).cell 7 rfl
      have k0v8c8 := ((H_v8.out.var 0 rfl)).cell 8 rfl
      have k2v8c0 := ((H_v8.out.var 2 rfl)).cell 0 rfl
      have k2v8c1 := ((H_v8.out.var 2 rfl)).cell 1 rfl
      have H_v8d := Lib.hid H_v8.out.drew
      first
      | go_region_held3 (fun w' => w'.cell? ⟨w.heap.size, 0, none⟩ = some (.bool la) ∧ w'.cell? ⟨w.heap.size, 1, none⟩ = some (.slice LA xa.length ca) ∧ w'.cell? ⟨w.heap.size, 2, none⟩ = some (.slice LD ya.length da) ∧ w'.cell? ⟨w.heap.size, 3, none⟩ = some (.bool lb) ∧ w'.cell? ⟨w.heap.size, 4, none⟩ = some (.slice LB xb.length cb) ∧ w'.cell? ⟨w.heap.size, 5, none⟩ = some (.slice LE yb.length db) ∧ w'.cell? ⟨w.heap.size, 6, none⟩ = some (.int .i64 lo) ∧ w'.cell? ⟨w.heap.size, 7, none⟩ = some (.int .i64 hi) ∧ w'.cell? ⟨w.heap.size, 8, none⟩ = some (.int .i64 md) ∧ w'.cell? ⟨g, 0, none⟩ = some (.bool b5) ∧ w'.cell? ⟨g, 1, none⟩ = some (.slice A5 z5.length c5)) (go_keep)
         (first
          | (go_at_call 32
             refine (riof_ok v8.drew hi (by omega) (by omega)).mono ?_
             rintro e_ w9 ⟨b9, A9, c9, z9, rfl, HB9, HZ9, hz9, hB⟩
             have H_w9 := Lib.hid (Mo.num (Mo.call H_v8d.out hB) hz9)
             have k0w9c0 := ((H_w9.out.var 0 rfl)).cell 0 rfl
             have k0w9c1 := ((H_w9.out.var 0 rfl)).cell 1 rfl
             have k0w9c2 := ((H_w9.out.var 0 rfl)).cell 2 rfl
             have k0w9c3 := ((H_w9.out.var 0 rfl)).cell 3 rfl
             have k0w9c4 := ((H_w9.out.var 0 rfl)).cell 4 rfl
             have k0w9c5 := ((H_w9.out.var 0 rfl)).cell 5 rfl
             have k0w9c6 := ((H_w9.out.var 0 rfl)).cell 6 rfl
             have k0w9c7 := ((H_w9.out.var 0 rfl)).cell 7 rfl
             have k0w9c8 := ((H_w9.out.var 0 rfl)).cell 8 rfl
             have k2w9c0 := ((H_w9.out.var 2 rfl)).cell 0 rfl
             have k2w9c1 := ((H_w9.out.var 2 rfl)).cell 1 rfl
             have HLO9 : Hid (z9.length ≤ 1) := by show _ ≤ _; rw [HZ9.out]; refine limbs_len ?_; rw [pw_succ, pw_zero]; omega
             clear hB hz9)
          | (go_at_call 31
             refine (ricmp_ok w9 b5 b9 A5 A9 c5 c9 z5 z9 (H_w9.out.rn 0 rfl) (H_w9.out.rn 2 rfl) HLK.out (by have := HLO9.out; omega)).mono ?_
             rw [HE5.out, HB9.out, HZ9.out, zv_norm]
             rintro e_ v9 ⟨rfl, hB⟩
             have H_v9 := Lib.hid (Mo.call H_w9.out hB)
             have k0v9c0 := ((H_v9.out.var 0 rfl)).cell 0 rfl
             have k0v9c1 := ((H_v9.out.var 0 rfl)).cell 1 rfl
             have k0v9c2 := ((H_v9.out.var 0 rfl)).cell 2 rfl
             have k0v9c3 := ((H_v9.out.var 0 rfl)).cell 3 rfl
             have k0v9c4 := ((H_v9.out.var 0 rfl)).cell 4 rfl
             have k0v9c5 := ((H_v9.out.var 0 rfl)).cell 5 rfl
             have k0v9c6 := ((H_v9.out.var 0 rfl)).cell 6 rfl
             have k0v9c7 := ((H_v9.out.var 0 rfl)).cell 7 rfl
             have k0v9c8 := ((H_v9.out.var 0 rfl)).cell 8 rfl
             have k2v9c0 := ((H_v9.out.var 2 rfl)).cell 0 rfl
             have k2v9c1 := ((H_v9.out.var 2 rfl)).cell 1 rfl
             clear hB))
      | fail
      rcases (show hi < K ∨ K = hi ∨ K < hi by omega) with h | h | h
      · have HC : Hid (clampI K lo hi = hi) := by show _ = _; have := H1.out; unfold clampI; split <;> (try split) <;> omega
        rw [cmpI_gt h]
        clear h
        go_wp2_with fail
        go_ret2
        exact ⟨by rw [← HSC.out, HC.out]; rfl, H_v9.out.below⟩
      · have HC : Hid (clampI K lo hi = K) := by show _ = _; have := H1.out; unfold clampI; split <;> (try split) <;> omega
        rw [cmpI_eq h]
        have hv5 : V z5 ≤ 4294967295 := by
          rw [HZ5.out, V_limbs]
          have := H1.out
          omega
        clear h
        go_wp2_with fail
        refine (riint64_ok v9 b5 A5 c5 z5 (H_v9.out.rn 0 rfl) HLK.out hv5).mono ?_
        rw [HE5.out]
        rintro e_ u1 ⟨rfl, hB⟩
        have H_u1 := Lib.hid (Mo.call H_v9.out hB)
        clear hB
        go_wp2_with fail
        go_ret2
        exact ⟨by rw [← HSC.out, HC.out]; rfl, H_u1.out.below⟩
      · have HC : Hid (clampI K lo hi = K) := by show _ = _; have := H1.out; unfold clampI; split <;> (try split) <;> omega
        rw [cmpI_lt h]
        have hv5 : V z5 ≤ 4294967295 := by
          rw [HZ5.out, V_limbs]
          have := H1.out
          omega
        clear h
        go_wp2_with fail
        refine (riint64_ok v9 b5 A5 c5 z5 (H_v9.out.rn 0 rfl) HLK.out hv5).mono ?_
        rw [HE5.out]
        rintro e_ u1 ⟨rfl, hB⟩
        have H_u1 := Lib.hid (Mo.call H_v9.out hB)
        clear hB
        go_wp2_with fail
        go_ret2
        exact ⟨by rw [← HSC.out, HC.out]; rfl, H_u1.out.below⟩

end Go.Proofs.Ytgdlnmhpnlmofaa.M
