/- Scaling by the program: rounding to an integer, scales, scores. -/
import Derived.Test.YtgdlnmhpnlmofaaUnits
namespace Go.Proofs.Ytgdlnmhpnlmofaa.M
set_option maxRecDepth 10000
open Go.RowKit
set_option linter.unusedVariables false
set_option linter.unusedSimpArgs false
/-- An integer in normal form, and an error number. -/
def RetZE (z e0 : Int) (w : World) (e : Ending) (w' : World) : Prop := ∃ b A c xs, e = .returned (.tuple #[.agg #[.bool b, .slice A xs.length c], .int .i64 e0]) ∧ Hid (b = decide (z < 0)) ∧ Hid (xs = limbs z.natAbs) ∧ RN w' A c xs ∧ Below w.heap.size w w'
theorem nd_lin (b1 b2 : Bool) (A B C D : Option Addr) (m1 c1 m2 c2 m3 c3 m4 c4 : Nat) (lo hi md : Int) : NoDigits #[.bool b1, .slice A m1 c1, .slice B m2 c2, .bool b2, .slice C m3 c3, .slice D m4 c4, .int .i64 lo, .int .i64 hi, .int .i64 md] := by
  intro j n
  match j with
  | 0 => simp
  | 1 => simp
  | 2 => simp
  | 3 => simp
  | 4 => simp
  | 5 => simp
  | 6 => simp
  | 7 => simp
  | 8 => simp
  | k + 9 => simp
def inB (n : Int) : Bool := decide (-1000000 ≤ n ∧ n ≤ 1000000)
/-- The first rule that a scale violates. -/
def linE (a : Rat) (lo hi md : Int) : Int := if cmpQ a 0 ≤ 0 ∨ lo < -1000000 ∨ 1000000 < lo ∨ hi < -1000000 ∨ 1000000 < hi then 3 else if hi < lo then 23 else if md < 1 ∨ 7 < md then 1 else 0
/-- The score of a number. -/
def clampI (K lo hi : Int) : Int := if K ≤ lo then lo else if hi ≤ K then hi else K
def scoreQ (a b : Rat) (lo hi md : Int) (x : Rat) : Int := clampI (rnd (a * x + b) md) lo hi

set_option maxHeartbeats 400000 in
theorem dvalid_ok (w : World) (mode : Int) (hm : 1 ≤ mode ∧ mode ≤ 7) :
    Calls Try.prog 70 #[.int .i64 0, .int .i64 mode] w (fun e w' => e = .returned (.int .i64 0) ∧ w' = w) := by
  go_enter Try.func70, Try.ntmps70
  have e1 : decide (mode < 1) = false := decide_eq_false (by omega)
  have e2 : decide (7 < mode) = false := decide_eq_false (by omega)
  go_wp2_with fail
  go_ret
  exact ⟨rfl, rfl⟩

set_option maxHeartbeats 1600000 in
theorem integer_ok (w : World) (b : Bool) (A B : Option Addr) (c d : Nat) (xs ys : List Int) (mode : Int) (hx : RN w A c xs) (hy : RN w B d ys) (hsx : xs.length ≤ 4000000000010) (hsy : ys.length ≤ 4000000000010) (hm : 1 ≤ mode ∧ mode ≤ 7) :
    Calls Try.prog 44 #[.agg #[.bool b, .slice A xs.length c, .slice B ys.length d], .int .i64 mode] w (RetZE (rnd (qv b xs ys) mode) 0 w) := by
  have HX := Lib.hid hx
  have HY := Lib.hid hy
  clear hx hy
  go_enter Try.func44, Try.ntmps44
  go_upto_region 1 with fail
  obtain ⟨W, hW⟩ : ∃ W, W = ((w.alloc (.cells #[.bool b, .slice A xs.length c, .slice B ys.length d] 33)).alloc (.cells #[.bool false, .slice none 0 0] 31)) := ⟨_, rfl⟩
  rw [← hW]
  have H_W : Mo w W [(w.heap.size, 33, #[.bool b, .slice A xs.length c, .slice B ys.length d]), (w.heap.size + 1, 31, #[.bool false, .slice none 0 0])] [] := by
    rw [hW]
    have h := (((Mo.start w).alloc (t := 33) (cs := #[.bool b, .slice A xs.length c, .slice B ys.length d]) (nd_rat _ _ _ _ _ _ _)).alloc (t := 31) (cs := #[.bool false, .slice none 0 0]) (nd_int _ _ _ _))
    simp only [size_alloc, List.nil_append, List.cons_append] at h
    exact h
  clear hW
  obtain ⟨gW1, hgW1⟩ : ∃ g, w.heap.size + 1 = g := ⟨_, rfl⟩
  rw [hgW1] at H_W ⊢
  clear hgW1
  have neW01 : w.heap.size ≠ gW1 := H_W.apart 0 1 _ _ _ _ _ _ rfl rfl (by decide)
  have neW10 : gW1 ≠ w.heap.size := H_W.apart 1 0 _ _ _ _ _ _ rfl rfl (by decide)
  have H_W := Lib.hid H_W
  have k0Wc0 := ((H_W.out.var 0 rfl)).cell 0 rfl
  have k0Wc1 := ((H_W.out.var 0 rfl)).cell 1 rfl
  have k0Wc2 := ((H_W.out.var 0 rfl)).cell 2 rfl
  go_wp2_with fail
  refine (dvalid_ok W mode hm).mono ?_
  rintro e_ W ⟨rfl, rfl⟩
  go_wp2_with fail
  refine (units_ok W b A B c d xs ys mode (HX.out.below H_W.out.below) (HY.out.below H_W.out.below) hsx hsy hm).mono ?_
  rintro e_ w1 ⟨b1, A1, c1, z, rfl, HB1, HZ1, hz, hB⟩
  have H_w1 := Lib.hid (Mo.num (Mo.call H_W.out hB) hz)
  have k1w1c0 := ((H_w1.out.var 1 rfl)).cell 0 rfl
  have k1w1c1 := ((H_w1.out.var 1 rfl)).cell 1 rfl
  have k1w1f0 := ((H_w1.out.var 1 rfl)).thaw 0
  have k1w1f1 := ((H_w1.out.var 1 rfl)).thaw 1
  clear hB hz
  go_wp2_with fail
  have hz1 := H_w1.out.set 1 (j := 0) (v := .bool b1) (cs' := #[.bool b1, .slice none 0 0]) rfl rfl (nd_int _ _ _ _)
  have hz2 := hz1.set 1 (j := 1) (v := .slice A1 z.length c1) (cs' := #[.bool b1, .slice A1 z.length c1]) rfl rfl (nd_int _ _ _ _)
  have v3 : Vr ((w1.setCell ⟨gW1, 0, none⟩ (.bool b1)).setCell ⟨gW1, 1, none⟩ (.slice A1 z.length c1)) gW1 31 #[.bool b1, .slice A1 z.length c1] := hz2.var 1 rfl
  refine bodyPost_ret (v := .tuple #[.agg #[.bool b1, .slice A1 z.length c1], .int .i64 0]) (by simp [results, Try.results44, go_sem, v3.cell 0 rfl, v3.cell 1 rfl]) rfl ?_
  exact ⟨b1, A1, c1, z, rfl, HB1, HZ1, hz2.rn 0 rfl, hz2.below⟩

set_option maxHeartbeats 400000 in
theorem bounded_ok (w : World) (n : Int) :
    Calls Try.prog 35 #[.int .i64 n] w (fun e w' => e = .returned (.bool (inB n)) ∧ w' = w) := by
  go_enter Try.func35, Try.ntmps35
  by_cases h1 : -1000000 ≤ n
  · have e1 : decide (-1000000 ≤ n) = true := decide_eq_true h1
    have HE : Hid (inB n = decide (n ≤ 1000000)) := decide_eq_decide.2 ⟨fun h => h.2, fun h => ⟨h1, h⟩⟩
    go_wp2_with fail
    go_ret
    exact ⟨by rw [HE.out]; rfl, rfl⟩
  · have e1 : decide (-1000000 ≤ n) = false := decide_eq_false h1
    have HE : Hid (inB n = false) := decide_eq_false (fun h => h1 h.1)
    go_wp2_with fail
    go_ret
    exact ⟨by rw [HE.out]; rfl, rfl⟩

set_option maxHeartbeats 1600000 in
theorem svalid_ok (w : World) (la lb : Bool) (LA LD LB LE : Option Addr) (ca da cb db : Nat) (xa ya xb yb : List Int) (lo hi md : Int) (hxa : RN w LA ca xa) (hya : RN w LD da ya) (hxb : RN w LB cb xb) (hyb : RN w LE db yb) (sxa : xa.length ≤ 20) (sya : ya.length ≤ 20) (sxb : xb.length ≤ 20) (syb : yb.length ≤ 20) :
    Calls Try.prog 16 #[.agg #[.bool la, .slice LA xa.length ca, .slice LD ya.length da, .bool lb, .slice LB xb.length cb, .slice LE yb.length db, .int .i64 lo, .int .i64 hi, .int .i64 md]] w (fun e w' => e = .returned (.int .i64 (linE (qv la xa ya) lo hi md)) ∧ Below w.heap.size w w') := by
  have HXA := Lib.hid hxa
  have HYA := Lib.hid hya
  have HXB := Lib.hid hxb
  have HYB := Lib.hid hyb
  clear hxa hya hxb hyb
  go_enter Try.func16, Try.ntmps16
  obtain ⟨s, hs⟩ : ∃ s, cmpQ (qv la xa ya) 0 = s := ⟨_, rfl⟩
  have HS := Lib.hid hs
  have hE : linE (qv la xa ya) lo hi md = if s ≤ 0 ∨ lo < -1000000 ∨ 1000000 < lo ∨ hi < -1000000 ∨ 1000000 < hi then 3 else if hi < lo then 23 else if md < 1 ∨ 7 < md then 1 else 0 := by unfold linE; rw [hs]
  have HLE := Lib.hid hE
  clear hs hE
  go_upto_region 1 with fail
  obtain ⟨W, hW⟩ : ∃ W, W = (w.alloc (.cells #[.bool la, .slice LA xa.length ca, .slice LD ya.length da, .bool lb, .slice LB xb.length cb, .slice LE yb.length db, .int .i64 lo, .int .i64 hi, .int .i64 md] 35)) := ⟨_, rfl⟩
  rw [← hW]
  have H_W : Mo w W [(w.heap.size, 35, #[.bool la, .slice LA xa.length ca, .slice LD ya.length da, .bool lb, .slice LB xb.length cb, .slice LE yb.length db, .int .i64 lo, .int .i64 hi, .int .i64 md])] [] := by
    rw [hW]
    have h := ((Mo.start w).alloc (t := 35) (cs := #[.bool la, .slice LA xa.length ca, .slice LD ya.length da, .bool lb, .slice LB xb.length cb, .slice LE yb.length db, .int .i64 lo, .int .i64 hi, .int .i64 md]) (nd_lin _ _ _ _ _ _ _ _ _ _ _ _ _ _ _ _ _))
    simp only [size_alloc, List.nil_append, List.cons_append] at h
    exact h
  clear hW
  have H_W := Lib.hid H_W
  have k0Wc0 := ((H_W.out.var 0 rfl)).cell 0 rfl
  have k0Wc1 := ((H_W.out.var 0 rfl)).cell 1 rfl
  have k0Wc2 := ((H_W.out.var 0 rfl)).cell 2 rfl
  have k0Wc3 := ((H_W.out.var 0 rfl)).cell 3 rfl
  have k0Wc4 := ((H_W.out.var 0 rfl)).cell 4 rfl
  have k0Wc5 := ((H_W.out.var 0 rfl)).cell 5 rfl
  have k0Wc6 := ((H_W.out.var 0 rfl)).cell 6 rfl
  have k0Wc7 := ((H_W.out.var 0 rfl)).cell 7 rfl
  have k0Wc8 := ((H_W.out.var 0 rfl)).cell 8 rfl
  go_wp2_with fail
  refine (qsign_ok W la LA LD ca da xa ya (HXA.out.below H_W.out.below) (HYA.out.below H_W.out.below) (by omega) (by omega)).mono ?_
  rw [sign_qv HYA.out.2, HS.out]
  rintro e_ W1 ⟨rfl, hB⟩
  have H_W1 := Lib.hid (Mo.call H_W.out hB)
  have k0W1c0 := ((H_W1.out.var 0 rfl)).cell 0 rfl
  have k0W1c1 := ((H_W1.out.var 0 rfl)).cell 1 rfl
  have k0W1c2 := ((H_W1.out.var 0 rfl)).cell 2 rfl
  have k0W1c3 := ((H_W1.out.var 0 rfl)).cell 3 rfl
  have k0W1c4 := ((H_W1.out.var 0 rfl)).cell 4 rfl
  have k0W1c5 := ((H_W1.out.var 0 rfl)).cell 5 rfl
  have k0W1c6 := ((H_W1.out.var 0 rfl)).cell 6 rfl
  have k0W1c7 := ((H_W1.out.var 0 rfl)).cell 7 rfl
  have k0W1c8 := ((H_W1.out.var 0 rfl)).cell 8 rfl
  clear hB
  by_cases h1 : s ≤ 0
  · have e1 : decide (s ≤ 0) = true := decide_eq_true h1
    have HE : Hid (linE (qv la xa ya) lo hi md = 3) := by show _ = _; rw [HLE.out, if_pos (.inl h1)]
    go_wp2_with fail
    go_ret
    exact ⟨by rw [HE.out]; rfl, H_W1.out.below⟩
  · have e1 : decide (s ≤ 0) = false := decide_eq_false h1
    by_cases h2 : -1000000 ≤ lo ∧ lo ≤ 1000000
    · go_wp2_with fail
      refine (bounded_ok W1 lo).mono ?_
      rw [show inB lo = true from decide_eq_true h2]
      rintro e_ W1 ⟨rfl, rfl⟩
      by_cases h3 : -1000000 ≤ hi ∧ hi ≤ 1000000
      · go_wp2_with fail
        refine (bounded_ok W1 hi).mono ?_
        rw [show inB hi = true from decide_eq_true h3]
        rintro e_ W1 ⟨rfl, rfl⟩
        have HL0 : Hid (linE (qv la xa ya) lo hi md = if hi < lo then 23 else if md < 1 ∨ 7 < md then 1 else 0) := by show _ = _; rw [HLE.out, if_neg (by omega)]
        by_cases h4 : hi < lo
        · have e4 : decide (hi < lo) = true := decide_eq_true h4
          have HE : Hid (linE (qv la xa ya) lo hi md = 23) := by show _ = _; rw [HL0.out, if_pos h4]
          go_wp2_with fail
          go_ret
          exact ⟨by rw [HE.out]; rfl, H_W1.out.below⟩
        · have e4 : decide (hi < lo) = false := decide_eq_false h4
          by_cases h5 : md < 1
          · have e5 : decide (md < 1) = true := decide_eq_true h5
            have HE : Hid (linE (qv la xa ya) lo hi md = 1) := by show _ = _; rw [HL0.out, if_neg h4, if_pos (.inl h5)]
            go_wp2_with fail
            go_ret
            exact ⟨by rw [HE.out]; rfl, H_W1.out.below⟩
          · have e5 : decide (md < 1) = false := decide_eq_false h5
            by_cases h6 : 7 < md
            · have e6 : decide (7 < md) = true := decide_eq_true h6
              have HE : Hid (linE (qv la xa ya) lo hi md = 1) := by show _ = _; rw [HL0.out, if_neg h4, if_pos (.inr h6)]
              go_wp2_with fail
              go_ret
              exact ⟨by rw [HE.out]; rfl, H_W1.out.below⟩
            · have e6 : decide (7 < md) = false := decide_eq_false h6
              have HE : Hid (linE (qv la xa ya) lo hi md = 0) := by show _ = _; rw [HL0.out, if_neg h4, if_neg (by omega)]
              go_wp2_with fail
              go_ret
              exact ⟨by rw [HE.out]; rfl, H_W1.out.below⟩
      · have HE : Hid (linE (qv la xa ya) lo hi md = 3) := by show _ = _; rw [HLE.out, if_pos (by omega)]
        go_wp2_with fail
        refine (bounded_ok W1 hi).mono ?_
        rw [show inB hi = false from decide_eq_false h3]
        rintro e_ W1 ⟨rfl, rfl⟩
        go_wp2_with fail
        go_ret
        exact ⟨by rw [HE.out]; rfl, H_W1.out.below⟩
    · have HE : Hid (linE (qv la xa ya) lo hi md = 3) := by show _ = _; rw [HLE.out, if_pos (by omega)]
      go_wp2_with fail
      refine (bounded_ok W1 lo).mono ?_
      rw [show inB lo = false from decide_eq_false h2]
      rintro e_ W1 ⟨rfl, rfl⟩
      go_wp2_with fail
      go_ret
      exact ⟨by rw [HE.out]; rfl, H_W1.out.below⟩

end Go.Proofs.Ytgdlnmhpnlmofaa.M
