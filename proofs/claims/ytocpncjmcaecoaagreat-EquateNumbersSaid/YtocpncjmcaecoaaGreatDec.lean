/- Rounding by the program. -/
import Derived.Test.YtocpncjmcaecoaaGreatMo
namespace Go.Proofs.YtocpncjmcaecoaaGreat.M
set_option maxRecDepth 10000
open Go.RowKit
set_option linter.unusedVariables false
set_option linter.unusedSimpArgs false
/-- Whether a number between f and f + 1 becomes f + 1. -/
def rup (mode half : Int) (neg : Bool) (f : Int) : Bool :=
  if mode = 6 then false else if mode = 7 then true else if mode = 4 then !neg else if mode = 5 then neg else
  if half ≠ 0 then decide (0 < half) else if mode = 2 then !neg else if mode = 3 then neg else decide (f % 2 = 1)
def rnd (q : Rat) (mode : Int) : Int :=
  if q.num % q.den = 0 then q.num / q.den else if rup mode (cmpI (q.num % q.den + q.num % q.den) q.den) (decide (q.num < 0)) (q.num / q.den) then q.num / q.den + 1 else q.num / q.den

set_option maxHeartbeats 800000 in
theorem power0_ok (w : World)  :
    Calls Tryz.prog 102 #[.int .i64 0] w (RetZI 1 w) := by
  go_enter Tryz.func102, Tryz.ntmps102
  go_upto_region 1 with fail
  obtain ⟨W, hW⟩ : ∃ W, W = (w.alloc (.cells #[.bool false, .slice none 0 0] 26)) := ⟨_, rfl⟩
  rw [← hW]
  have H_W : Mo w W [(w.heap.size, 26, #[.bool false, .slice none 0 0])] [] := by
    rw [hW]
    have h := ((Mo.start w).alloc (t := 26) (cs := #[.bool false, .slice none 0 0]) (nd_int _ _ _ _))
    simp only [size_alloc, List.nil_append, List.cons_append] at h
    exact h
  clear hW
  have H_W := Lib.hid H_W
  go_wp2_with fail
  refine (of_ok W 10 (by omega) (by omega)).mono ?_
  rintro e_ w1 ⟨A1, c1, z1, rfl, HZ1, hz1, hB⟩
  have H_w1 := Lib.hid (Mo.num (Mo.call H_W.out hB) hz1)
  have HL1 : Hid (z1.length ≤ 1) := by show _ ≤ _; rw [HZ1.out]; exact limbs_len (m := 1) (by decide)
  clear hB hz1
  go_wp2_with fail
  refine (pow0_ok w1 A1 c1 z1 (H_w1.out.rn 0 rfl) (by have := HL1.out; omega)).mono ?_
  rintro e_ w2 ⟨A2, c2, z2, rfl, HZ2, hz2, hB⟩
  have H_w2 := Lib.hid (Mo.num (Mo.call H_w1.out hB) hz2)
  have HL2 : Hid (z2.length ≤ 1) := by show _ ≤ _; rw [HZ2.out]; exact limbs_len (m := 1) (by decide)
  clear hB hz2
  go_wp2_with fail
  refine (make_ok w2 false A2 c2 z2 (H_w2.out.rn 1 rfl) (by have := HL2.out; omega)).mono ?_
  rintro e_ w3 ⟨b3, A3, c3, z3, rfl, HB3, HZ3, hz3, hB⟩
  have H_w3 := Lib.hid (Mo.num (Mo.call H_w2.out hB) hz3)
  have k0w3c0 := ((H_w3.out.var 0 rfl)).cell 0 rfl
  have k0w3c1 := ((H_w3.out.var 0 rfl)).cell 1 rfl
  have k0w3f0 := ((H_w3.out.var 0 rfl)).thaw 0
  have k0w3f1 := ((H_w3.out.var 0 rfl)).thaw 1
  clear hB hz3
  have hv : zv false z2 = 1 := by rw [zv_f, HZ2.out, V_limbs]; rfl
  rw [hv] at HB3 HZ3
  clear hv
  go_wp2_with fail
  have hz1 := H_w3.out.set 0 (j := 0) (v := .bool b3) (cs' := #[.bool b3, .slice none 0 0]) rfl rfl (nd_int _ _ _ _)
  have hz2 := hz1.set 0 (j := 1) (v := .slice A3 z3.length c3) (cs' := #[.bool b3, .slice A3 z3.length c3]) rfl rfl (nd_int _ _ _ _)
  have v3 : Vr ((w3.setCell ⟨w.heap.size, 0, none⟩ (.bool b3)).setCell ⟨w.heap.size, 1, none⟩ (.slice A3 z3.length c3)) w.heap.size 26 #[.bool b3, .slice A3 z3.length c3] := hz2.var 0 rfl
  refine bodyPost_ret (v := .agg #[.bool b3, .slice A3 z3.length c3]) (by simp [results, Tryz.results102, go_sem, v3.cell 0 rfl, v3.cell 1 rfl]) rfl ?_
  exact ⟨b3, A3, c3, z3, rfl, HB3, HZ3, hz2.rn 2 rfl, hz2.below⟩

set_option maxHeartbeats 800000 in
theorem odd_ok (w : World) (b : Bool) (A : Option Addr) (c : Nat) (xs : List Int) (hx : RN w A c xs) :
    Calls Tryz.prog 124 #[.agg #[.bool b, .slice A xs.length c]] w (fun e w' => e = .returned (.bool (decide (zv b xs % 2 = 1))) ∧ Below w.heap.size w w') := by
  have HX := Lib.hid hx
  have hcl := hx.1.1
  have hcm := hx.1.2.1
  clear hx
  go_enter Tryz.func124, Tryz.ntmps124
  go_upto_region 1 with fail
  obtain ⟨W, hW⟩ : ∃ W, W = (w.alloc (.cells #[.bool b, .slice A xs.length c] 26)) := ⟨_, rfl⟩
  rw [← hW]
  have H_W : Mo w W [(w.heap.size, 26, #[.bool b, .slice A xs.length c])] [] := by
    rw [hW]
    have h := ((Mo.start w).alloc (t := 26) (cs := #[.bool b, .slice A xs.length c]) (nd_int _ _ _ _))
    simp only [size_alloc, List.nil_append, List.cons_append] at h
    exact h
  clear hW
  have H_W := Lib.hid H_W
  have k0Wc0 := ((H_W.out.var 0 rfl)).cell 0 rfl
  have k0Wc1 := ((H_W.out.var 0 rfl)).cell 1 rfl
  by_cases h0 : xs.length = 0
  · have e1 : decide ((0 : Int) < (xs.length : Int)) = false := decide_eq_false (by omega)
    have e2 : decide (0 < xs.length) = false := decide_eq_false (by omega)
    have HE : Hid (decide (zv b xs % 2 = 1) = false) := by
      show _ = _
      have h1 : V xs = 0 := by rw [List.length_eq_zero_iff.1 h0]; rfl
      refine decide_eq_false ?_
      cases b
      · rw [zv_f, h1]; decide
      · rw [zv_t, h1]; decide
    clear h0
    go_wp2_with fail
    go_ret
    exact ⟨by rw [HE.out]; rfl, H_W.out.below⟩
  · obtain ⟨ad, rfl, hc⟩ := (HX.out.below H_W.out.below).1.2.2 0 (by omega)
    have hc0 : W.cell? ad = some (.int .u32 (dg xs 0)) := by
      have h : ad.add 0 = ad := by unfold Addr.add; split <;> simp_all
      rw [← h]
      exact hc
    have bx := HX.out.2 0
    have e1 : decide ((0 : Int) < (xs.length : Int)) = true := decide_eq_true (by omega)
    have e2 : decide (0 < xs.length) = true := decide_eq_true (by omega)
    have hm : V xs % 2 = dg xs 0 % 2 := by
      obtain ⟨n, hn⟩ : ∃ n, xs.length = n + 1 := ⟨xs.length - 1, by omega⟩
      unfold V
      rw [hn, S_shift]
      omega
    have HE : Hid (decide (zv b xs % 2 = 1) = (dg xs 0 % 2 == 1)) := by
      show _ = _
      have h2 : zv b xs % 2 = dg xs 0 % 2 := by
        cases b
        · rw [zv_f]; exact hm
        · rw [zv_t]; omega
      rw [h2]
      by_cases h3 : dg xs 0 % 2 = 1
      · rw [decide_eq_true h3, h3]; rfl
      · rw [decide_eq_false h3]; exact (beq_eq_false_iff_ne.2 h3).symm
    have hpos : 0 < xs.length := by omega
    have hpos' : (0 : Int) < (xs.length : Int) := by omega
    clear e1 e2
    have em : Int.tmod (dg xs 0) 2 = dg xs 0 % 2 := Int.tmod_eq_emod_of_nonneg bx.1
    clear h0 hc hm
    go_wp2_with fail
    go_ret
    refine ⟨?_, H_W.out.below⟩
    rw [HE.out]
    first | rfl | (rw [← em]; rfl)

set_option maxHeartbeats 1600000 in
theorem above_ok (w : World) (mode half : Int) (neg b : Bool) (A : Option Addr) (c : Nat) (xs : List Int) (hx : RN w A c xs) (hm : 1 ≤ mode ∧ mode ≤ 7) :
    Calls Tryz.prog 103 #[.int .i64 mode, .int .i64 half, .bool neg, .agg #[.bool b, .slice A xs.length c]] w (fun e w' => e = .returned (.bool (rup mode half neg (zv b xs))) ∧ Below w.heap.size w w') := by
  have HX := Lib.hid hx
  clear hx
  go_enter Tryz.func103, Tryz.ntmps103
  go_upto_region 1 with fail
  obtain ⟨W, hW⟩ : ∃ W, W = (w.alloc (.cells #[.bool b, .slice A xs.length c] 26)) := ⟨_, rfl⟩
  rw [← hW]
  have H_W : Mo w W [(w.heap.size, 26, #[.bool b, .slice A xs.length c])] [] := by
    rw [hW]
    have h := ((Mo.start w).alloc (t := 26) (cs := #[.bool b, .slice A xs.length c]) (nd_int _ _ _ _))
    simp only [size_alloc, List.nil_append, List.cons_append] at h
    exact h
  clear hW
  have H_W := Lib.hid H_W
  have k0Wc0 := ((H_W.out.var 0 rfl)).cell 0 rfl
  have k0Wc1 := ((H_W.out.var 0 rfl)).cell 1 rfl
  rcases (show mode = 1 ∨ mode = 2 ∨ mode = 3 ∨ mode = 4 ∨ mode = 5 ∨ mode = 6 ∨ mode = 7 by omega) with rfl | rfl | rfl | rfl | rfl | rfl | rfl
  all_goals by_cases hh : half = 0
  all_goals first | (obtain rfl := hh) | (have e1 : (half == 0) = false := beq_eq_false_iff_ne.2 hh; have HH := Lib.hid hh; clear hh)
  all_goals go_wp2_with fail
  all_goals first
    | (go_ret; refine ⟨?_, H_W.out.below⟩; first | rfl | (unfold rup; simp [HH.out]) | (unfold rup; simp))
    | (refine (odd_ok W b A c xs (HX.out.below H_W.out.below)).mono ?_
       rintro e_ w1 ⟨rfl, hB⟩
       have H_w1 := Lib.hid (Mo.call H_W.out hB)
       clear hB
       go_wp2_with fail
       go_ret
       exact ⟨rfl, H_w1.out.below⟩)

end Go.Proofs.YtocpncjmcaecoaaGreat.M
