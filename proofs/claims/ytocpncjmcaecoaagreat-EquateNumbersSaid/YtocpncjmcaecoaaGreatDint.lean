/- Rounding to an integer by the program. -/
import Derived.Test.YtocpncjmcaecoaaGreatUnits
namespace Go.Proofs.YtocpncjmcaecoaaGreat.M
set_option maxRecDepth 10000
open Go.RowKit
set_option linter.unusedVariables false
set_option linter.unusedSimpArgs false
/-- An integer in normal form, and an error number. -/
def RetZE (z e0 : Int) (w : World) (e : Ending) (w' : World) : Prop := ∃ b A c xs, e = .returned (.tuple #[.agg #[.bool b, .slice A xs.length c], .int .i64 e0]) ∧ Hid (b = decide (z < 0)) ∧ Hid (xs = limbs z.natAbs) ∧ RN w' A c xs ∧ Below w.heap.size w w'
set_option maxHeartbeats 400000 in
theorem dvalid_ok (w : World) (mode : Int) (hm : 1 ≤ mode ∧ mode ≤ 7) :
    Calls Tryz.prog 72 #[.int .i64 0, .int .i64 mode] w (fun e w' => e = .returned (.int .i64 0) ∧ w' = w) := by
  go_enter Tryz.func72, Tryz.ntmps72
  have e1 : decide (mode < 1) = false := decide_eq_false (by omega)
  have e2 : decide (7 < mode) = false := decide_eq_false (by omega)
  go_wp2_with fail
  go_ret
  exact ⟨rfl, rfl⟩

set_option maxHeartbeats 1600000 in
theorem integer_ok (w : World) (b : Bool) (A B : Option Addr) (c d : Nat) (xs ys : List Int) (mode : Int) (hx : RN w A c xs) (hy : RN w B d ys) (hsx : xs.length ≤ 35184372088000) (hsy : ys.length ≤ 35184372088000) (hm : 1 ≤ mode ∧ mode ≤ 7) :
    Calls Tryz.prog 44 #[.agg #[.bool b, .slice A xs.length c, .slice B ys.length d], .int .i64 mode] w (RetZE (rnd (qv b xs ys) mode) 0 w) := by
  have HX := Lib.hid hx
  have HY := Lib.hid hy
  clear hx hy
  go_enter Tryz.func44, Tryz.ntmps44
  go_upto_region 1 with fail
  obtain ⟨W, hW⟩ : ∃ W, W = ((w.alloc (.cells #[.bool b, .slice A xs.length c, .slice B ys.length d] 28)).alloc (.cells #[.bool false, .slice none 0 0] 26)) := ⟨_, rfl⟩
  rw [← hW]
  have H_W : Mo w W [(w.heap.size, 28, #[.bool b, .slice A xs.length c, .slice B ys.length d]), (w.heap.size + 1, 26, #[.bool false, .slice none 0 0])] [] := by
    rw [hW]
    have h := (((Mo.start w).alloc (t := 28) (cs := #[.bool b, .slice A xs.length c, .slice B ys.length d]) (nd_rat _ _ _ _ _ _ _)).alloc (t := 26) (cs := #[.bool false, .slice none 0 0]) (nd_int _ _ _ _))
    simp only [size_alloc, List.nil_append, List.cons_append] at h
    exact h
  clear hW
  obtain ⟨gW1, hgW1⟩ : ∃ g, w.heap.size + 1 = g := ⟨_, rfl⟩
  rw [hgW1] at H_W ⊢
  clear hgW1
  have neW01 : w.heap.size ≠ gW1 := H_W.apart 0 1 _ _ _ _ _ _ rfl rfl (by decide)
  have neW10 : gW1 ≠ w.heap.size := H_W.apart 1 0 _ _ _ _ _ _ rfl rfl (by decide)
  have H_W := Lib.hid H_W
  have k0Wc0 := ((H_W.out.var 0 rfl)).cell 0 rfl
  have k0Wc1 := ((H_W.out.var 0 rfl)).cell 1 rfl
  have k0Wc2 := ((H_W.out.var 0 rfl)).cell 2 rfl
  go_wp2_with fail
  refine (dvalid_ok W mode hm).mono ?_
  rintro e_ W ⟨rfl, rfl⟩
  go_wp2_with fail
  refine (units_ok W b A B c d xs ys mode (HX.out.below H_W.out.below) (HY.out.below H_W.out.below) hsx hsy hm).mono ?_
  rintro e_ w1 ⟨b1, A1, c1, z, rfl, HB1, HZ1, hz, hB⟩
  have H_w1 := Lib.hid (Mo.num (Mo.call H_W.out hB) hz)
  have k1w1c0 := ((H_w1.out.var 1 rfl)).cell 0 rfl
  have k1w1c1 := ((H_w1.out.var 1 rfl)).cell 1 rfl
  have k1w1f0 := ((H_w1.out.var 1 rfl)).thaw 0
  have k1w1f1 := ((H_w1.out.var 1 rfl)).thaw 1
  clear hB hz
  go_wp2_with fail
  have hz1 := H_w1.out.set 1 (j := 0) (v := .bool b1) (cs' := #[.bool b1, .slice none 0 0]) rfl rfl (nd_int _ _ _ _)
  have hz2 := hz1.set 1 (j := 1) (v := .slice A1 z.length c1) (cs' := #[.bool b1, .slice A1 z.length c1]) rfl rfl (nd_int _ _ _ _)
  have v3 : Vr ((w1.setCell ⟨gW1, 0, none⟩ (.bool b1)).setCell ⟨gW1, 1, none⟩ (.slice A1 z.length c1)) gW1 26 #[.bool b1, .slice A1 z.length c1] := hz2.var 1 rfl
  refine bodyPost_ret (v := .tuple #[.agg #[.bool b1, .slice A1 z.length c1], .int .i64 0]) (by simp [results, Tryz.results44, go_sem, v3.cell 0 rfl, v3.cell 1 rfl]) rfl ?_
  exact ⟨b1, A1, c1, z, rfl, HB1, HZ1, hz2.rn 0 rfl, hz2.below⟩

end Go.Proofs.YtocpncjmcaecoaaGreat.M
