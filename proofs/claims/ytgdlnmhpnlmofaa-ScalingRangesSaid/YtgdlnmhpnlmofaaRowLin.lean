/- Ratios and scales that come in, whatever they weigh: opened. -/
import Derived.Test.YtgdlnmhpnlmofaaRowRat
namespace Go.Proofs.Ytgdlnmhpnlmofaa.M
set_option maxRecDepth 10000
open Go.ChangeShapes Go.WideShapes Go.ChangeAt Go.RowKit Go.Joins
set_option linter.unusedVariables false

theorem cells_lin : Try.prog.cellsOf 35 = 9 := by kernel_rfl
theorem cells_i64 : Try.prog.cellsOf 3 = 1 := by kernel_rfl
theorem trod_struct5 {H : Type} {enc : TypeId × Value → H} {P : Program} {w : World} {base : Nat} {spare : Nat → Bool} {held : Bool} {t : TypeId} {f0 f1 f2 f3 f4 : Field} {fuel : Nat} {cs : List Value} {x : DataW H × List MemPlace} (ht : P.underlying t = some (.struct #[f0, f1, f2, f3, f4])) (h : DataW.trod enc P w base spare held fuel t cs = some x) :
    ∃ y0 y1 y2 y3 y4 n, x = (.agg [y0.1, y1.1, y2.1, y3.1, y4.1], y0.2 ++ (y1.2 ++ (y2.2 ++ (y3.2 ++ y4.2)))) ∧ cs.length = P.cellsOf t ∧ DataW.trod enc P w base spare held n f0.type ((cs.drop f0.offset).take (P.cellsOf f0.type)) = some y0 ∧
      DataW.trod enc P w base spare held n f1.type ((cs.drop f1.offset).take (P.cellsOf f1.type)) = some y1 ∧ DataW.trod enc P w base spare held n f2.type ((cs.drop f2.offset).take (P.cellsOf f2.type)) = some y2 ∧
      DataW.trod enc P w base spare held n f3.type ((cs.drop f3.offset).take (P.cellsOf f3.type)) = some y3 ∧ DataW.trod enc P w base spare held n f4.type ((cs.drop f4.offset).take (P.cellsOf f4.type)) = some y4 := by
  obtain ⟨xs, n, _, rfl, hl, hlen, hf⟩ := DataW.trod_struct ht h
  match xs, hlen with
  | [y0, y1, y2, y3, y4], _ => exact ⟨y0, y1, y2, y3, y4, n, by simp, hl, by simpa using hf 0 f0 rfl, by simpa using hf 1 f1 rfl, by simpa using hf 2 f2 rfl, by simpa using hf 3 f3 rfl, by simpa using hf 4 f4 rfl⟩
theorem open_nat0 {H : Type} {enc : TypeId × Value → H} {W : World} {base : Nat} {spare : Nat → Bool} {held : Bool} {fuel : Nat} {cs : List Value} {y : DataW H × List MemPlace}
    (hf : DataW.trod enc Try.prog W base spare held fuel 29 cs = some y) :
    ∃ (a : Option Addr) (c : Nat) (xs : List Int), cs = [.slice a xs.length c] ∧ RN W a c xs := by
  obtain ⟨a, n, c, rfl⟩ := slice_form Try.underlying29 hf
  have h : DataW.Trod enc Try.prog W base spare held 29 (.slice a n c) y.1 y.2 := ⟨fuel, by simpa [Value.cells] using hf⟩
  obtain ⟨xs, hl, hr, hx⟩ := open_row Try.underlying29 Try.underlying95 (by kernel_rfl) h
  subst hl
  exact ⟨a, c, xs, rfl, hr, lim_wf hx⟩
theorem open_rat0 {H : Type} {enc : TypeId × Value → H} {W : World} {base : Nat} {spare : Nat → Bool} {held : Bool} {fuel : Nat} {cs : List Value} {y : DataW H × List MemPlace}
    (hc : cs.length = 3) (hf : DataW.trod enc Try.prog W base spare held fuel 33 cs = some y) :
    ∃ (b : Bool) (A B : Option Addr) (c d : Nat) (xs ys : List Int), cs = [.bool b, .slice A xs.length c, .slice B ys.length d] ∧ RN W A c xs ∧ RN W B d ys := by
  obtain ⟨c0, c1, c2, rfl⟩ : ∃ c0 c1 c2, cs = [c0, c1, c2] := by
    match cs, hc with
    | [c0, c1, c2], _ => exact ⟨c0, c1, c2, rfl⟩
  obtain ⟨y0, y1, n, rfl, _, h0, h1⟩ := trod_struct2 Try.underlying33 hf
  simp only [cells_int, cells_nat, List.drop_succ_cons, List.drop_zero, List.take_succ_cons, List.take_zero] at h0 h1
  obtain ⟨z0, z1, m, rfl, _, k0, k1⟩ := trod_struct2 Try.underlying31 h0
  simp only [cells_bool, cells_nat, List.drop_succ_cons, List.drop_zero, List.take_succ_cons, List.take_zero] at k0 k1
  obtain ⟨b, hb, rfl⟩ := DataW.trod_bool Try.underlying4 k0
  obtain ⟨A, e1, xs, hA, hx⟩ := open_nat0 k1
  obtain ⟨B, e2, ys, hB, hy⟩ := open_nat0 h1
  injection hb with hb
  injection hA with hA
  injection hB with hB
  subst hb hA hB
  exact ⟨b, A, B, e1, e2, xs, ys, rfl, hx, hy⟩
theorem open_ratio0 {H : Type} {enc : TypeId × Value → H} {W : World} {r : Reach} {base b0 : Nat} {spare : Nat → Bool} {held : Bool} {v : Value} {d : DataW H} {ps : List MemPlace}
    (hv : Value.okWide Try.prog W r b0 33 v) (h : DataW.Trod enc Try.prog W base spare held 33 v d ps) :
    ∃ (b : Bool) (A B : Option Addr) (c e : Nat) (xs ys : List Int), v = .agg #[.bool b, .slice A xs.length c, .slice B ys.length e] ∧ RN W A c xs ∧ RN W B e ys := by
  obtain ⟨cs, rfl, hsz2⟩ := okWide_struct Try.underlying33 hv
  obtain ⟨fuel, hf⟩ := h
  obtain ⟨b, A, B, c, e, xs, ys, h1, h2⟩ := open_rat0 (cs := cs.toList) (by rw [Array.length_toList, hsz2]; exact cells_rat) (by simpa [Value.cells] using hf)
  refine ⟨b, A, B, c, e, xs, ys, ?_, h2⟩
  congr 1
  exact Array.ext' h1
/-- A scale that came in. -/
theorem open_linear {H : Type} {enc : TypeId × Value → H} {W : World} {r : Reach} {base b0 : Nat} {spare : Nat → Bool} {held : Bool} {v : Value} {d : DataW H} {ps : List MemPlace}
    (hv : Value.okWide Try.prog W r b0 35 v) (h : DataW.Trod enc Try.prog W base spare held 35 v d ps) :
    ∃ (la lb : Bool) (LA LD LB LE : Option Addr) (ca da cb db : Nat) (xa ya xb yb : List Int) (lo hi md : Int), v = .agg #[.bool la, .slice LA xa.length ca, .slice LD ya.length da, .bool lb, .slice LB xb.length cb, .slice LE yb.length db, .int .i64 lo, .int .i64 hi, .int .i64 md] ∧ RN W LA ca xa ∧ RN W LD da ya ∧ RN W LB cb xb ∧ RN W LE db yb ∧ (Lit.int .i64 lo).wf = true ∧ (Lit.int .i64 hi).wf = true ∧ (Lit.int .i64 md).wf = true := by
  obtain ⟨cs, rfl, hsz2⟩ := okWide_struct Try.underlying35 hv
  obtain ⟨fuel, hf⟩ := h
  have hf' : DataW.trod enc Try.prog W base spare held fuel 35 cs.toList = some (d, ps) := by simpa [Value.cells] using hf
  obtain ⟨c0, c1, c2, c3, c4, c5, c6, c7, c8, hcs⟩ : ∃ c0 c1 c2 c3 c4 c5 c6 c7 c8, cs.toList = [c0, c1, c2, c3, c4, c5, c6, c7, c8] := by
    have hl : cs.toList.length = 9 := by rw [Array.length_toList, hsz2]; exact cells_lin
    generalize cs.toList = l at hl
    match l, hl with
    | [c0, c1, c2, c3, c4, c5, c6, c7, c8], _ => exact ⟨c0, c1, c2, c3, c4, c5, c6, c7, c8, rfl⟩
  rw [hcs] at hf'
  obtain ⟨y0, y1, y2, y3, y4, n, _, _, h0, h1, h2, h3, h4⟩ := trod_struct5 Try.underlying35 hf'
  simp only [cells_rat, cells_i64, List.drop_succ_cons, List.drop_zero, List.take_succ_cons, List.take_zero] at h0 h1 h2 h3 h4
  obtain ⟨la, LA, LD, ca, da, xa, ya, e0, r1, r2⟩ := open_rat0 (by rfl) h0
  obtain ⟨lb, LB, LE, cb, db, xb, yb, e1, r3, r4⟩ := open_rat0 (by rfl) h1
  obtain ⟨lo, e2, _, w2⟩ := DataW.trod_int Try.underlying3 h2
  obtain ⟨hi, e3, _, w3⟩ := DataW.trod_int Try.underlying3 h3
  obtain ⟨md, e4, _, w4⟩ := DataW.trod_int Try.underlying3 h4
  refine ⟨la, lb, LA, LD, LB, LE, ca, da, cb, db, xa, ya, xb, yb, lo, hi, md, ?_, r1, r2, r3, r4, w2, w3, w4⟩
  congr 1
  apply Array.ext'
  rw [hcs]
  injection e0 with a0 e0
  injection e0 with a1 e0
  injection e0 with a2 _
  injection e1 with b0 e1
  injection e1 with b1 e1
  injection e1 with b2 _
  injection e2 with e2 _
  injection e3 with e3 _
  injection e4 with e4 _
  rw [a0, a1, a2, b0, b1, b2, e2, e3, e4]

end Go.Proofs.Ytgdlnmhpnlmofaa.M
