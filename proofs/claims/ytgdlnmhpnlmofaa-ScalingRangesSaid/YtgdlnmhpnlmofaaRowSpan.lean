/- Intervals that come in, whatever they weigh: opened. -/
import Derived.Test.YtgdlnmhpnlmofaaRowLin
namespace Go.Proofs.Ytgdlnmhpnlmofaa.M
set_option maxRecDepth 10000
open Go.ChangeShapes Go.WideShapes Go.ChangeAt Go.RowKit Go.Joins
set_option linter.unusedVariables false

theorem cells_span : Try.prog.cellsOf 42 = 6 := by kernel_rfl
/-- An interval that came in. -/
theorem open_span {H : Type} {enc : TypeId × Value → H} {W : World} {r : Reach} {base b0 : Nat} {spare : Nat → Bool} {held : Bool} {v : Value} {d : DataW H} {ps : List MemPlace}
    (hv : Value.okWide Try.prog W r b0 42 v) (h : DataW.Trod enc Try.prog W base spare held 42 v d ps) :
    ∃ (la lb : Bool) (LA LD LB LE : Option Addr) (ca da cb db : Nat) (xa ya xb yb : List Int), v = .agg #[.bool la, .slice LA xa.length ca, .slice LD ya.length da, .bool lb, .slice LB xb.length cb, .slice LE yb.length db] ∧ RN W LA ca xa ∧ RN W LD da ya ∧ RN W LB cb xb ∧ RN W LE db yb := by
  obtain ⟨cs, rfl, hsz2⟩ := okWide_struct Try.underlying42 hv
  obtain ⟨fuel, hf⟩ := h
  have hf' : DataW.trod enc Try.prog W base spare held fuel 42 cs.toList = some (d, ps) := by simpa [Value.cells] using hf
  obtain ⟨c0, c1, c2, c3, c4, c5, hcs⟩ : ∃ c0 c1 c2 c3 c4 c5, cs.toList = [c0, c1, c2, c3, c4, c5] := by
    have hl : cs.toList.length = 6 := by rw [Array.length_toList, hsz2]; exact cells_span
    generalize cs.toList = l at hl
    match l, hl with
    | [c0, c1, c2, c3, c4, c5], _ => exact ⟨c0, c1, c2, c3, c4, c5, rfl⟩
  rw [hcs] at hf'
  obtain ⟨y0, y1, n, _, _, h0, h1⟩ := trod_struct2 Try.underlying42 hf'
  simp only [cells_rat, List.drop_succ_cons, List.drop_zero, List.take_succ_cons, List.take_zero] at h0 h1
  obtain ⟨la, LA, LD, ca, da, xa, ya, e0, r1, r2⟩ := open_rat0 (by rfl) h0
  obtain ⟨lb, LB, LE, cb, db, xb, yb, e1, r3, r4⟩ := open_rat0 (by rfl) h1
  refine ⟨la, lb, LA, LD, LB, LE, ca, da, cb, db, xa, ya, xb, yb, ?_, r1, r2, r3, r4⟩
  congr 1
  apply Array.ext'
  rw [hcs]
  injection e0 with a0 e0
  injection e0 with a1 e0
  injection e0 with a2 _
  injection e1 with b0 e1
  injection e1 with b1 e1
  injection e1 with b2 _
  rw [a0, a1, a2, b0, b1, b2]

end Go.Proofs.Ytgdlnmhpnlmofaa.M
