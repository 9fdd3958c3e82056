/- A slice of ratios that came in: opened. -/
import Derived.Test.YtgdlnmhpnlmofaaRowLin
import Derived.Test.YtgdlnmhpnlmofaaMany
import Derived.Deep.Slices
namespace Go.Proofs.Ytgdlnmhpnlmofaa.M
set_option maxRecDepth 10000
open Go.ChangeShapes Go.WideShapes Go.ChangeAt Go.RowKit Go.Joins
set_option linter.unusedVariables false
instance : Inhabited Rt := ⟨⟨false, none, 0, [], none, 0, []⟩⟩
theorem open_ratios {H : Type} {enc : TypeId × Value → H} {W : World} {base : Nat} {spare : Nat → Bool} {held : Bool} {a : Option Addr} {len cap : Nat} {d : DataW H} {ps : List MemPlace}
    (h : DataW.Trod enc Try.prog W base spare held 50 (.slice a len cap) d ps) : ∃ rs : List Rt, rs.length = len ∧ Rs W a cap rs := by
  obtain ⟨fuel, hf⟩ := h
  rcases Go.Deep.open_slice Try.underlying50 hf with ⟨hcs, _⟩ | ⟨ad, len', cap', m, n, D, Pl, hcs, hb, hl, hm, hmm, hx, hi⟩
  · simp [Value.cells] at hcs
    obtain ⟨rfl, rfl, rfl⟩ := hcs
    exact ⟨[], rfl, Nat.le_refl _, by omega, fun j r hj => by simp at hj⟩
  · simp [Value.cells] at hcs
    obtain ⟨rfl, rfl, rfl⟩ := hcs
    have hlm : len ≤ m := by rw [hmm]; split <;> omega
    obtain ⟨f, hf2⟩ := Go.Deep.choose_lt (α := Rt) (n := len) (p := fun j r => W.cell? (ad.add (j * 3)) = some (.bool r.b) ∧ W.cell? ((ad.add (j * 3)).add 1) = some (.slice r.A r.xs.length r.c) ∧ W.cell? ((ad.add (j * 3)).add 2) = some (.slice r.B r.ys.length r.d) ∧ RN W r.A r.c r.xs ∧ RN W r.B r.d r.ys) (fun j hj => by
      obtain ⟨cs', hc, ht⟩ := hi j (by omega)
      rw [cells_rat] at hc
      obtain ⟨_, hcl, hat⟩ := World.cells?_some hc
      obtain ⟨b, A, B, c, e, xs, ys, rfl, hr, hq⟩ := open_rat0 hcl ht
      exact ⟨⟨b, A, c, xs, B, e, ys⟩, hat 0 (by omega), hat 1 (by omega), hat 2 (by omega), hr, hq⟩)
    refine ⟨(List.range len).map f, by simp, by simpa using hl, by simpa [maxLen] using hm, fun j r hj => ?_⟩
    rw [List.getElem?_map] at hj
    obtain ⟨i, hi2, hi3⟩ := Option.map_eq_some_iff.1 hj
    have hjl := (List.getElem?_eq_some_iff.1 hi2).1
    rw [List.length_range] at hjl
    rw [List.getElem?_range hjl] at hi2
    injection hi2 with hi2
    subst hi2 hi3
    obtain ⟨h0, h1, h2, h3, h4⟩ := hf2 j hjl
    exact ⟨ad, rfl, h0, h1, h2, h3, h4⟩

end Go.Proofs.Ytgdlnmhpnlmofaa.M
