/- A slice of ratios that came in: opened, with the sizes of its numbers. -/
import Derived.Test.YtocpncjmcaecoaaGreatRowRat
import Derived.Test.YtocpncjmcaecoaaGreatRts
import Derived.Deep.Slices
namespace Go.Proofs.YtocpncjmcaecoaaGreat.M
set_option maxRecDepth 10000
open Go.ChangeShapes Go.WideShapes Go.ChangeAt Go.RowKit Go.Joins
set_option linter.unusedVariables false
instance : Inhabited Rt := ⟨⟨false, none, 0, [], none, 0, []⟩⟩
theorem weightsAll_mem {H : Type} {P : Program} {e : TypeId} : ∀ {l : List (DataW H)} {d : DataW H}, d ∈ l → ∀ n ∈ d.weights P e, n ∈ DataW.weightsAll P e l
  | d' :: r, d, hd, n, hn => by
    simp only [DataW.weightsAll, List.mem_append]
    rcases List.mem_cons.1 hd with rfl | h
    · exact Or.inl hn
    · exact Or.inr (weightsAll_mem h n hn)
theorem open_ratiosZ {H : Type} {enc : TypeId × Value → H} {W : World} {base : Nat} {spare : Nat → Bool} {held : Bool} {a : Option Addr} {len cap : Nat} {d : DataW H} {ps : List MemPlace} {ts : List TypeId} {ds : List (DataW H)} {q : Nat}
    (h : DataW.Trod enc Tryz.prog W base spare held 37 (.slice a len cap) d ps)
    (hsz : (DataW.weightsEach Tryz.prog ts ds).all (· ≤ reachBytes) = true) (ht : ts[q]? = some 37) (hd : ds[q]? = some d) :
    ∃ rs : List Rt, rs.length = len ∧ Rs W a cap rs ∧ ∀ (j : Nat) (r : Rt), rs[j]? = some r → r.xs.length * 4 ≤ 140737488351232 ∧ r.ys.length * 4 ≤ 140737488351232 := by
  obtain ⟨fuel, hf⟩ := h
  rcases Go.Deep.open_slice Tryz.underlying37 hf with ⟨hcs, _⟩ | ⟨ad, len', cap', m, n, D, Pl, hcs, hb, hl, hm, hmm, hx, hi⟩
  · simp [Value.cells] at hcs
    obtain ⟨rfl, rfl, rfl⟩ := hcs
    exact ⟨[], rfl, ⟨Nat.le_refl _, by omega, fun j r hj => by simp at hj⟩, fun j r hj => by simp at hj⟩
  · simp [Value.cells] at hcs
    obtain ⟨rfl, rfl, rfl⟩ := hcs
    have hlm : len ≤ m := by rw [hmm]; split <;> omega
    obtain ⟨hx, _⟩ := Prod.mk.inj hx
    have hlight : ∀ j, j < len → Light 28 (D j) := fun j hj w hw => by
      refine of_decide_eq_true (List.all_eq_true.1 hsz _ (DataW.weights_mem_each ht hd _ ?_))
      rw [hx]
      simp only [DataW.weights, Tryz.underlying37, List.mem_cons, List.mem_append]
      exact Or.inr (Or.inl (weightsAll_mem (List.mem_map.2 ⟨j, List.mem_range.2 hj, rfl⟩) _ hw))
    obtain ⟨f, hf2⟩ := Go.Deep.choose_lt (α := Rt) (n := len) (p := fun j r => (W.cell? (ad.add (j * 3)) = some (.bool r.b) ∧ W.cell? ((ad.add (j * 3)).add 1) = some (.slice r.A r.xs.length r.c) ∧ W.cell? ((ad.add (j * 3)).add 2) = some (.slice r.B r.ys.length r.d) ∧ RN W r.A r.c r.xs ∧ RN W r.B r.d r.ys) ∧ r.xs.length * 4 ≤ 140737488351232 ∧ r.ys.length * 4 ≤ 140737488351232) (fun j hj => by
      obtain ⟨cs', hc, ht'⟩ := hi j (by omega)
      rw [cells_rat] at hc
      obtain ⟨_, hcl, hat⟩ := World.cells?_some hc
      obtain ⟨b, A, B, c, e, xs, ys, rfl, hr, hq, hwx, hwy, hsx, hsy⟩ := open_rat hcl ht' (hlight j hj)
      exact ⟨⟨b, A, c, xs, B, e, ys⟩, ⟨hat 0 (by omega), hat 1 (by omega), hat 2 (by omega), ⟨hr, lim_wf hwx⟩, ⟨hq, lim_wf hwy⟩⟩, hsx, hsy⟩)
    have key : ∀ (j : Nat) (r : Rt), ((List.range len).map f)[j]? = some r → j < len ∧ r = f j := fun j r hj => by
      rw [List.getElem?_map] at hj
      obtain ⟨i, hi2, hi3⟩ := Option.map_eq_some_iff.1 hj
      have hjl := (List.getElem?_eq_some_iff.1 hi2).1
      rw [List.length_range] at hjl
      rw [List.getElem?_range hjl] at hi2
      injection hi2 with hi2
      subst hi2 hi3
      exact ⟨hjl, rfl⟩
    refine ⟨(List.range len).map f, by simp, ⟨by simpa using hl, by simpa [maxLen] using hm, fun j r hj => ?_⟩, fun j r hj => ?_⟩
    · obtain ⟨hjl, rfl⟩ := key j r hj
      obtain ⟨⟨h0, h1, h2, h3, h4⟩, _⟩ := hf2 j hjl
      exact ⟨ad, rfl, h0, h1, h2, h3, h4⟩
    · obtain ⟨hjl, rfl⟩ := key j r hj
      exact (hf2 j hjl).2

end Go.Proofs.YtocpncjmcaecoaaGreat.M
