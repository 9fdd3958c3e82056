/- Ratios that come in: opened. -/
import Derived.Test.YtocpncjmcaecoaaGreatRowKit
import Derived.Lib.SmallJoins
namespace Go.Proofs.YtocpncjmcaecoaaGreat.M
set_option maxRecDepth 10000
open Go.ChangeShapes Go.WideShapes Go.ChangeAt Go.RowKit Go.Joins
set_option linter.unusedVariables false

theorem cells_int : Tryz.prog.cellsOf 26 = 2 := by kernel_rfl
theorem cells_nat : Tryz.prog.cellsOf 24 = 1 := by kernel_rfl
theorem cells_rat : Tryz.prog.cellsOf 28 = 3 := by kernel_rfl
theorem cells_bool : Tryz.prog.cellsOf 4 = 1 := by kernel_rfl

/-- Nothing in it weighs more than a machine holds. -/
def Light {H : Type} (t : TypeId) (d : DataW H) : Prop := ∀ m ∈ d.weights Tryz.prog t, m ≤ reachBytes

theorem weights_agg {H : Type} {P : Program} {t : TypeId} {fs : Array Field} {parts : List (DataW H)} (hu : P.underlying t = some (.struct fs)) : (DataW.agg parts).weights P t = DataW.weightsEach P (fs.toList.map (·.type)) parts := by
  simp [DataW.weights, hu]
theorem open_nat {H : Type} {enc : TypeId × Value → H} {W : World} {base : Nat} {spare : Nat → Bool} {held : Bool} {fuel : Nat} {cs : List Value} {y : DataW H × List MemPlace}
    (hf : DataW.trod enc Tryz.prog W base spare held fuel 24 cs = some y) (hw : Light 24 y.1) :
    ∃ (a : Option Addr) (n c : Nat) (xs : List Int), cs = [.slice a n c] ∧ xs.length = n ∧ Rk W .u32 a c xs ∧ (∀ x ∈ xs, (Lit.int .u32 x).wf = true) ∧ n * 4 ≤ 140737488351232 := by
  obtain ⟨a, n, c, rfl⟩ := slice_form Tryz.underlying24 hf
  have h : DataW.Trod enc Tryz.prog W base spare held 24 (.slice a n c) y.1 y.2 := ⟨fuel, by simpa [Value.cells] using hf⟩
  obtain ⟨xs, hl, hr, hx⟩ := open_row Tryz.underlying24 Tryz.underlying83 (by kernel_rfl) h
  refine ⟨a, n, c, xs, rfl, hl, hr, hx, ?_⟩
  have hsz : (DataW.weightsEach Tryz.prog [24] [y.1]).all (· ≤ reachBytes) = true := by
    refine List.all_eq_true.2 fun m hm => decide_eq_true ?_
    simp only [DataW.weightsEach, List.append_nil] at hm
    exact hw m hm
  exact sized_row hsz (j := 0) (t := 24) rfl rfl Tryz.underlying24 Tryz.underlying83 (by kernel_rfl) (by kernel_rfl) h
theorem open_rat {H : Type} {enc : TypeId × Value → H} {W : World} {base : Nat} {spare : Nat → Bool} {held : Bool} {fuel : Nat} {cs : List Value} {y : DataW H × List MemPlace}
    (hc : cs.length = 3) (hf : DataW.trod enc Tryz.prog W base spare held fuel 28 cs = some y) (hw : Light 28 y.1) :
    ∃ (b : Bool) (A B : Option Addr) (c d : Nat) (xs ys : List Int), cs = [.bool b, .slice A xs.length c, .slice B ys.length d] ∧ Rk W .u32 A c xs ∧ Rk W .u32 B d ys ∧ (∀ x ∈ xs, (Lit.int .u32 x).wf = true) ∧ (∀ x ∈ ys, (Lit.int .u32 x).wf = true) ∧ xs.length * 4 ≤ 140737488351232 ∧ ys.length * 4 ≤ 140737488351232 := by
  obtain ⟨c0, c1, c2, rfl⟩ : ∃ c0 c1 c2, cs = [c0, c1, c2] := by
    match cs, hc with
    | [c0, c1, c2], _ => exact ⟨c0, c1, c2, rfl⟩
  obtain ⟨y0, y1, n, rfl, _, h0, h1⟩ := trod_struct2 Tryz.underlying28 hf
  simp only [cells_int, cells_nat, List.drop_succ_cons, List.drop_zero, List.take_succ_cons, List.take_zero] at h0 h1
  obtain ⟨z0, z1, m, rfl, _, k0, k1⟩ := trod_struct2 Tryz.underlying26 h0
  simp only [cells_bool, cells_nat, List.drop_succ_cons, List.drop_zero, List.take_succ_cons, List.take_zero] at k0 k1
  obtain ⟨b, hb, rfl⟩ := DataW.trod_bool Tryz.underlying4 k0
  have hw' : ∀ q ∈ DataW.weightsEach Tryz.prog [26, 24] [.agg [(.lit (.bool b) : DataW H), z1.1], y1.1], q ≤ reachBytes := fun q hq => hw q (by
    rw [weights_agg Tryz.underlying28]
    exact hq)
  obtain ⟨A, n1, e1, xs, hA, hx1, hx2, hx3, hx4⟩ := open_nat k1 (fun q hq => hw' q (DataW.weights_mem_each (j := 0) (t := 26) (d := .agg [(.lit (.bool b) : DataW H), z1.1]) rfl rfl q (by
    rw [weights_agg Tryz.underlying26]
    exact DataW.weights_mem_each (j := 1) (t := 24) (d := z1.1) rfl rfl q hq)))
  obtain ⟨B, n2, e2, ys, hB, hy1, hy2, hy3, hy4⟩ := open_nat h1 (fun q hq => hw' q (DataW.weights_mem_each (j := 1) (t := 24) (d := y1.1) rfl rfl q hq))
  injection hb with hb
  injection hA with hA
  injection hB with hB
  subst hb hA hB hx1 hy1
  exact ⟨b, A, B, e1, e2, xs, ys, rfl, hx2, hy2, hx3, hy3, hx4, hy4⟩

/-- A ratio that came in. -/
theorem open_ratio {H : Type} {enc : TypeId × Value → H} {W : World} {r : Reach} {base b0 : Nat} {spare : Nat → Bool} {held : Bool} {v : Value} {d : DataW H} {ps : List MemPlace} {ts : List TypeId} {ds : List (DataW H)} {j : Nat}
    (hv : Value.okWide Tryz.prog W r b0 28 v) (h : DataW.Trod enc Tryz.prog W base spare held 28 v d ps)
    (hsz : (DataW.weightsEach Tryz.prog ts ds).all (· ≤ reachBytes) = true) (ht : ts[j]? = some 28) (hd : ds[j]? = some d) :
    ∃ (b : Bool) (A B : Option Addr) (c d : Nat) (xs ys : List Int), v = .agg #[.bool b, .slice A xs.length c, .slice B ys.length d] ∧ Rk W .u32 A c xs ∧ Rk W .u32 B d ys ∧ (∀ x ∈ xs, (Lit.int .u32 x).wf = true) ∧ (∀ x ∈ ys, (Lit.int .u32 x).wf = true) ∧ xs.length * 4 ≤ 140737488351232 ∧ ys.length * 4 ≤ 140737488351232 := by
  obtain ⟨cs, rfl, hsz2⟩ := okWide_struct Tryz.underlying28 hv
  obtain ⟨fuel, hf⟩ := h
  have hl : Light 28 (d, ps).1 := fun m hm => by
    have := List.all_eq_true.1 hsz m (DataW.weights_mem_each ht hd m hm)
    simpa using this
  obtain ⟨b, A, B, c, e, xs, ys, h1, h2⟩ := open_rat (cs := cs.toList) (by rw [Array.length_toList, hsz2]; exact cells_rat) (by simpa [Value.cells] using hf) hl
  refine ⟨b, A, B, c, e, xs, ys, ?_, h2⟩
  congr 1
  exact Array.ext' h1
theorem lim_wf {xs : List Int} (h : ∀ x ∈ xs, (Lit.int .u32 x).wf = true) : Lim xs := Lim.of_mem fun x hx => wf_u32 (h x hx)

end Go.Proofs.YtocpncjmcaecoaaGreat.M
