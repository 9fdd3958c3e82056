/- append([]int{x}, l...): told in full. -/
import Derived.Test.YtocpncjmcaecoaaOwn
namespace Go.Proofs.Ytocpncjmcaecoaa.M
set_option maxRecDepth 10000
open Go.RowKit
set_option linter.unusedVariables false
theorem append_one {P : Program} (t ty e : TypeId) (i : TypeInfo) (k : IntKind) (ht : P.underlying t = some (.slice e)) (hi : P.info? e = some i) (hz : i.zero = some (.int k 0)) (hsz : i.size = 1)
    (W : World) (g e' : Nat) (x : Int) (hg : Bk W g e' k [x]) (A : Option Addr) (c : Nat) (ys : List Int) (h : Rk W k A c ys) (h0 : 0 < ys.length) (hy : ys.length ≤ 1000) (hb : i.bytes ≤ 1000) :
    ∃ (s : List Int) (W' : World), (Builtin.append_ #[t, t] ty #[.slice (some ⟨g, 0, none⟩) 1 1, .slice A ys.length c]).run P W = .ok (.slice (some ⟨W.heap.size, 0, none⟩) (1 + ys.length) (x :: ys ++ s).length) W' ∧ (x :: ys ++ s).length ≤ 9223372036854775807 ∧ Bk W' W.heap.size e k (x :: ys ++ s) ∧ Below W.heap.size W W' := by
  obtain ⟨h1, h2, h3⟩ := h
  obtain ⟨ad, rfl, _⟩ := h3 0 (by omega)
  have hn : (ys.map (Value.int k)).length = ys.length * i.size := by simp [hsz]
  have hc : ∀ j v, (ys.map (Value.int k))[j]? = some v → W.cell? (ad.add j) = some v := by
    intro j v hv
    rw [List.getElem?_map] at hv
    obtain ⟨y, hy', rfl⟩ := Option.map_eq_some_iff.1 hv
    obtain ⟨hj, rfl⟩ := List.getElem?_eq_some_iff.1 hy'
    obtain ⟨ad', e', hc'⟩ := h3 j hj
    cases e'
    rwa [dg_get hj] at hc'
  have hold : ∀ j v, [Value.int k x][j]? = some v → W.cell? ((⟨g, 0, none⟩ : Addr).add j) = some v := by
    intro j v hv
    match j, hv with
    | 0, hv =>
      injection hv with hv
      subst hv
      rw [add_at]
      exact (hg.cell (j := 0) (by simp)).1
    | j + 1, hv => simp at hv
  have hcap : Builtin.nextslicecap (1 + ys.length) 1 * i.bytes ≤ 281474976710656 := by
    have h4 := nextslicecap_le (need := 1 + ys.length) (old := 1) (by omega)
    have h5 := Nat.mul_le_mul h4 hb
    omega
  have hr := run_append_grow (P := P) W t ty e i _ ht hi hz ⟨g, 0, none⟩ 1 1 [Value.int k x] (by simp [hsz]) hold ad ys.length c _ hn hc (by omega) (by omega) hcap
  have hge := grownCap_ge W (1 + ys.length) 1 e
  have hle := grownCap_le_maxLen W (1 + ys.length) 1 e (by simp only [maxLen]; omega)
  simp only [maxLen] at hle
  have hlen : (x :: ys ++ List.replicate (grownCap W (1 + ys.length) 1 e - (1 + ys.length)) 0).length = grownCap W (1 + ys.length) 1 e := by simp; omega
  refine ⟨List.replicate (grownCap W (1 + ys.length) 1 e - (1 + ys.length)) 0, _, by rw [hlen]; exact hr, by rw [hlen]; exact hle, ?_, (below_drewN (Below.refl _ _) 1).alloc (Nat.le_refl _) _⟩
  have e1 : Builtin.zeroCells (Value.int k 0).cells (grownCap W (1 + ys.length) 1 e - (1 + ys.length)) = ((List.replicate (grownCap W (1 + ys.length) 1 e - (1 + ys.length)) 0).map (Value.int k)).toArray := by
    apply Array.ext
    · simp [Builtin.zeroCells, Value.cells]
    · intro i h1 h2
      simp [Builtin.zeroCells, Value.cells, Nat.mod_one]
  have e2 : ([Value.int k x].toArray ++ (ys.map (Value.int k)).toArray ++ ((List.replicate (grownCap W (1 + ys.length) 1 e - (1 + ys.length)) 0).map (Value.int k)).toArray) = ((x :: ys ++ List.replicate (grownCap W (1 + ys.length) 1 e - (1 + ys.length)) 0).map (Value.int k)).toArray := by simp
  rw [e1, e2]
  unfold Bk
  exact heap_new (W.drewN 1) _

end Go.Proofs.Ytocpncjmcaecoaa.M
