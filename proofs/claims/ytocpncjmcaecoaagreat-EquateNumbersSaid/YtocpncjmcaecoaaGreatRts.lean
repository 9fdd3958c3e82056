/- Several ratios in a slice; a block of the call's own that holds ratios. -/
import Derived.Test.YtocpncjmcaecoaaGreatEqC
namespace Go.Proofs.YtocpncjmcaecoaaGreat.M
set_option maxRecDepth 10000
open Go.RowKit
set_option linter.unusedVariables false
set_option linter.unusedSimpArgs false
/-- A ratio as it lies in memory. -/
structure Rt where
  b : Bool
  A : Option Addr
  c : Nat
  xs : List Int
  B : Option Addr
  d : Nat
  ys : List Int
def Rt.q (r : Rt) : Rat := qv r.b r.xs r.ys
/-- A slice of ratios that is read. -/
def Rs (w : World) (S : Option Addr) (c : Nat) (rs : List Rt) : Prop :=
  rs.length ≤ c ∧ c ≤ 9223372036854775807 ∧ ∀ j r, rs[j]? = some r → ∃ ad, S = some ad ∧ w.cell? (ad.add (j * 3)) = some (.bool r.b) ∧ w.cell? ((ad.add (j * 3)).add 1) = some (.slice r.A r.xs.length r.c) ∧ w.cell? ((ad.add (j * 3)).add 2) = some (.slice r.B r.ys.length r.d) ∧ RN w r.A r.c r.xs ∧ RN w r.B r.d r.ys
theorem Rs.below {w w1 : World} {S : Option Addr} {c : Nat} {rs : List Rt} (h : Rs w S c rs) (hb : Below w.heap.size w w1) : Rs w1 S c rs := by
  refine ⟨h.1, h.2.1, fun j r hj => ?_⟩
  obtain ⟨ad, e, h0, h1, h2, h3, h4⟩ := h.2.2 j r hj
  exact ⟨ad, e, (hb.cell (World.block_lt_of_cell? w _ h0)).trans h0, (hb.cell (World.block_lt_of_cell? w _ h1)).trans h1, (hb.cell (World.block_lt_of_cell? w _ h2)).trans h2, h3.below hb, h4.below hb⟩
theorem Rs.at {w : World} {S : Option Addr} {c : Nat} {rs : List Rt} (h : Rs w S c rs) {j : Nat} (hj : j < rs.length) : ∃ ad b A c xs B d ys, S = some ad ∧ rs[j]? = some ⟨b, A, c, xs, B, d, ys⟩ ∧ w.cell? (ad.add (j * 3)) = some (.bool b) ∧ w.cell? ⟨(ad.add (j * 3)).block, (ad.add (j * 3)).off + 1, none⟩ = some (.slice A xs.length c) ∧ w.cell? ⟨(ad.add (j * 3)).block, (ad.add (j * 3)).off + 2, none⟩ = some (.slice B ys.length d) ∧ RN w A c xs ∧ RN w B d ys := by
  obtain ⟨r, hr⟩ : ∃ r, rs[j]? = some r := ⟨_, List.getElem?_eq_getElem hj⟩
  obtain ⟨ad, e, h0, h1, h2, h3, h4⟩ := h.2.2 j r hr
  obtain ⟨b, A, c, xs, B, d, ys⟩ := r
  exact ⟨ad, b, A, c, xs, B, d, ys, e, hr, h0, h1, h2, h3, h4⟩
/-- A ratio's cells are the normal form of a fraction. -/
def nfR (r : Rt) (q : Rat) : Prop := r.b = decide (q.num < 0) ∧ r.xs = limbs q.num.natAbs ∧ r.ys = limbs q.den
theorem nfR.q {r : Rt} {q : Rat} (h : nfR r q) : r.q = q := by unfold Rt.q; exact qv_nf h.1 h.2.1 h.2.2
/-- A block that holds ratios and no more. -/
def Tq (w : World) (g : Nat) (rs : List Rt) : Prop := ∃ cs : Array Value, Vr w g 28 cs ∧ cs.size = 3 * rs.length ∧ ∀ j r, rs[j]? = some r → cs[j * 3]? = some (.bool r.b) ∧ cs[j * 3 + 1]? = some (.slice r.A r.xs.length r.c) ∧ cs[j * 3 + 2]? = some (.slice r.B r.ys.length r.d)
theorem Tq.lt {w : World} {g : Nat} {rs : List Rt} (h : Tq w g rs) : g < w.heap.size := by
  obtain ⟨cs, h, _⟩ := h
  exact h.lt
theorem Tq.below {w w1 : World} {g : Nat} {rs : List Rt} (h : Tq w g rs) (hb : Below w.heap.size w w1) : Tq w1 g rs := by
  obtain ⟨cs, h1, h2⟩ := h
  exact ⟨cs, h1.below' hb, h2⟩
theorem Tq.cells {w : World} {g : Nat} {rs : List Rt} (h : Tq w g rs) {k : Nat} (hk : k < rs.length) : (∃ v, w.cell? ⟨g, k * 3, none⟩ = some v) ∧ (∃ v, w.cell? ⟨g, k * 3 + 1, none⟩ = some v) ∧ (∃ v, w.cell? ⟨g, k * 3 + 2, none⟩ = some v) ∧ w.frozen? ⟨g, k * 3, none⟩ = false ∧ w.frozen? ⟨g, k * 3 + 1, none⟩ = false ∧ w.frozen? ⟨g, k * 3 + 2, none⟩ = false := by
  obtain ⟨cs, h1, h2, h3⟩ := h
  obtain ⟨c0, c1, c2⟩ := h3 k _ (List.getElem?_eq_getElem hk)
  exact ⟨⟨_, h1.cell _ c0⟩, ⟨_, h1.cell _ c1⟩, ⟨_, h1.cell _ c2⟩, h1.thaw _, h1.thaw _, h1.thaw _⟩
theorem Tq.nd {rs : List Rt} {cs : Array Value} (h2 : cs.size = 3 * rs.length) (h3 : ∀ j r, rs[j]? = some r → cs[j * 3]? = some (.bool r.b) ∧ cs[j * 3 + 1]? = some (.slice r.A r.xs.length r.c) ∧ cs[j * 3 + 2]? = some (.slice r.B r.ys.length r.d)) : NoDigits cs := by
  intro m n hm
  have hl : m < cs.size := (Array.getElem?_eq_some_iff.1 hm).1
  have hj : m / 3 < rs.length := by omega
  obtain ⟨c0, c1, c2⟩ := h3 (m / 3) _ (List.getElem?_eq_getElem hj)
  rcases (show m % 3 = 0 ∨ m % 3 = 1 ∨ m % 3 = 2 by omega) with h | h | h
  · rw [show m = m / 3 * 3 by omega, c0] at hm; cases hm
  · rw [show m = m / 3 * 3 + 1 by omega, c1] at hm; cases hm
  · rw [show m = m / 3 * 3 + 2 by omega, c2] at hm; cases hm
theorem set3_get {cs : Array Value} {a : Nat} {v0 v1 v2 : Value} (ha : a + 2 < cs.size) (j : Nat) : (((cs.setIfInBounds a v0).setIfInBounds (a + 1) v1).setIfInBounds (a + 2) v2)[j]? = if j = a then some v0 else if j = a + 1 then some v1 else if j = a + 2 then some v2 else cs[j]? := by
  simp only [Array.getElem?_setIfInBounds, Array.size_setIfInBounds]
  by_cases h0 : j = a
  · subst h0
    rw [if_neg (by omega), if_neg (by omega), if_pos rfl, if_pos (by omega), if_pos rfl]
  · by_cases h1 : j = a + 1
    · subst h1
      rw [if_neg (by omega), if_pos rfl, if_pos (by omega), if_neg h0, if_pos rfl]
    · by_cases h2 : j = a + 2
      · subst h2
        rw [if_pos rfl, if_pos (by omega), if_neg h0, if_neg h1, if_pos rfl]
      · rw [if_neg (fun h => h2 h.symm), if_neg (fun h => h1 h.symm), if_neg (fun h => h0 h.symm), if_neg h0, if_neg h1, if_neg h2]
/-- A ratio is stored. -/
theorem Tq.set {w : World} {g : Nat} {rs : List Rt} (h : Tq w g rs) {k : Nat} (hk : k < rs.length) (r : Rt) :
    Tq (((w.setCell ⟨g, k * 3, none⟩ (.bool r.b)).setCell ⟨g, k * 3 + 1, none⟩ (.slice r.A r.xs.length r.c)).setCell ⟨g, k * 3 + 2, none⟩ (.slice r.B r.ys.length r.d)) g (rs.set k r) := by
  obtain ⟨cs, h1, h2, h3⟩ := h
  refine ⟨_, ((h1.set (k * 3) _).set (k * 3 + 1) _).set (k * 3 + 2) _, by simp only [Array.size_setIfInBounds, List.length_set]; exact h2, fun j s hj => ?_⟩
  simp only [set3_get (show k * 3 + 2 < cs.size by omega)]
  rw [List.getElem?_set] at hj
  by_cases e : k = j
  · subst e
    rw [if_pos rfl, if_pos hk] at hj
    injection hj with hj
    subst hj
    refine ⟨by rw [if_pos rfl], by rw [if_neg (by omega), if_pos rfl], by rw [if_neg (by omega), if_neg (by omega), if_pos rfl]⟩
  · rw [if_neg e] at hj
    obtain ⟨c0, c1, c2⟩ := h3 j s hj
    refine ⟨by rw [if_neg (by omega), if_neg (by omega), if_neg (by omega)]; exact c0, by rw [if_neg (by omega), if_neg (by omega), if_neg (by omega)]; exact c1, by rw [if_neg (by omega), if_neg (by omega), if_neg (by omega)]; exact c2⟩
/-- Numbers stay as they are. -/
theorem Tq.keep {w : World} {g : Nat} {rs : List Rt} (h : Tq w g rs) {A : Option Addr} {c : Nat} {xs : List Int} (hx : RN w A c xs) {k : Nat} (hk : k < rs.length) (r : Rt) :
    RN (((w.setCell ⟨g, k * 3, none⟩ (.bool r.b)).setCell ⟨g, k * 3 + 1, none⟩ (.slice r.A r.xs.length r.c)).setCell ⟨g, k * 3 + 2, none⟩ (.slice r.B r.ys.length r.d)) A c xs := by
  obtain ⟨cs, h1, h2, h3⟩ := h
  have nd0 := Tq.nd h2 h3
  have ndset : ∀ (cs : Array Value) (j : Nat) (v : Value), NoDigits cs → (∀ n, v ≠ .int .u32 n) → NoDigits (cs.setIfInBounds j v) := fun cs j v hn hv m n hm => by
    rw [Array.getElem?_setIfInBounds] at hm
    split at hm
    · split at hm
      · injection hm with hm; exact hv n hm
      · cases hm
    · exact hn m n hm
  have r1 := hx.apart h1 nd0 (k * 3) (.bool r.b)
  have v1 := h1.set (k * 3) (.bool r.b)
  have nd1 := ndset cs (k * 3) (.bool r.b) nd0 (fun n h => by cases h)
  have r2 := r1.apart v1 nd1 (k * 3 + 1) (.slice r.A r.xs.length r.c)
  have v2 := v1.set (k * 3 + 1) (.slice r.A r.xs.length r.c)
  have nd2 := ndset _ (k * 3 + 1) (.slice r.A r.xs.length r.c) nd1 (fun n h => by cases h)
  exact r2.apart v2 nd2 (k * 3 + 2) (.slice r.B r.ys.length r.d)
def Rt.nought : Rt := ⟨false, none, 0, [], none, 0, []⟩
theorem Tq.made (w : World) (n : Nat) : Tq (w.alloc (.cells (madeCells #[.bool false, .slice none 0 0, .slice none 0 0] (n * 3)) 28 (0, 0))) w.heap.size (List.replicate n Rt.nought) := by
  refine ⟨_, Vr.new _ _ _, by rw [size_madeCells, List.length_replicate]; omega, fun j r hj => ?_⟩
  obtain ⟨hl, rfl⟩ : j < n ∧ r = Rt.nought := by
    rw [List.getElem?_replicate] at hj
    split at hj
    · injection hj with hj
      exact ⟨by assumption, hj.symm⟩
    · cases hj
  have key : ∀ i, i < n * 3 → (madeCells #[Value.bool false, .slice none 0 0, .slice none 0 0] (n * 3))[i]? = some (#[Value.bool false, .slice none 0 0, .slice none 0 0][i % 3]!) := fun i hi => by
    unfold madeCells
    rw [Array.getElem?_map, Array.getElem?_range, if_pos hi]
    rfl
  refine ⟨?_, ?_, ?_⟩
  · rw [key _ (by omega), show j * 3 % 3 = 0 by omega]; rfl
  · rw [key _ (by omega), show (j * 3 + 1) % 3 = 1 by omega]; rfl
  · rw [key _ (by omega), show (j * 3 + 2) % 3 = 2 by omega]; rfl
/-- The whole block as a slice that is read. -/
theorem Tq.reads {w : World} {g : Nat} {rs : List Rt} (h : Tq w g rs) (hr : ∀ (j : Nat) (r : Rt), rs[j]? = some r → RN w r.A r.c r.xs ∧ RN w r.B r.d r.ys) (hl : rs.length ≤ 9223372036854775807) : Rs w (some ⟨g, 0, none⟩) rs.length rs := by
  obtain ⟨cs, h1, h2, h3⟩ := h
  refine ⟨Nat.le_refl _, hl, fun j r hj => ?_⟩
  obtain ⟨c0, c1, c2⟩ := h3 j r hj
  obtain ⟨n1, n2⟩ := hr j r hj
  refine ⟨_, rfl, ?_, ?_, ?_, n1, n2⟩
  · rw [add_at]; exact h1.cell _ c0
  · rw [add_at]
    show w.cell? ⟨g, j * 3 + 1, none⟩ = _
    exact h1.cell _ c1
  · rw [add_at]
    show w.cell? ⟨g, j * 3 + 2, none⟩ = _
    exact h1.cell _ c2
theorem info_rat : (Tryz.prog.info? 28).map (fun i => (i.zero, i.size, i.bytes)) = some (some (.agg #[.bool false, .slice none 0 0, .slice none 0 0]), 3, 56) := by kernel_rfl
theorem make_rats (n : Nat) (hn : n ≤ 1000) : ∀ W : World, (Instr.makeSlice 37 (.int .i64 (n : Int)) (.int .i64 (n : Int))).run Tryz.prog W = .ok (.slice (some ⟨W.heap.size, 0, none⟩) n n) (W.alloc (.cells (madeCells #[.bool false, .slice none 0 0, .slice none 0 0] (n * 3)) 28 (0, 0))) := by
  intro W
  obtain ⟨i, hi, hp⟩ := Option.map_eq_some_iff.1 info_rat
  simp only [Prod.mk.injEq] at hp
  obtain ⟨hz, hsz, hby⟩ := hp
  have h := run_make (P := Tryz.prog) W 37 28 i _ Tryz.underlying37 hi hz .i64 .i64 (n : Int) (n : Int) (by omega) (Int.le_refl _) (by rw [hby]; omega) (by omega)
  rw [hsz, Int.toNat_natCast] at h
  exact h

end Go.Proofs.YtocpncjmcaecoaaGreat.M
