/- Ratios appended to a row of the call's own, told in full. -/
import Derived.Test.YtocpncjmcaecoaaGreatRts
import Derived.Test.YtocpncjmcaecoaaGreatOwn
namespace Go.Proofs.YtocpncjmcaecoaaGreat.M
set_option maxRecDepth 10000
open Go.RowKit
set_option linter.unusedVariables false
set_option linter.unusedSimpArgs false
/-- No digit is among these cells. -/
def NDL (l : List Value) : Prop := ∀ v ∈ l, ∀ n, v ≠ .int .u32 n
theorem NDL.nd {cs : Array Value} (h : NDL cs.toList) : NoDigits cs := by
  intro j n hj
  have hm : (.int .u32 n : Value) ∈ cs := Array.mem_of_getElem? hj
  exact h _ (Array.mem_toList_iff.2 hm) n rfl
theorem NDL.of {cs : Array Value} (h : NoDigits cs) : NDL cs.toList := by
  intro v hv n e
  subst e
  obtain ⟨j, hj, he⟩ := List.getElem_of_mem hv
  refine h j n ?_
  rw [← Array.getElem?_toList, List.getElem?_eq_getElem hj, he]
theorem NDL.append {a b : List Value} (h1 : NDL a) (h2 : NDL b) : NDL (a ++ b) := fun v hv => by
  rcases List.mem_append.1 hv with h | h
  · exact h1 v h
  · exact h2 v h
theorem NDL.take {a : List Value} (h : NDL a) (n : Nat) : NDL (a.take n) := fun v hv => h v (List.mem_of_mem_take hv)
theorem NDL.drop {a : List Value} (h : NDL a) (n : Nat) : NDL (a.drop n) := fun v hv => h v (List.mem_of_mem_drop hv)
/-- A ratio's cells. -/
def rtCells (r : Rt) : List Value := [.bool r.b, .slice r.A r.xs.length r.c, .slice r.B r.ys.length r.d]
def flatR (rs : List Rt) : List Value := rs.flatMap rtCells
theorem flatR_snoc (rs : List Rt) (r : Rt) : flatR (rs ++ [r]) = flatR rs ++ rtCells r := by simp [flatR]
theorem flatR_len : ∀ rs : List Rt, (flatR rs).length = rs.length * 3
  | [] => rfl
  | r :: rs => by
    have h := flatR_len rs
    unfold flatR at h ⊢
    rw [List.flatMap_cons, List.length_append, h, List.length_cons]
    show 3 + _ = _
    omega
theorem flatR_get : ∀ {rs : List Rt} {j : Nat} {r : Rt}, rs[j]? = some r → (flatR rs)[j * 3]? = some (.bool r.b) ∧ (flatR rs)[j * 3 + 1]? = some (.slice r.A r.xs.length r.c) ∧ (flatR rs)[j * 3 + 2]? = some (.slice r.B r.ys.length r.d)
  | [], j, r, h => by simp at h
  | s :: rs, 0, r, h => by
    injection h with h
    subst h
    exact ⟨rfl, rfl, rfl⟩
  | s :: rs, j + 1, r, h => by
    have h1 := flatR_get (rs := rs) (j := j) (r := r) h
    have key : ∀ k, (flatR (s :: rs))[k + 3]? = (flatR rs)[k]? := fun k => by
      unfold flatR
      rw [List.flatMap_cons]
      exact List.getElem?_append_right (l₁ := rtCells s) (by show 3 ≤ k + 3; omega)
    refine ⟨?_, ?_, ?_⟩
    · rw [show (j + 1) * 3 = j * 3 + 3 by omega, key]; exact h1.1
    · rw [show (j + 1) * 3 + 1 = j * 3 + 1 + 3 by omega, key]; exact h1.2.1
    · rw [show (j + 1) * 3 + 2 = j * 3 + 2 + 3 by omega, key]; exact h1.2.2
theorem ndl_rt (r : Rt) : NDL (rtCells r) := by
  intro v hv n
  simp only [rtCells, List.mem_cons, List.not_mem_nil, or_false] at hv
  rcases hv with rfl | rfl | rfl <;> intro h <;> cases h
theorem ndl_flat (rs : List Rt) : NDL (flatR rs) := by
  intro v hv
  unfold flatR at hv
  obtain ⟨r, _, h⟩ := List.mem_flatMap.1 hv
  exact ndl_rt r v h
theorem ndl_zero (n : Nat) : NDL (Builtin.zeroCells #[.bool false, .slice none 0 0, .slice none 0 0] n).toList := by
  refine NDL.of fun j k hj => ?_
  unfold Builtin.zeroCells at hj
  rw [Array.getElem?_map] at hj
  obtain ⟨i, _, hi⟩ := Option.map_eq_some_iff.1 hj
  have h3 : ∀ m, m < 3 → (#[Value.bool false, .slice none 0 0, .slice none 0 0] : Array Value)[m]! ≠ .int .u32 k := by
    intro m hm
    match m, hm with
    | 0, _ => intro h; cases h
    | 1, _ => intro h; cases h
    | 2, _ => intro h; cases h
  have := h3 (i % 3) (Nat.mod_lt _ (by decide))
  exact this (by simpa using hi)
/-- A row of the call's own that holds these ratios, with no digit in its block. -/
def OwnQ (w : World) (base : Nat) (v : Value) (rs : List Rt) : Prop :=
  w.ownsRow base 28 3 v rs.length (flatR rs) ∧ ∀ g cur, v.ownBlock = some g → w.heap[g]? = some (.cells cur 28 (0, 0)) → NoDigits cur
theorem OwnQ.nil (w : World) (base : Nat) : OwnQ w base (.slice none 0 0) [] := ⟨World.ownsRow_nil _ _ _ 3, fun g cur h => by cases h⟩
theorem OwnQ.below {w w1 : World} {base : Nat} {v : Value} {rs : List Rt} (h : OwnQ w base v rs) (hb : Below w.heap.size w w1) : OwnQ w1 base v rs := by
  refine ⟨World.ownsRow.kept h.1 (row := none) ⟨hb.os, hb.tape, hb.output, hb.size, fun i hi _ => hb.block i hi⟩ (by cases v.ownBlock <;> simp), fun g cur hg hc => ?_⟩
  have hl := (World.ownsRow.lt h.1 g hg).2
  rw [hb.block g hl] at hc
  exact h.2 g cur hg hc
/-- What is read is kept where a row of ratios grows. -/
theorem RN.keepQ {w w1 : World} {A : Option Addr} {c : Nat} {xs : List Int} {base : Nat} {v : Value} {rs : List Rt} (h : RN w A c xs) (ho : OwnQ w base v rs) (hg : w.grownBy w1 v.ownBlock) : RN w1 A c xs := by
  refine ⟨⟨h.1.1, h.1.2.1, fun i hi => ?_⟩, h.2⟩
  obtain ⟨ad, e, hc⟩ := h.1.2.2 i hi
  refine ⟨ad, e, hg.cell hc (fun e2 => ?_)⟩
  rcases ho.1.2 with ⟨rfl, _⟩ | ⟨g, cap, cur, rfl, _, hh, _⟩
  · cases e2
  · have e3 : (ad.add i).block = g := by injection e2
    have hn := ho.2 g cur rfl hh
    simp only [World.cell?, e3, hh] at hc
    split at hc
    · first | exact hn _ _ hc | cases hc
    · first | exact hn _ _ hc | cases hc
theorem OwnQ.reads {w : World} {base : Nat} {v : Value} {rs : List Rt} (h : OwnQ w base v rs) (hr : ∀ (j : Nat) (r : Rt), rs[j]? = some r → RN w r.A r.c r.xs ∧ RN w r.B r.d r.ys) : ∃ A c, v = .slice A rs.length c ∧ Rs w A c rs := by
  rcases h.1.2 with ⟨rfl, h0⟩ | ⟨g, cap, cur, rfl, _, hh, h1, h2, _⟩
  · rw [List.length_eq_zero_iff] at h0
    subst h0
    exact ⟨none, 0, rfl, Nat.le_refl _, by omega, fun j r hj => by simp at hj⟩
  · simp only [maxLen] at h2
    refine ⟨_, cap, rfl, h1, h2, fun j r hj => ?_⟩
    obtain ⟨c0, c1, c2⟩ := flatR_get hj
    have hc := World.ownsRow.cells h.1 (g := g) rfl
    obtain ⟨n1, n2⟩ := hr j r hj
    refine ⟨_, rfl, hc _ _ c0, ?_, ?_, n1, n2⟩
    · have := hc _ _ c1
      rw [add_at] at this ⊢
      exact this
    · have := hc _ _ c2
      rw [add_at] at this ⊢
      exact this
theorem ownQ_step {P : Program} {W : World} {r : Rt} {base : Nat} {i : TypeInfo} {v : Value} {rs : List Rt} (t ty : TypeId)
    (ht : P.underlying t = some (.slice 28)) (hi : P.info? 28 = some i) (hz : i.zero = some (.agg #[.bool false, .slice none 0 0, .slice none 0 0])) (hsize : i.size = 3) (hby : i.bytes = 56)
    (hown : OwnQ W base v rs) (hbase : base ≤ W.heap.size) (hl : rs.length ≤ 1000) :
    ∃ v1 w1, (Builtin.append_ #[t, t] ty #[v, .slice (some ⟨W.heap.size, 0, none⟩) 1 1]).run P (W.alloc (.cells #[.bool r.b, .slice r.A r.xs.length r.c, .slice r.B r.ys.length r.d] 28 (0, 0))) = .ok v1 w1 ∧ OwnQ w1 base v1 (rs ++ [r]) ∧ W.grownBy w1 v.ownBlock := by
  obtain ⟨W2, hW2⟩ : ∃ W2, W2 = W.alloc (.cells #[.bool r.b, .slice r.A r.xs.length r.c, .slice r.B r.ys.length r.d] 28 (0, 0)) := ⟨_, rfl⟩
  have hb2 : Below W.heap.size W W2 := by rw [hW2]; exact (Below.refl _ _).alloc (Nat.le_refl _) _
  have hown2 := hown.below hb2
  have hsz2 : W2.heap.size = W.heap.size + 1 := by rw [hW2]; simp
  have hnews : ∀ j u, (rtCells r)[j]? = some u → W2.cell? ((⟨W.heap.size, 0, none⟩ : Addr).add j) = some u := by
    intro j u hj
    rw [add_at, hW2]
    simp only [World.cell?]
    rw [heap_new]
    match j, hj with
    | 0, hj => injection hj with hj; subst hj; rfl
    | 1, hj => injection hj with hj; subst hj; rfl
    | 2, hj => injection hj with hj; subst hj; rfl
    | j + 3, hj => simp [rtCells] at hj
  have hone : ∀ u ∈ rtCells r, u.oneCell' = true := by
    intro u hu
    simp only [rtCells, List.mem_cons, List.not_mem_nil, or_false] at hu
    rcases hu with rfl | rfl | rfl <;> rfl
  rw [← hW2]
  obtain ⟨v1, w1, h1, h2, h3, _⟩ := run_append_own (P := P) W2 base t ty 28 i _ 3 56 ht hi hz hsize hby rfl (by decide) v rs.length _ hown2.1 ⟨W.heap.size, 0, none⟩ 1 1 (rtCells r) rfl hnews hone (by simp only [maxLen]; omega) (by omega) (by omega)
  refine ⟨v1, w1, h1, ⟨?_, ?_⟩, ?_⟩
  · rw [flatR_snoc, List.length_append]
    exact h2
  · intro g cur hg hc
    rcases hown2.1.2 with ⟨rfl, h0⟩ | ⟨g2, cap, cur2, rfl, hb, hh, hnc, hcm, hcs, htk⟩
    · have hr := run_append_nil (P := P) W2 t ty 28 i _ ht hi hz ⟨W.heap.size, 0, none⟩ 1 1 (rtCells r) (by rw [hsize]; rfl) hnews (by omega) (by omega) (by rw [hby]; omega)
      rw [hr] at h1
      injection h1 with e1 e2
      subst e1 e2
      injection hg with hg
      subst hg
      rw [show W2.heap.size = W2.drew.heap.size from rfl, heap_new] at hc
      injection hc with hc
      injection hc with hc
      subst hc
      refine NDL.nd ?_
      rw [Array.toList_append]
      exact (ndl_rt r).append (ndl_zero _)
    · by_cases hroom : rs.length + 1 ≤ cap
      · have hr := run_append_room (P := P) W2 t ty 28 i ht hi g2 rs.length cap cur2 hh ⟨W.heap.size, 0, none⟩ 1 1 (rtCells r) (by rw [hsize]; rfl) hnews hone hroom (by rw [hsize, hcs]; show _ + 3 ≤ _; omega)
        rw [hr] at h1
        injection h1 with e1 e2
        subst e1 e2
        injection hg with hg
        subst hg
        rw [setRow_heap W2 g2 cur2 _ 28 _ hh] at hc
        injection hc with hc
        injection hc with hc
        subst hc
        have hn := NDL.of (hown2.2 g2 cur2 rfl hh)
        exact NDL.nd (((hn.take _).append (ndl_rt r)).append (hn.drop _))
      · have holds : ∀ j u, (flatR rs)[j]? = some u → W2.cell? ((⟨g2, 0, none⟩ : Addr).add j) = some u := hown2.1.cells (g := g2) rfl
        have hr := run_append_grow (P := P) W2 t ty 28 i _ ht hi hz ⟨g2, 0, none⟩ rs.length cap (flatR rs) (by rw [hsize]; exact flatR_len rs) holds ⟨W.heap.size, 0, none⟩ 1 1 (rtCells r) (by rw [hsize]; rfl) hnews (by omega) (by omega) (by rw [hby]; exact growslice_fits (by omega) (by omega))
        rw [hr] at h1
        injection h1 with e1 e2
        subst e1 e2
        injection hg with hg
        subst hg
        rw [show W2.heap.size = W2.drew.heap.size from rfl, heap_new] at hc
        injection hc with hc
        injection hc with hc
        subst hc
        refine NDL.nd ?_
        rw [Array.toList_append, Array.toList_append]
        exact ((ndl_flat rs).append (ndl_rt r)).append (ndl_zero _)
  · exact ⟨h3.os.trans hb2.os, h3.tape.trans hb2.tape, h3.output.trans hb2.output, Nat.le_trans hb2.size h3.size, fun j hj hr => (h3.block j (by omega) hr).trans (hb2.block j hj)⟩
/-- One more ratio at the end of a row of the call's own. -/
theorem wpList_appendQ {P : Program} {w0 W : World} {ops : Array Oper} {rest : List Oper} {o : Oper} {a : Act} {Q : Exit → Act → World → Prop} {r : Rt} {base : Nat} {i : TypeInfo} {v : Value} {rs : List Rt}
    (hgd : o.guard = none) (s y : Operand) (t : TypeId) (ho : o.op = .call { callee := .builtin .append, args := #[s, y], argTypes := #[t, t] })
    (ht : P.underlying t = some (.slice 28)) (hi : P.info? 28 = some i) (hz : i.zero = some (.agg #[.bool false, .slice none 0 0, .slice none 0 0])) (hsize : i.size = 3) (hby : i.bytes = 56)
    (hs : a.eval s = v) (hy : a.eval y = .slice (some ⟨W.heap.size, 0, none⟩) 1 1) (hown : OwnQ W base v rs)
    (HB : Below base w0 W) (hbase : base ≤ W.heap.size) (hl : rs.length ≤ 1000)
    (h : ∀ v1 w1, OwnQ w1 base v1 (rs ++ [r]) → Hid (Below base w0 w1) → Hid (∀ A c xs, RN W A c xs → RN w1 A c xs) → wpList P ops Q rest (a.put o.dst v1) w1) :
    wpList P ops Q (o :: rest) a (W.alloc (.cells #[.bool r.b, .slice r.A r.xs.length r.c, .slice r.B r.ys.length r.d] 28 (0, 0))) := by
  obtain ⟨v1, w1, h1, h2, h3⟩ := ownQ_step (P := P) (r := r) t o.type ht hi hz hsize hby hown hbase hl
  exact wpList_append_run hgd s y t ho v _ v1 hs hy h1 (h v1 w1 h2 (HB.grown h3 hbase (fun g hg => (World.ownsRow.lt hown.1 g hg).1)) (fun A c xs hx => hx.keepQ hown h3))

end Go.Proofs.YtocpncjmcaecoaaGreat.M
