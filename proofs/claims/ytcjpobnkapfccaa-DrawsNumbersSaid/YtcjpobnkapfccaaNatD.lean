/- The sum of two numbers of the program. -/
import Derived.Test.YtcjpobnkapfccaaNatC
import Derived.Deep.DeepCutAuto
import Derived.Laws.AppendOwn
namespace Go.Proofs.Ytcjpobnkapfccaa.M
open Go.RowKit
set_option linter.unusedVariables false

theorem Nf.of_ge {s : List Int} (h : Lim s) (hv : 0 < s.length → pw (s.length - 1) ≤ V s) : Nf s := by
  refine ⟨h, fun h0 e => ?_⟩
  have h1 := hv h0
  unfold V at h1
  rw [show s.length = (s.length - 1) + 1 from by omega, S_succ, e, Int.zero_mul, Int.add_zero] at h1
  have h2 := (S_bound (f := dg s) (k := s.length - 1) (fun j _ => h j)).2
  simp only [Nat.add_sub_cancel] at h1
  omega

/-- The sum so far. -/
def AddI (x y s : List Int) (k : Nat) (q : Int) : Prop := Lim s ∧ s.length = k ∧ V s + q * pw k = S (dg x) k + S (dg y) k
theorem add_start (x y : List Int) : AddI x y [] 0 0 := ⟨Lim.nil, rfl, by simp [V_nil, S_zero]⟩
theorem add_round {x y s : List Int} {k : Nat} {q t : Int} (h : AddI x y s k q) (ht : q + dg x k + dg y k = t) (h0 : 0 ≤ t) : AddI x y (s ++ [t % 4294967296]) (k + 1) (t / 4294967296) := by
  obtain ⟨h1, h2, h3⟩ := h
  refine ⟨h1.snoc (by omega) (by omega), by simp [h2], ?_⟩
  rw [V_snoc, h2, S_succ, S_succ, pw_succ, ← Int.mul_assoc]
  have e : t % 4294967296 * pw k + t / 4294967296 * 4294967296 * pw k = t * pw k := by
    rw [← Int.add_mul]
    congr 1
    omega
  rw [← ht] at e ⊢
  rw [Int.add_mul, Int.add_mul] at e
  omega
theorem add_end0 {x y s : List Int} (h : AddI x y s x.length 0) (hx : Nf x) (hy : Lim y) (hl : y.length ≤ x.length) : s = limbs (V x + V y).toNat := by
  obtain ⟨h1, h2, h3⟩ := h
  have h4 := V_nonneg hx.1
  have h5 := V_nonneg hy
  rw [V_at hl] at h3
  have h6 : V s = V x + V y := by rw [Int.zero_mul, Int.add_zero] at h3; exact h3
  refine limbs_of (Nf.of_ge h1 fun h0 => ?_) (by omega)
  have := hx.pos (by omega)
  rw [h2]
  omega
theorem add_end1 {x y s : List Int} (h : AddI x y s x.length 1) (hx : Nf x) (hy : Lim y) (hl : y.length ≤ x.length) : s ++ [1] = limbs (V x + V y).toNat := by
  obtain ⟨h1, h2, h3⟩ := h
  have h4 := V_nonneg hx.1
  have h5 := V_nonneg hy
  rw [V_at hl] at h3
  have h6 : V (s ++ [1]) = V x + V y := by rw [V_snoc, h2, h3]; rfl
  refine limbs_of ⟨h1.snoc (by omega) (by omega), fun _ => ?_⟩ (by omega)
  rw [List.length_append, List.length_singleton, Nat.add_sub_cancel, dg_snoc, if_pos rfl]
  decide

/-- A row of whole numbers of the call's own, that may be appended to. -/
def OwnI (w : World) (base e : Nat) (k : IntKind) (v : Value) (xs : List Int) : Prop := w.ownsRow base e 1 v xs.length (xs.map (Value.int k))
theorem own_rk {w : World} {base e : Nat} {v : Value} {k : IntKind} {xs : List Int} (h : OwnI w base e k v xs) : ∃ A c, v = .slice A xs.length c ∧ Rk w k A c xs := by
  unfold OwnI at h
  rcases h.2 with ⟨rfl, h0⟩ | ⟨g, cap, cur, rfl, _, hh, h1, h2, h3, h4⟩
  · rw [h0]
    exact ⟨none, 0, rfl, by omega, by omega, fun j hj => by omega⟩
  · refine ⟨_, cap, rfl, h1, by simpa [maxLen] using h2, fun j hj => ⟨_, rfl, ?_⟩⟩
    refine h.cells (g := g) rfl j _ ?_
    rw [List.getElem?_map, List.getElem?_eq_getElem hj, dg_get hj]
    rfl

/-- One more number at the end of a row of the call's own. -/
theorem wpList_append1 {P : Program} {w0 W : World} {ops : Array Oper} {rest : List Oper} {o : Oper} {a : Act} {Q : Exit → Act → World → Prop} {k : IntKind} {x : Int} {base bytes : Nat} {e : TypeId} {i : TypeInfo} {v : Value} {xs : List Int}
    (hgd : o.guard = none) (s y : Operand) (t : TypeId) (ho : o.op = .call { callee := .builtin .append, args := #[s, y], argTypes := #[t, t] })
    (ht : P.underlying t = some (.slice e)) (hi : P.info? e = some i) (hz : i.zero = some (.int k 0)) (hsize : i.size = 1) (hby : i.bytes = bytes)
    (hs : a.eval s = v) (hy : a.eval y = .slice (some ⟨W.heap.size, 0, none⟩) 1 1) (hown : OwnI W base e k v xs)
    (HB : Below base w0 W) (hbase : base ≤ W.heap.size) (hl : (xs.length + 1) * bytes ≤ 140737488355328 ∧ xs.length + 1 ≤ 9223372036854775807)
    (h : ∀ v1 w1, OwnI w1 base e k v1 (xs ++ [x]) → Hid (Below base w0 w1) → wpList P ops Q rest (a.put o.dst v1) w1) :
    wpList P ops Q (o :: rest) a (W.alloc (.cells #[.int k x] e (0, 0))) := by
  refine wpList_append_own _ hgd s y t ho base e i _ 1 bytes ht hi hz hsize hby rfl (by decide) v xs.length _ hs (World.ownsRow.alloc hown _) ⟨W.heap.size, 0, none⟩ 1 1 [.int k x] hy rfl ?_ ?_ (by simp only [maxLen]; omega) hl.1 (by simp; omega) ?_
  · intro j u hj
    cases j with
    | zero =>
      simp at hj
      subst hj
      simp only [World.cell?, Addr.add, if_true]
      rw [heap_new]
      simp
    | succ j => simp at hj
  · intro u hu
    simp at hu
    subst hu
    rfl
  · intro v1 w1 h1 h2 _
    refine h v1 w1 ?_ ((HB.alloc hbase _).grown h2 (by simp; omega) (fun g hg => (World.ownsRow.lt hown g hg).1))
    unfold OwnI
    rw [List.map_append, List.length_append]
    exact h1


end Go.Proofs.Ytcjpobnkapfccaa.M
