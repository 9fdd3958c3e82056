/- The reference: Norm, Of, limb. The reference: Cmp. The reference: Mul. The reference: Add. The reference: Sub, short. -/
import Derived.Test.YtocpncjmcaecoaaNatG
import Derived.Laws.CopyRow
import Derived.Laws.IdiomCopy
import Derived.Deep.DeepCutAuto
namespace Go.Proofs.Ytocpncjmcaecoaa.M
set_option maxRecDepth 10000
open Go.RowKit
set_option linter.unusedVariables false

theorem wpList_copy_run {P : Program} {w w' : World} {ops : Array Oper} {rest : List Oper} {o : Oper} {a : Act} {Q : Exit → Act → World → Prop} (hgd : o.guard = none) (d s : Operand) (dT sT : TypeId)
    (ho : o.op = .call { callee := .builtin .copy, args := #[d, s], argTypes := #[dT, sT] })
    (v u r : Value) (hd : a.eval d = v) (hs : a.eval s = u) (hr : (Builtin.copy_ #[dT, sT] o.type #[v, u]).run P w = .ok r w')
    (h : wpList P ops Q rest (a.put o.dst r) w') : wpList P ops Q (o :: rest) a w :=
  wpList_plain hgd fun _ hK => by
    unfold Oper.wp execOp
    simp only [ho, resolve, invoke, builtin, Sem.run_bind, Sem.run_pure, Result.andThen_ok, List.map_toArray, List.map_cons, List.map_nil, hd, hs, hr]
    exact hK _ _ h

/-- A new row of n zeros takes the first n numbers of what is read. -/
theorem copy_take {P : Program} (t ty e : TypeId) (i : TypeInfo) (ht : P.underlying t = some (.slice e)) (hi : P.info? e = some i) (hsz : i.size = 1)
    {W : World} {g : Nat} {k : IntKind} {A : Option Addr} {c n : Nat} {xs : List Int} (hb : Bk W g e k (List.replicate n 0)) (h : Rk W k A c xs) (hn : n ≤ xs.length) :
    ∃ W', (Builtin.copy_ #[t, t] ty #[.slice (some ⟨g, 0, none⟩) n n, .slice A xs.length c]).run P W = .ok (goInt n) W' ∧ Bk W' g e k (xs.take n) ∧ Below g W W' := by
  have hs : (P.info? e).map (·.size) = some 1 := by rw [hi]; simp [hsz]
  by_cases h0 : n = 0
  · subst h0
    exact ⟨W, run_copy_none (P := P) W t t ty e _ A 0 0 xs.length c ht hs (by simp), by simpa using hb, Below.refl _ _⟩
  · obtain ⟨ad, rfl, _⟩ := h.2.2 0 (by omega)
    have hcs : ((xs.take n).map (Value.int k)).length = Nat.min xs.length n := by
      rw [List.length_map, List.length_take]
      exact Nat.min_comm _ _
    have hmin : Nat.min xs.length n = n := Nat.min_eq_right hn
    have hsrc : ∀ j v, ((xs.take n).map (Value.int k))[j]? = some v → W.cell? (ad.add j) = some v := by
      intro j v hv
      rw [List.getElem?_map] at hv
      obtain ⟨x, hx, rfl⟩ := Option.map_eq_some_iff.1 hv
      obtain ⟨hj, rfl⟩ := List.getElem?_eq_some_iff.1 hx
      rw [List.length_take] at hj
      obtain ⟨ad', e', hc'⟩ := h.2.2 j (by omega)
      cases e'
      rw [dg_get (by omega)] at hc'
      rw [List.getElem_take]
      exact hc'
    have hr := run_copy_row (P := P) W t t ty e g 0 n n ad xs.length c _ e _ ht hs hb hcs hsrc (by rw [hcs, hmin]; simp) (fun v hv => by
      obtain ⟨x, _, rfl⟩ := List.mem_map.1 hv
      rfl)
    rw [hcs, hmin] at hr
    refine ⟨_, hr, ?_, ⟨rfl, rfl, rfl, by simp, fun j hj => setRow_other W g j _ (by omega)⟩⟩
    unfold Bk
    rw [setRow_heap W g _ _ e _ hb]
    congr 2
    simp

/-- A digit, 0 beyond the end. -/
def RetU (v : Int) (w : World) (e : Ending) (w' : World) : Prop := e = .returned (.int .u64 v) ∧ w = w'
end Go.Proofs.Ytocpncjmcaecoaa.M
namespace Go.Proofs.Ytocpncjmcaecoaa.M
set_option maxRecDepth 10000
open Go.RowKit
set_option linter.unusedVariables false

theorem V_lt_of {x y : List Int} {j n : Nat} (hx : Lim x) (hy : Lim y) (hxn : x.length ≤ n) (hyn : y.length ≤ n) (hj : j < n) (hd : ∀ i, j + 1 ≤ i → dg x i = dg y i) (h : dg x j < dg y j) : V x < V y := by
  rw [← V_at hxn, ← V_at hyn]
  exact S_lt hx hy (i := j) hj (fun i h1 _ => hd i (by omega)) h
theorem V_eq_of {x y : List Int} (hd : ∀ i, dg x i = dg y i) : V x = V y := by
  rw [← V_at (xs := x) (n := max x.length y.length) (by omega), ← V_at (xs := y) (n := max x.length y.length) (by omega)]
  exact S_congr (fun i _ => hd i)

end Go.Proofs.Ytocpncjmcaecoaa.M
namespace Go.Proofs.Ytocpncjmcaecoaa.M
set_option maxRecDepth 10000
open Go.RowKit
set_option linter.unusedVariables false

theorem Bk.drewN {w : World} {g e : Nat} {k : IntKind} {l : List Int} (h : Bk w g e k l) (n : Nat) : Bk (w.drewN n) g e k l := h

end Go.Proofs.Ytocpncjmcaecoaa.M
namespace Go.Proofs.Ytocpncjmcaecoaa.M
set_option maxRecDepth 10000
open Go.RowKit
set_option linter.unusedVariables false

/-- The reference's sum so far, in a row of n digits. -/
def RAddI (x y p : List Int) (n k : Nat) (q : Int) : Prop := Lim p ∧ p.length = n ∧ (∀ j, k ≤ j → dg p j = 0) ∧ V p + q * pw k = S (dg x) k + S (dg y) k
theorem radd_start (x y : List Int) (n : Nat) : RAddI x y (List.replicate n 0) n 0 0 := ⟨Lim.replicate _, by simp, fun j _ => dg_replicate _ j, by rw [V_replicate, S_zero, S_zero]; simp⟩
theorem radd_round {x y p : List Int} {n k : Nat} {q t : Int} (h : RAddI x y p n k q) (hk : k < n) (ht : dg x k + dg y k + q = t) (h0 : 0 ≤ t) : RAddI x y (p.set k (t % 4294967296)) n (k + 1) (t / 4294967296) := by
  obtain ⟨a1, a2, a3, a4⟩ := h
  refine ⟨a1.set _ (by omega) (by omega), by simp [a2], fun j hj => ?_, ?_⟩
  · rw [dg_set, if_neg (fun h => by have := h.1; omega)]; exact a3 j (by omega)
  · rw [V_set (by omega), a3 k (Nat.le_refl _), S_succ, S_succ, pw_succ, ← Int.mul_assoc, Int.sub_zero]
    have e : t % 4294967296 * pw k + t / 4294967296 * 4294967296 * pw k = t * pw k := by
      rw [← Int.add_mul]
      congr 1
      omega
    rw [← ht] at e ⊢
    rw [Int.add_mul, Int.add_mul] at e
    omega
theorem radd_end {x y p : List Int} {n : Nat} {q : Int} (h : RAddI x y p (n + 1) (n + 1) q) (hx : Lim x) (hy : Lim y) (hlx : x.length ≤ n) (hly : y.length ≤ n) (hq : 0 ≤ q) : V p = V x + V y := by
  obtain ⟨a1, a2, a3, a4⟩ := h
  rw [V_at (show x.length ≤ n + 1 by omega), V_at (show y.length ≤ n + 1 by omega)] at a4
  have h1 := V_lt hx
  have h2 := V_lt hy
  have h3 := pw_le hlx
  have h4 := pw_le hly
  have h5 := pw_pos n
  have h6 := V_nonneg a1
  rw [pw_succ] at a4
  rcases (show q = 0 ∨ 1 ≤ q by omega) with rfl | h7
  · rw [Int.zero_mul, Int.add_zero] at a4; exact a4
  · have : 1 * (4294967296 * pw n) ≤ q * (4294967296 * pw n) := Int.mul_le_mul_of_nonneg_right h7 (by omega)
    omega


end Go.Proofs.Ytocpncjmcaecoaa.M
namespace Go.Proofs.Ytocpncjmcaecoaa.M
set_option maxRecDepth 10000
open Go.RowKit
set_option linter.unusedVariables false

theorem S_short {y : List Int} {n : Nat} (hy : Lim y) (h : V y < pw n) : S (dg y) n = V y := by
  rcases Nat.le_total y.length n with h1 | h1
  · exact V_at h1
  · have e : V y = S (dg y) n + pw n * S (fun j => dg y (n + j)) (y.length - n) := by
      rw [← S_split, show n + (y.length - n) = y.length by omega]
      rfl
    have h2 := (S_bound (f := dg y) (k := n) (fun j _ => hy j)).1
    have h3 := (S_bound (f := fun j => dg y (n + j)) (k := y.length - n) (fun j _ => hy _)).1
    have h4 := pw_pos n
    generalize S (fun j => dg y (n + j)) (y.length - n) = r at *
    rcases (show r = 0 ∨ 1 ≤ r by omega) with rfl | h5
    · rw [e, Int.mul_zero, Int.add_zero]
    · have : pw n * 1 ≤ pw n * r := Int.mul_le_mul_of_nonneg_left h5 (by omega)
      omega
theorem sub_end' {x y p : List Int} {q : Int} (h : SubI x y p x.length q) (hx : Lim x) (hy : Lim y) (hv : V y ≤ V x) (hq : 0 ≤ q) : V p = V x - V y := by
  obtain ⟨a1, a2, a3, a4⟩ := h
  have h0 := V_lt hx
  rw [S_short hy (by omega)] at a4
  have h1 := V_lt a1
  rw [a2] at h1
  have h2 := pw_pos x.length
  rcases (show q = 0 ∨ 1 ≤ q by omega) with rfl | h3
  · rw [Int.zero_mul, Int.sub_zero] at a4; exact a4
  · have : 1 * pw x.length ≤ q * pw x.length := Int.mul_le_mul_of_nonneg_right h3 (by omega)
    have a5 : V p - q * pw x.length = V x - V y := a4
    omega

/-- A quotient and a remainder of 64 bits. -/
def RetNU64 (N : Nat) (r : Int) (w : World) (e : Ending) (w' : World) : Prop := ∃ A c xs, e = .returned (.tuple #[.slice A xs.length c, .int .u64 r]) ∧ Hid (xs = limbs N) ∧ RN w' A c xs ∧ Below w.heap.size w w'

end Go.Proofs.Ytocpncjmcaecoaa.M
