/- Laws of draws in plain numbers: picks by equal weights, shuffles are permutations. -/
import Derived.Test.YtcjpobnkapfccaaDrawE
namespace Go.Proofs.Ytcjpobnkapfccaa.M
open Go.RowKit
set_option linter.unusedVariables false

theorem sum_rep (n : Nat) (c : Int) : (List.replicate n c).sum = (n : Int) * c := by
  induction n with
  | zero => simp
  | succ n ih =>
    rw [List.replicate_succ, List.sum_cons, ih]
    have e : ((n + 1 : Nat) : Int) * c = (n : Int) * c + c := by
      rw [Int.natCast_add, Int.add_mul]
      simp
    omega
theorem dg_rep {n j : Nat} (c : Int) (h : j < n) : dg (List.replicate n c) j = c := by
  rw [dg_get (by simpa using h)]
  simp
theorem pickAt_eq {c : Int} (hc : 0 < c) : ∀ (n : Nat) (x i : Int), 0 ≤ x → x < (n : Int) * c → pickAt x (List.replicate n c) i = i + x / c := by
  intro n
  induction n with
  | zero => intro x i h0 h1; simp at h1; omega
  | succ n ih =>
    intro x i h0 h1
    have e : ((n + 1 : Nat) : Int) * c = (n : Int) * c + c := by
      rw [Int.natCast_add, Int.add_mul]
      simp
    rw [List.replicate_succ]
    unfold pickAt
    by_cases h : x - c < 0
    · rw [if_pos h, Int.ediv_eq_zero_of_lt h0 (by omega)]
      omega
    · rw [if_neg h, ih (x - c) (i + 1) (by omega) (by omega)]
      have h2 : (x - c) / c = x / c - 1 := by
        have h3 := Int.add_mul_ediv_right x (-1) (show c ≠ 0 by omega)
        rw [show x + -1 * c = x - c by omega] at h3
        omega
      omega
theorem below_scale {s n c : Int} (hn : 1 ≤ n) (hc : 1 ≤ c) (hb : n * c ≤ 2147483648) : below s (n * c) / c = below s n := by
  have h1 : n * 1 ≤ n * c := Int.mul_le_mul_of_nonneg_left hc (by omega)
  unfold below
  rw [if_neg (by omega), if_neg (by omega), Int.ediv_ediv_of_nonneg (by omega), ← Int.mul_assoc, Int.mul_ediv_mul_of_pos_left _ _ (by omega)]
theorem pick_eq {s : Int} {n : Nat} {c : Int} (hn : n ≤ 255) (hc : 1 ≤ c) (hc2 : c ≤ 256) : pickI s (List.replicate n c) = (if n = 0 then -1 else below s (n : Int)) ∧ pickS s (List.replicate n c) = (if n = 0 then s else lcg s) := by
  by_cases h0 : n = 0
  · subst h0
    rw [if_pos rfl, if_pos rfl]
    exact pick_none (.inr (.inr rfl))
  · rw [if_neg h0, if_neg h0]
    have hp : (n : Int) * 1 ≤ (n : Int) * c := Int.mul_le_mul_of_nonneg_left hc (by omega)
    have hp2 : (n : Int) * c ≤ 255 * 256 := Int.mul_le_mul (by omega) hc2 (by omega) (by omega)
    obtain ⟨e1, e2⟩ := pick_some (s := s) (ws := List.replicate n c) (by
      rw [sum_rep, List.length_replicate]
      intro h
      refine h.elim (fun h => by omega) (fun h => h.elim (fun h => ?_) (fun h => by omega))
      exact not_badW (fun j hj => by
        rw [List.length_replicate] at hj
        rw [dg_rep c hj]
        omega) h)
    refine ⟨?_, e2⟩
    rw [sum_rep] at e1
    have hb := below_bound (s := s) (n := (n : Int) * c) (by omega)
    rw [e1, pickAt_eq (by omega) n _ 0 hb.1 hb.2, below_scale (by omega) hc (by omega)]
    omega
theorem pick_cases (s : Int) (ws : List Int) : (pickI s ws = -1 ∧ pickS s ws = s) ∨ (∃ k : Nat, pickI s ws = (k : Int) ∧ k < ws.length ∧ 0 < dg ws k ∧ dg ws k ≤ 1000000 ∧ pickS s ws = lcg s) := by
  by_cases h : 1024 < ws.length ∨ badW ws ∨ ws.sum = 0
  · exact .inl (pick_none h)
  · refine .inr ?_
    obtain ⟨e1, e2⟩ := pick_some (s := s) h
    have hw : ∀ j, j < ws.length → 0 ≤ dg ws j ∧ dg ws j ≤ 1000000 := by
      intro j hj
      rcases (show (0 ≤ dg ws j ∧ dg ws j ≤ 1000000) ∨ (dg ws j < 0 ∨ 1000000 < dg ws j) by omega) with h2 | h2
      · exact h2
      · exact absurd (.inr (.inl (badW_at hj h2))) h
    have hs := sum_bound hw
    have hs0 : ws.sum ≠ 0 := fun h2 => h (.inr (.inr h2))
    have hb := below_bound (s := s) (n := ws.sum) (by omega)
    obtain ⟨p1, p2, p3⟩ := pickAt_found (fun j hj => (hw j hj).1) (below s ws.sum) 0 hb.1 hb.2 (by omega)
    rw [← e1] at p1 p2 p3
    obtain ⟨k, hk⟩ : ∃ k : Nat, pickI s ws = (k : Int) := ⟨(pickI s ws).toNat, by omega⟩
    rw [hk] at p2 p3
    rw [show ((k : Int) - 0).toNat = k by omega] at p3
    exact ⟨k, hk, by omega, p3, (hw k (by omega)).2, e2⟩

/-- Every number from 0 to the length stands there once. -/
def Perm (l : List Int) : Prop := (∀ j, j < l.length → 0 ≤ dg l j ∧ dg l j < (l.length : Int)) ∧ ∀ i j, i < l.length → j < l.length → dg l i = dg l j → i = j
theorem perm_iota (n : Nat) : Perm (iota n) := by
  constructor
  · intro j hj
    rw [iota_len] at hj ⊢
    rw [iota_dg hj]
    omega
  · intro i j hi hj h
    rw [iota_len] at hi hj
    rw [iota_dg hi, iota_dg hj] at h
    omega
theorem dg_swap {l : List Int} {i j : Nat} (hi : i < l.length) (hj : j < l.length) (t : Nat) : dg (swap l i j) t = dg l (if t = j then i else if t = i then j else t) := by
  unfold swap
  rw [dg_set, dg_set, List.length_set]
  by_cases h1 : t = j
  · rw [if_pos ⟨h1, hj⟩, if_pos h1]
  · rw [if_neg (fun h => h1 h.1), if_neg h1]
    by_cases h2 : t = i
    · rw [if_pos ⟨h2, hi⟩, if_pos h2]
    · rw [if_neg (fun h => h2 h.1), if_neg h2]
theorem perm_swap {l : List Int} (h : Perm l) {i j : Nat} (hi : i < l.length) (hj : j < l.length) : Perm (swap l i j) := by
  obtain ⟨h1, h2⟩ := h
  have hs : ∀ t, t < l.length → (if t = j then i else if t = i then j else t) < l.length := by
    intro t ht
    split
    · exact hi
    · split
      · exact hj
      · exact ht
  constructor
  · intro t ht
    rw [swap_len] at ht ⊢
    rw [dg_swap hi hj]
    exact h1 _ (hs t ht)
  · intro a b ha hb hab
    rw [swap_len] at ha hb
    rw [dg_swap hi hj, dg_swap hi hj] at hab
    have h3 := h2 _ _ (hs a ha) (hs b hb) hab
    split at h3 <;> (try split at h3) <;> (try split at h3) <;> (try split at h3) <;> omega
theorem perm_shufs (k : Nat) : ∀ s l, Perm l → k < l.length ∨ k = 0 → Perm (shufs k s l) := by
  induction k with
  | zero => intro s l h _; exact h
  | succ k ih =>
    intro s l h hk
    have hkl : k + 1 < l.length := hk.elim id (fun h => by omega)
    have hb := below_bound (s := s) (n := ((k + 2 : Nat) : Int)) (by omega)
    show Perm (shufs k _ _)
    exact ih _ _ (perm_swap h hkl (by omega)) (.inl (by rw [swap_len]; omega))
theorem shuf_perm {s : Int} {n : Nat} (hn : n ≤ 255) : Perm (shuf s (n : Int)) ∧ (shuf s (n : Int)).length = n ∧ shufS s (n : Int) = skips s (n - 1) := by
  unfold shuf shufS
  rw [if_neg (by omega), if_neg (by omega), Int.toNat_natCast]
  refine ⟨perm_shufs _ _ _ (perm_iota n) ?_, by rw [shufs_len, iota_len], rfl⟩
  rw [iota_len]
  omega

end Go.Proofs.Ytcjpobnkapfccaa.M
