/- Ranking subsets, in plain numbers. -/
import Derived.Test.YtmafifpibfjomaaUnrank
namespace Go.Proofs.Ytmafifpibfjomaa.M
open Go.RowKit
set_option linter.unusedVariables false
set_option linter.unusedSimpArgs false

/-- Strictly rising, above q and below n. -/
def up (n : Int) : Int → List Int → Bool
  | _, [] => true
  | q, x :: t => decide (q < x) && (decide (x < n) && up n x t)
/-- How many subsets come after. -/
def aft (n : Nat) : List Int → Nat
  | [] => 0
  | x :: t => ch (n - 1 - x.toNat) (t.length + 1) + aft n t
/-- How many subsets go on with one of c numbers from f on. -/
def sm (n : Nat) : Nat → Nat → Nat → Nat
  | _, 0, _ => 0
  | f, c + 1, j => ch (n - 1 - f) j + sm n (f + 1) c j
/-- How many subsets come before, from f on. -/
def rnk (n : Nat) : Nat → List Int → Nat
  | _, [] => 0
  | f, x :: t => sm n f (x.toNat - f) t.length + rnk n (x.toNat + 1) t
theorem up_cons {n q x : Int} {t : List Int} : up n q (x :: t) = true ↔ q < x ∧ x < n ∧ up n x t = true := by simp [up]
theorem sm_ch {n : Nat} : ∀ (c f j : Nat), f + c ≤ n → sm n f c j + ch (n - f - c) (j + 1) = ch (n - f) (j + 1) := by
  intro c
  induction c with
  | zero => intro f j h; simp [sm]
  | succ c ih =>
    intro f j h
    have h1 := ih (f + 1) j (by omega)
    have e1 : n - (f + 1) - c = n - f - (c + 1) := by omega
    have e2 : n - f = (n - 1 - f) + 1 := by omega
    have e3 : n - (f + 1) = n - 1 - f := by omega
    rw [e1] at h1
    have h2 := ch_succ (n - 1 - f) j
    rw [← e2] at h2
    rw [e3] at h1
    simp only [sm]
    omega
theorem up_ge {n q : Int} : ∀ {l : List Int}, up n q l = true → (l.length : Int) ≤ max 0 (n - 1 - q) := by
  intro l
  induction l generalizing q with
  | nil => intro _; simp; omega
  | cons x t ih =>
    intro h
    obtain ⟨h1, h2, h3⟩ := up_cons.1 h
    have := ih h3
    simp only [List.length_cons]
    omega
theorem rnk_aft {n : Nat} : ∀ (l : List Int) (f : Nat), f ≤ n → up n ((f : Int) - 1) l = true → rnk n f l + 1 + aft n l = ch (n - f) l.length := by
  intro l
  induction l with
  | nil => intro f _ _; simp [rnk, aft, ch_zero]
  | cons x t ih =>
    intro f hf h
    obtain ⟨h1, h2, h3⟩ := up_cons.1 h
    obtain ⟨a, rfl⟩ := Int.eq_ofNat_of_zero_le (show 0 ≤ x by omega)
    have h4 := ih (a + 1) (by omega) (by rw [show (((a + 1 : Nat) : Int) - 1) = (a : Int) by omega]; exact h3)
    have h5 := sm_ch (n := n) (a - f) f t.length (by omega)
    have e1 : n - f - (a - f) = (n - 1 - a) + 1 := by omega
    have e2 : n - (a + 1) = n - 1 - a := by omega
    rw [e1, ch_succ] at h5
    rw [e2] at h4
    simp only [rnk, aft, Int.toNat_natCast, List.length_cons]
    omega
theorem rnk_lt {n : Nat} {l : List Int} (h : up n (-1) l = true) : rnk n 0 l + 1 + aft n l = ch n l.length := by
  have := rnk_aft (n := n) l 0 (Nat.zero_le _) (by simpa using h)
  simpa using this
theorem up_len {n : Nat} {l : List Int} (h : up n (-1) l = true) : l.length ≤ n := by
  have := up_ge h
  omega
theorem up_mem {n q : Int} : ∀ {l : List Int}, up n q l = true → ∀ i, i < l.length → q < dg l i ∧ dg l i < n := by
  intro l
  induction l generalizing q with
  | nil => intro _ i hi; simp at hi
  | cons x t ih =>
    intro h i hi
    obtain ⟨h1, h2, h3⟩ := up_cons.1 h
    cases i with
    | zero => exact ⟨h1, h2⟩
    | succ i =>
      have := ih h3 i (by simpa using hi)
      have e : dg (x :: t) (i + 1) = dg t i := rfl
      rw [e]
      omega
theorem drop_dg {l : List Int} {i : Nat} (h : i < l.length) : l.drop i = dg l i :: l.drop (i + 1) := by
  rw [List.drop_eq_getElem_cons h, dg_get h]
theorem up_drop {n q : Int} {l : List Int} (h : up n q l = true) : ∀ i, i < l.length → up n (dg l i) (l.drop (i + 1)) = true := by
  induction l generalizing q with
  | nil => intro i hi; simp at hi
  | cons x t ih =>
    intro i hi
    obtain ⟨h1, h2, h3⟩ := up_cons.1 h
    cases i with
    | zero => exact h3
    | succ i => exact ih h3 i (by simpa using hi)
theorem aft_app {n : Nat} (p s t : List Int) (h : s.length = t.length) : aft n (p ++ s) + aft n t = aft n (p ++ t) + aft n s := by
  induction p with
  | nil => simp; omega
  | cons x p ih =>
    simp only [List.cons_append, aft, List.length_append, h]
    omega

/-- Unranking gives a subset of its rank. -/
theorem unr_len : ∀ {m x j r : Nat}, r < ch m j → (unr x m j r).length = j := by
  intro m
  induction m with
  | zero =>
    intro x j r h
    cases j with
    | zero => rfl
    | succ j => rw [ch_gt 0 _ (by omega)] at h; omega
  | succ m ih =>
    intro x j r h
    cases j with
    | zero => rfl
    | succ j =>
      by_cases hr : r < ch m j
      · rw [unr_take hr, List.length_cons, ih hr]
      · rw [unr_skip hr]
        rw [ch_succ] at h
        exact ih (by omega)
theorem up_weak {n q q' : Int} (hq : q' ≤ q) {l : List Int} (h : up n q l = true) : up n q' l = true := by
  cases l with
  | nil => rfl
  | cons x t =>
    obtain ⟨h1, h2, h3⟩ := up_cons.1 h
    exact up_cons.2 ⟨by omega, h2, h3⟩
theorem unr_up : ∀ {m x j r : Nat}, r < ch m j → up ((x + m : Nat) : Int) ((x : Int) - 1) (unr x m j r) = true := by
  intro m
  induction m with
  | zero => intro x j r h; cases j <;> rfl
  | succ m ih =>
    intro x j r h
    cases j with
    | zero => rfl
    | succ j =>
      have e : x + (m + 1) = (x + 1) + m := by omega
      by_cases hr : r < ch m j
      · rw [unr_take hr]
        have := ih (x := x + 1) hr
        rw [show (((x + 1 : Nat) : Int) - 1) = (x : Int) by omega] at this
        exact up_cons.2 ⟨by omega, by omega, by rw [e]; exact this⟩
      · rw [unr_skip hr]
        rw [ch_succ] at h
        have := ih (x := x + 1) (j := j + 1) (r := r - ch m j) (by omega)
        rw [e]
        exact up_weak (by omega) this
theorem rnk_from {n f : Nat} {l : List Int} (hl : 0 < l.length) (h : up n (f : Int) l = true) : rnk n f l = ch (n - 1 - f) (l.length - 1) + rnk n (f + 1) l := by
  cases l with
  | nil => simp at hl
  | cons x t =>
    obtain ⟨h1, h2, h3⟩ := up_cons.1 h
    obtain ⟨a, rfl⟩ := Int.eq_ofNat_of_zero_le (show 0 ≤ x by omega)
    have e : a - f = (a - (f + 1)) + 1 := by omega
    simp only [rnk, Int.toNat_natCast, List.length_cons]
    rw [e, Nat.add_sub_cancel]
    simp only [sm]
    omega
theorem rnk_unr : ∀ {m x j r : Nat}, r < ch m j → rnk (x + m) x (unr x m j r) = r := by
  intro m
  induction m with
  | zero =>
    intro x j r h
    cases j with
    | zero => rw [ch_zero] at h; simp only [unr, rnk]; omega
    | succ j => rw [ch_gt 0 _ (by omega)] at h; omega
  | succ m ih =>
    intro x j r h
    cases j with
    | zero => rw [ch_zero] at h; simp only [unr, rnk]; omega
    | succ j =>
      have e : x + (m + 1) = (x + 1) + m := by omega
      by_cases hr : r < ch m j
      · rw [unr_take hr, e]
        simp only [rnk, Int.toNat_natCast, Nat.sub_self, sm]
        rw [ih hr]
        omega
      · rw [unr_skip hr, e]
        rw [ch_succ] at h
        have h2 : r - ch m j < ch m (j + 1) := by omega
        have hu := unr_up (x := x + 1) h2
        have hlen := unr_len (x := x + 1) h2
        rw [rnk_from (by omega) (by rw [show (((x + 1 : Nat) : Int) - 1) = (x : Int) by omega] at hu; exact hu), ih h2, hlen, show x + 1 + m - 1 - x = m by omega, Nat.add_sub_cancel]
        omega

/-- c numbers from a on. -/
def runI : Int → Nat → List Int
  | _, 0 => []
  | a, c + 1 => a :: runI (a + 1) c
theorem runI_len : ∀ (c : Nat) (a : Int), (runI a c).length = c := by
  intro c
  induction c with
  | zero => intro a; rfl
  | succ c ih => intro a; simp [runI, ih]
theorem runI_snoc : ∀ (c : Nat) (a : Int), runI a (c + 1) = runI a c ++ [a + c] := by
  intro c
  induction c with
  | zero => intro a; simp [runI]
  | succ c ih =>
    intro a
    rw [runI, ih (a + 1), runI, List.cons_append]
    congr 3
    omega
theorem aft_run : ∀ (c : Nat) (n a : Nat), a + c ≤ n → aft n (runI (a : Int) c) + 1 = ch (n - a) c := by
  intro c
  induction c with
  | zero => intro n a h; simp [runI, aft, ch_zero]
  | succ c ih =>
    intro n a h
    have h1 := ih n (a + 1) (by omega)
    rw [show ((a + 1 : Nat) : Int) = (a : Int) + 1 by omega] at h1
    simp only [runI, aft, runI_len, Int.toNat_natCast]
    rw [show n - a = (n - 1 - a) + 1 by omega, ch_succ]
    rw [show n - (a + 1) = n - 1 - a by omega] at h1
    omega
theorem aft_full : ∀ (l : List Int) (n : Nat), (∀ j, j < l.length → (n : Int) - (l.length : Int) + (j : Int) ≤ dg l j) → (∀ j, j < l.length → dg l j < n) → l.length ≤ n → aft n l = 0 := by
  intro l
  induction l with
  | nil => intro n _ _ _; rfl
  | cons x t ih =>
    intro n h h2 hl
    have h0 := h 0 (by simp)
    have e0 : dg (x :: t) 0 = x := rfl
    rw [e0] at h0
    simp only [List.length_cons] at h0 hl
    have h1 := ih n (fun j hj => by
      have := h (j + 1) (by simp; omega)
      have e : dg (x :: t) (j + 1) = dg t j := rfl
      rw [e] at this
      simp only [List.length_cons] at this
      omega) (fun j hj => by
      have := h2 (j + 1) (by simp; omega)
      exact this) (by omega)
    simp only [aft, h1]
    rw [ch_gt _ _ (by omega)]
theorem aft_pos {n : Nat} {l : List Int} {i : Nat} (hi : i < l.length) (h0 : 0 ≤ dg l i) (h : dg l i < (n : Int) - l.length + i) : 0 < aft n l := by
  have e : l = l.take i ++ l.drop i := (List.take_append_drop i l).symm
  have h1 : ch (n - 1 - (dg l i).toNat) (l.length - i) ≤ aft n (l.drop i) := by
    rw [drop_dg hi]
    simp only [aft, List.length_drop]
    rw [show l.length - (i + 1) + 1 = l.length - i by omega]
    omega
  have h2 : 0 < ch (n - 1 - (dg l i).toNat) (l.length - i) := ch_pos (by omega)
  have h3 : ∀ p s : List Int, aft n s ≤ aft n (p ++ s) := by
    intro p s
    induction p with
    | nil => simp
    | cons x p ih => simp only [List.cons_append, aft]; omega
  have h4 := h3 (l.take i) (l.drop i)
  rw [← e] at h4
  omega
/-- The subset that follows. -/
theorem nxt_aft {n : Nat} {l : List Int} {i : Nat} (hi : i < l.length) (h0 : 0 ≤ dg l i) (h : dg l i < (n : Int) - l.length + i) (hf : aft n (l.drop (i + 1)) = 0) : aft n (l.take i ++ runI (dg l i + 1) (l.length - i)) + 1 = aft n l := by
  obtain ⟨a, ha⟩ := Int.eq_ofNat_of_zero_le h0
  have e : l = l.take i ++ l.drop i := (List.take_append_drop i l).symm
  have h1 := aft_app (n := n) (l.take i) (runI (dg l i + 1) (l.length - i)) (l.drop i) (by rw [runI_len, List.length_drop])
  rw [← e] at h1
  have h2 := aft_run (l.length - i) n (a + 1) (by omega)
  rw [show ((a + 1 : Nat) : Int) = dg l i + 1 by omega] at h2
  have h3 : aft n (l.drop i) = ch (n - 1 - a) (l.length - i) := by
    rw [drop_dg hi]
    simp only [aft, List.length_drop, hf, ha, Int.toNat_natCast]
    rw [show l.length - (i + 1) + 1 = l.length - i by omega]
    omega
  rw [show n - (a + 1) = n - 1 - a by omega] at h2
  omega
theorem run_up : ∀ (c : Nat) (n a : Int), a + c ≤ n → up n (a - 1) (runI a c) = true := by
  intro c
  induction c with
  | zero => intro n a h; rfl
  | succ c ih =>
    intro n a h
    have := ih n (a + 1) (by omega)
    rw [show a + 1 - 1 = a by omega] at this
    exact up_cons.2 ⟨by omega, by omega, this⟩
theorem up_take {n q : Int} {l : List Int} {i : Nat} {s : List Int} (h : up n q l = true) (hi : i < l.length) (hs : up n (dg l i) s = true) : up n q (l.take i ++ s) = true := by
  induction l generalizing q i with
  | nil => simp at hi
  | cons x t ih =>
    obtain ⟨h1, h2, h3⟩ := up_cons.1 h
    cases i with
    | zero => exact up_weak (by have e : dg (x :: t) 0 = x := rfl; rw [e]; omega) hs
    | succ i =>
      simp only [List.take_succ_cons, List.cons_append]
      exact up_cons.2 ⟨h1, h2, ih h3 (by simpa using hi) hs⟩
/-- Of two subsets the one with the smaller number at the first difference comes first. -/
theorem ch_mono {a b c : Nat} (h : a ≤ b) : ch a c ≤ ch b c := by
  induction b with
  | zero => obtain rfl : a = 0 := by omega
            exact Nat.le_refl _
  | succ b ih =>
    rcases Nat.lt_or_ge a (b + 1) with h1 | h1
    · refine Nat.le_trans (ih (by omega)) ?_
      cases c with
      | zero => rw [ch_zero, ch_zero]; exact Nat.le_refl _
      | succ c => rw [ch_succ]; omega
    · obtain rfl : a = b + 1 := by omega
      exact Nat.le_refl _
theorem order_lt {n : Nat} {a b : List Int} {i : Nat} (ha : up n (-1) a = true) (hb : up n (-1) b = true) (hl : a.length = b.length) (hi : i < a.length) (he : a.take i = b.take i) (h : dg a i < dg b i) : rnk n 0 a < rnk n 0 b := by
  have h1 := rnk_lt ha
  have h2 := rnk_lt hb
  have ea : a = a.take i ++ a.drop i := (List.take_append_drop i a).symm
  have eb : b = a.take i ++ b.drop i := by rw [he]; exact (List.take_append_drop i b).symm
  have h3 := aft_app (n := n) (a.take i) (a.drop i) (b.drop i) (by simp [hl])
  rw [← ea, ← eb] at h3
  have ma := up_mem ha i hi
  have mb := up_mem hb i (by omega)
  have h4 : ch (n - 1 - (dg a i).toNat) (a.length - i) ≤ aft n (a.drop i) := by
    rw [drop_dg hi]
    simp only [aft, List.length_drop]
    rw [show a.length - (i + 1) + 1 = a.length - i by omega]
    omega
  have h5 := rnk_aft (n := n) (b.drop i) (dg b i).toNat (by omega) (by
    rw [drop_dg (by omega)]
    exact up_cons.2 ⟨by omega, mb.2, up_drop hb i (by omega)⟩)
  have h6 : ch (n - (dg b i).toNat) (b.drop i).length ≤ ch (n - 1 - (dg a i).toNat) (a.length - i) := by
    rw [List.length_drop, ← hl]
    exact ch_mono (by omega)
  rw [hl] at h1
  omega

end Go.Proofs.Ytmafifpibfjomaa.M
