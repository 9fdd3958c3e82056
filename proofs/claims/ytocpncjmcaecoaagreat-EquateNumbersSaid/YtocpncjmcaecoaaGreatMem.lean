/- Plain mathematics on lists of digits to the base 2^32: values, normal forms. No program in it. Words for memory: a slice of digits that is read, a block of digits of the call's own. -/
import Derived.Below
import Derived.WalkKit
import Derived.KernelRfl
import Derived.Outline
import Derived.Lib.Hide
import Derived.BigQuiet
import Derived.Deep.QuietTactic
import Derived.RowKit3
import Derived.Deep.LoopGhost
import Derived.IntWalk
namespace Go.Proofs.YtocpncjmcaecoaaGreat.M
set_option maxRecDepth 10000

/-- Powers of the base. -/
def pw : Nat → Int
  | 0 => 1
  | k + 1 => 4294967296 * pw k
theorem pw_zero : pw 0 = 1 := rfl
theorem pw_succ (k : Nat) : pw (k + 1) = 4294967296 * pw k := rfl
theorem pw_pos (k : Nat) : 0 < pw k := by
  induction k with
  | zero => decide
  | succ k ih => rw [pw_succ]; omega
theorem pw_add (a b : Nat) : pw (a + b) = pw a * pw b := by
  induction a with
  | zero => simp [pw]
  | succ a ih => rw [show a + 1 + b = (a + b) + 1 from by omega, pw_succ, pw_succ, ih, Int.mul_assoc]
theorem pw_le {a b : Nat} (h : a ≤ b) : pw a ≤ pw b := by
  induction b with
  | zero => rw [Nat.le_zero.1 h]; exact Int.le_refl _
  | succ b ih =>
    rcases Nat.lt_or_ge a (b + 1) with h1 | h1
    · have := ih (by omega)
      have := pw_pos b
      rw [pw_succ]; omega
    · rw [show a = b + 1 from by omega]; exact Int.le_refl _

/-- A list's digit; 0 beyond the end. -/
def dg (xs : List Int) (j : Nat) : Int := xs.getD j 0
/-- All digits are digits. -/
def Lim (xs : List Int) : Prop := ∀ j, 0 ≤ dg xs j ∧ dg xs j ≤ 4294967295
theorem dg_nil (j : Nat) : dg [] j = 0 := by simp [dg]
theorem dg_cons (x : Int) (xs : List Int) (j : Nat) : dg (x :: xs) (j + 1) = dg xs j := by simp [dg]
theorem dg_cons0 (x : Int) (xs : List Int) : dg (x :: xs) 0 = x := by simp [dg]
theorem dg_ge {xs : List Int} {j : Nat} (h : xs.length ≤ j) : dg xs j = 0 := by simp [dg, List.getElem?_eq_none h]
theorem dg_get {xs : List Int} {j : Nat} (h : j < xs.length) : dg xs j = xs[j] := by simp [dg, h]
theorem dg_take (xs : List Int) (m j : Nat) : dg (xs.take m) j = if j < m then dg xs j else 0 := by
  unfold dg
  rw [List.getD_eq_getElem?_getD, List.getD_eq_getElem?_getD, List.getElem?_take]
  split <;> simp
theorem dg_drop (xs : List Int) (m j : Nat) : dg (xs.drop m) j = dg xs (m + j) := by
  simp [dg]
theorem dg_append (xs ys : List Int) (j : Nat) : dg (xs ++ ys) j = if j < xs.length then dg xs j else dg ys (j - xs.length) := by
  unfold dg
  rw [List.getD_eq_getElem?_getD, List.getD_eq_getElem?_getD, List.getD_eq_getElem?_getD, List.getElem?_append]
  split <;> simp
theorem dg_snoc (xs : List Int) (x : Int) (j : Nat) : dg (xs ++ [x]) j = if j = xs.length then x else dg xs j := by
  rw [dg_append]
  by_cases h : j < xs.length
  · rw [if_pos h, if_neg (by omega)]
  · rw [if_neg h]
    by_cases h2 : j = xs.length
    · rw [if_pos h2, h2, Nat.sub_self, dg_cons0]
    · rw [if_neg h2, dg_ge (by simp; omega), dg_ge (by omega)]
theorem dg_set (xs : List Int) (i : Nat) (x : Int) (j : Nat) : dg (xs.set i x) j = if j = i ∧ i < xs.length then x else dg xs j := by
  unfold dg
  rw [List.getD_eq_getElem?_getD, List.getD_eq_getElem?_getD, List.getElem?_set]
  by_cases h : i = j
  · subst h
    by_cases h2 : i < xs.length
    · rw [if_pos rfl, if_pos h2, if_pos ⟨rfl, h2⟩]; rfl
    · rw [if_pos rfl, if_neg h2, if_neg (fun h => h2 h.2)]
      simp [List.getElem?_eq_none (by omega : xs.length ≤ i)]
  · rw [if_neg h, if_neg (fun h2 => h h2.1.symm)]
theorem dg_replicate (n j : Nat) : dg (List.replicate n 0) j = 0 := by
  unfold dg
  rw [List.getD_eq_getElem?_getD, List.getElem?_replicate]
  split <;> rfl
theorem Lim.nil : Lim [] := fun j => by rw [dg_nil]; omega
theorem Lim.of_mem {xs : List Int} (h : ∀ x ∈ xs, 0 ≤ x ∧ x ≤ 4294967295) : Lim xs := fun j => by
  by_cases hj : j < xs.length
  · rw [dg_get hj]; exact h _ (List.getElem_mem hj)
  · rw [dg_ge (by omega)]; omega
theorem Lim.mem {xs : List Int} (h : Lim xs) : ∀ x ∈ xs, 0 ≤ x ∧ x ≤ 4294967295 := fun x hx => by
  obtain ⟨j, hj, rfl⟩ := List.mem_iff_getElem.1 hx
  have := h j
  rwa [dg_get hj] at this
theorem Lim.take {xs : List Int} (h : Lim xs) (m : Nat) : Lim (xs.take m) := fun j => by
  rw [dg_take]; split
  · exact h j
  · omega
theorem Lim.snoc {xs : List Int} (h : Lim xs) {x : Int} (h0 : 0 ≤ x) (h1 : x ≤ 4294967295) : Lim (xs ++ [x]) := fun j => by
  rw [dg_snoc]; split
  · exact ⟨h0, h1⟩
  · exact h j
theorem Lim.set {xs : List Int} (h : Lim xs) (i : Nat) {x : Int} (h0 : 0 ≤ x) (h1 : x ≤ 4294967295) : Lim (xs.set i x) := fun j => by
  rw [dg_set]; split
  · exact ⟨h0, h1⟩
  · exact h j
theorem Lim.replicate (n : Nat) : Lim (List.replicate n 0) := fun j => by rw [dg_replicate]; omega
theorem Lim.tail {x : Int} {xs : List Int} (h : Lim (x :: xs)) : Lim xs := fun j => by have := h (j + 1); rwa [dg_cons] at this

/-- The first k digits' value. -/
def S (f : Nat → Int) : Nat → Int
  | 0 => 0
  | k + 1 => S f k + f k * pw k
theorem S_zero (f : Nat → Int) : S f 0 = 0 := rfl
theorem S_succ (f : Nat → Int) (k : Nat) : S f (k + 1) = S f k + f k * pw k := rfl
theorem S_congr {f g : Nat → Int} {k : Nat} (h : ∀ j, j < k → f j = g j) : S f k = S g k := by
  induction k with
  | zero => rfl
  | succ k ih => rw [S_succ, S_succ, ih (fun j hj => h j (by omega)), h k (by omega)]
theorem S_null {f : Nat → Int} {k : Nat} (h : ∀ j, j < k → f j = 0) : S f k = 0 := by
  induction k with
  | zero => rfl
  | succ k ih => rw [S_succ, ih (fun j hj => h j (by omega)), h k (by omega)]; simp
/-- Zeros above count nothing. -/
theorem S_more {f : Nat → Int} {k n : Nat} (hn : k ≤ n) (h : ∀ j, k ≤ j → j < n → f j = 0) : S f n = S f k := by
  induction n with
  | zero => rw [show k = 0 from by omega]
  | succ n ih =>
    rcases Nat.lt_or_ge k (n + 1) with h1 | h1
    · rw [S_succ, ih (by omega) (fun j a b => h j a (by omega)), h n (by omega) (by omega)]; simp
    · rw [show k = n + 1 from by omega]
theorem S_bound {f : Nat → Int} {k : Nat} (h : ∀ j, j < k → 0 ≤ f j ∧ f j ≤ 4294967295) : 0 ≤ S f k ∧ S f k < pw k := by
  induction k with
  | zero => exact ⟨Int.le_refl _, by rw [S_zero, pw_zero]; omega⟩
  | succ k ih =>
    obtain ⟨h1, h2⟩ := ih (fun j hj => h j (by omega))
    obtain ⟨h3, h4⟩ := h k (by omega)
    have hp := pw_pos k
    have a : 0 ≤ f k * pw k := Int.mul_nonneg h3 (by omega)
    have b : f k * pw k ≤ 4294967295 * pw k := Int.mul_le_mul_of_nonneg_right h4 (by omega)
    rw [S_succ, pw_succ]
    omega
/-- One digit is turned. -/
theorem S_set {f g : Nat → Int} {i n : Nat} (hi : i < n) (h : ∀ j, j < n → j ≠ i → g j = f j) : S g n = S f n + (g i - f i) * pw i := by
  induction n with
  | zero => omega
  | succ n ih =>
    rw [S_succ, S_succ]
    by_cases e : i = n
    · subst e
      rw [S_congr (fun j hj => h j (by omega) (by omega)), Int.sub_mul]
      omega
    · rw [ih (by omega) (fun j a b => h j (by omega) b), h n (by omega) (by omega)]
      omega
theorem S_shift (f : Nat → Int) (k : Nat) : S f (k + 1) = f 0 + 4294967296 * S (fun j => f (j + 1)) k := by
  induction k with
  | zero => simp [S, pw]
  | succ k ih =>
    rw [S_succ, ih, S_succ, pw_succ, Int.mul_add, ← Int.mul_assoc, ← Int.mul_assoc, Int.mul_comm (f (k + 1)) 4294967296]
    omega
/-- The digits from a on. -/
theorem S_split (f : Nat → Int) (a b : Nat) : S f (a + b) = S f a + pw a * S (fun j => f (a + j)) b := by
  induction b with
  | zero => simp [S]
  | succ b ih =>
    rw [show a + (b + 1) = (a + b) + 1 from by omega, S_succ, ih, S_succ, pw_add, Int.mul_add, Int.mul_left_comm (pw a)]
    omega

/-- A list's value. -/
def V (xs : List Int) : Int := S (dg xs) xs.length
theorem V_at {xs : List Int} {n : Nat} (h : xs.length ≤ n) : S (dg xs) n = V xs := S_more h (fun _ hj _ => dg_ge hj)
theorem V_nil : V [] = 0 := rfl
theorem V_nonneg {xs : List Int} (h : Lim xs) : 0 ≤ V xs := (S_bound (fun j _ => h j)).1
theorem V_lt {xs : List Int} (h : Lim xs) : V xs < pw xs.length := (S_bound (fun j _ => h j)).2
theorem V_cons (x : Int) (xs : List Int) : V (x :: xs) = x + 4294967296 * V xs := by
  unfold V
  rw [List.length_cons, S_shift, dg_cons0]
  rw [S_congr (g := dg xs) (fun j _ => dg_cons x xs j)]
theorem V_snoc (xs : List Int) (x : Int) : V (xs ++ [x]) = V xs + x * pw xs.length := by
  unfold V
  rw [List.length_append, List.length_singleton, S_succ, dg_snoc, if_pos rfl]
  congr 1
  exact S_congr (fun j hj => by rw [dg_snoc, if_neg (by omega)])
theorem V_replicate (n : Nat) : V (List.replicate n 0) = 0 := S_null (fun j _ => dg_replicate n j)
theorem V_set {xs : List Int} {i : Nat} (hi : i < xs.length) (x : Int) : V (xs.set i x) = V xs + (x - dg xs i) * pw i := by
  unfold V
  rw [List.length_set, S_set hi (f := dg xs) (fun j _ hj => by rw [dg_set, if_neg (fun h => hj h.1)]), dg_set, if_pos ⟨rfl, hi⟩]
theorem V_take {xs : List Int} {m : Nat} (h : ∀ j, m ≤ j → dg xs j = 0) : V (xs.take m) = V xs := by
  rw [← V_at (xs := xs.take m) (n := xs.length) (by simp; omega)]
  unfold V
  exact S_congr (fun j hj => by
    rw [dg_take]
    split
    · rfl
    · exact (h j (by omega)).symm)

/-- The normal form of a number. -/
def limbsF : Nat → Nat → List Int
  | 0, _ => []
  | f + 1, n => if n = 0 then [] else ((n % 4294967296 : Nat) : Int) :: limbsF f (n / 4294967296)
def limbs (n : Nat) : List Int := limbsF n n
theorem limbsF_any (f : Nat) : ∀ g n, n ≤ f → n ≤ g → limbsF f n = limbsF g n := by
  induction f with
  | zero => intro g n h1 h2; rw [show n = 0 from by omega]; cases g <;> rfl
  | succ f ih =>
    intro g n h1 h2
    cases g with
    | zero => rw [show n = 0 from by omega]; rfl
    | succ g =>
      unfold limbsF
      by_cases h : n = 0
      · rw [if_pos h, if_pos h]
      · rw [if_neg h, if_neg h, ih g (n / 4294967296) (by omega) (by omega)]
theorem limbs_zero : limbs 0 = [] := rfl
theorem limbs_pos {n : Nat} (h : n ≠ 0) : limbs n = ((n % 4294967296 : Nat) : Int) :: limbs (n / 4294967296) := by
  unfold limbs
  obtain ⟨m, rfl⟩ : ∃ m, n = m + 1 := ⟨n - 1, by omega⟩
  rw [limbsF, if_neg h, limbsF_any m ((m + 1) / 4294967296) ((m + 1) / 4294967296) (by omega) (Nat.le_refl _)]
/-- A list in normal form. -/
def Nf (xs : List Int) : Prop := Lim xs ∧ (0 < xs.length → dg xs (xs.length - 1) ≠ 0)
theorem Nf.lim {xs : List Int} (h : Nf xs) : Lim xs := h.1
theorem Nf.nil : Nf [] := ⟨Lim.nil, fun h => by simp at h⟩
theorem Nf.tail {x : Int} {xs : List Int} (h : Nf (x :: xs)) : Nf xs := ⟨h.1.tail, fun h0 => by
  have := h.2 (by simp)
  rwa [List.length_cons, Nat.add_sub_cancel, show xs.length = (xs.length - 1) + 1 from by omega, dg_cons] at this⟩
theorem Nf.pos {xs : List Int} (h : Nf xs) (h0 : 0 < xs.length) : pw (xs.length - 1) ≤ V xs := by
  unfold V
  rw [show xs.length = (xs.length - 1) + 1 from by omega, S_succ]
  have h1 := (S_bound (f := dg xs) (k := xs.length - 1) (fun j _ => h.1 j)).1
  have h2 := h.2 h0
  have h3 := (h.1 (xs.length - 1)).1
  have hp := pw_pos (xs.length - 1)
  have : 1 * pw (xs.length - 1) ≤ dg xs (xs.length - 1) * pw (xs.length - 1) := Int.mul_le_mul_of_nonneg_right (by omega) (by omega)
  simp only [Nat.add_sub_cancel]
  omega
theorem Nf.V_pos {xs : List Int} (h : Nf xs) (h0 : 0 < xs.length) : 0 < V xs := by
  have := h.pos h0
  have := pw_pos (xs.length - 1)
  omega
theorem Nf.eq_limbs : ∀ {xs : List Int}, Nf xs → xs = limbs (V xs).toNat
  | [], _ => rfl
  | x :: xs, h => by
    have hv := h.V_pos (by simp)
    have ht := V_nonneg h.tail.1
    have hx := h.1 0
    rw [dg_cons0] at hx
    have ih := Nf.eq_limbs h.tail
    rw [limbs_pos (by omega), V_cons]
    have e1 : (x + 4294967296 * V xs).toNat % 4294967296 = x.toNat := by omega
    have e2 : (x + 4294967296 * V xs).toNat / 4294967296 = (V xs).toNat := by omega
    rw [e1, e2, ← ih]
    congr 1
    omega
theorem limbsF_nf (f : Nat) : ∀ n, n ≤ f → Nf (limbsF f n) ∧ V (limbsF f n) = n := by
  induction f with
  | zero => intro n h; rw [show n = 0 from by omega]; exact ⟨Nf.nil, rfl⟩
  | succ f ih =>
    intro n h
    unfold limbsF
    by_cases h0 : n = 0
    · rw [if_pos h0, h0]; exact ⟨Nf.nil, rfl⟩
    · rw [if_neg h0]
      obtain ⟨⟨a1, a2⟩, b⟩ := ih (n / 4294967296) (by omega)
      refine ⟨⟨fun j => ?_, fun _ => ?_⟩, ?_⟩
      · cases j with
        | zero => rw [dg_cons0]; omega
        | succ j => rw [dg_cons]; exact a1 j
      · rw [List.length_cons, Nat.add_sub_cancel]
        generalize limbsF f (n / 4294967296) = l at *
        cases hl : l.length with
        | zero =>
          have : l = [] := List.length_eq_zero_iff.1 hl
          subst this
          rw [dg_cons0]
          rw [V_nil] at b
          omega
        | succ m => rw [dg_cons]; have := a2 (by omega); rwa [hl, Nat.add_sub_cancel] at this
      · rw [V_cons, b]; omega
theorem limbs_nf (n : Nat) : Nf (limbs n) := (limbsF_nf n n (Nat.le_refl _)).1
theorem V_limbs (n : Nat) : V (limbs n) = n := (limbsF_nf n n (Nat.le_refl _)).2
/-- What is in normal form and has this value is this list. -/
theorem limbs_of {xs : List Int} (h : Nf xs) {n : Nat} (hv : V xs = n) : xs = limbs n := by
  rw [h.eq_limbs, hv]; rfl
theorem limbs_len {n m : Nat} (h : (n : Int) < pw m) : (limbs n).length ≤ m := by
  rcases Nat.lt_or_ge m (limbs n).length with h1 | h1
  · have h2 := (limbs_nf n).pos (by omega)
    rw [V_limbs] at h2
    have := pw_le (show m ≤ (limbs n).length - 1 from by omega)
    omega
  · exact h1
theorem limbs_lt (n : Nat) : (n : Int) < pw (limbs n).length := by
  have := V_lt (limbs_nf n).1
  rwa [V_limbs] at this
theorem limbs_inj {a b : Nat} (h : limbs a = limbs b) : a = b := by
  have h1 := V_limbs a
  have h2 := V_limbs b
  rw [h] at h1
  omega
theorem limbs_eq_nil {n : Nat} : limbs n = [] ↔ n = 0 := by
  constructor
  · intro h
    have := V_limbs n
    rw [h, V_nil] at this
    omega
  · intro h; rw [h]; rfl

/-- How many digits count, of the first k. -/
def tl (xs : List Int) : Nat → Nat
  | 0 => 0
  | k + 1 => if dg xs k = 0 then tl xs k else k + 1
theorem tl_le (xs : List Int) (k : Nat) : tl xs k ≤ k := by
  induction k with
  | zero => exact Nat.le_refl _
  | succ k ih => unfold tl; split <;> omega
theorem tl_zeros (xs : List Int) (k : Nat) : ∀ j, tl xs k ≤ j → j < k → dg xs j = 0 := by
  induction k with
  | zero => intro j _ h; omega
  | succ k ih =>
    intro j h1 h2
    unfold tl at h1
    split at h1
    · by_cases e : j = k
      · subst e; assumption
      · exact ih j h1 (by omega)
    · omega
theorem tl_top (xs : List Int) (k : Nat) : 0 < tl xs k → dg xs (tl xs k - 1) ≠ 0 := by
  induction k with
  | zero => intro h; simp [tl] at h
  | succ k ih =>
    unfold tl
    split
    · exact ih
    · intro _; rwa [Nat.add_sub_cancel]
/-- The normal form of a list. -/
def nrm (xs : List Int) : List Int := limbs (V xs).toNat
theorem take_tl {xs : List Int} (h : Lim xs) : xs.take (tl xs xs.length) = nrm xs := by
  have hle := tl_le xs xs.length
  have hz := tl_zeros xs xs.length
  have ht := tl_top xs xs.length
  generalize tl xs xs.length = m at *
  have hl : (xs.take m).length = m := by simp; omega
  refine limbs_of ⟨h.take m, fun h0 => ?_⟩ ?_
  · rw [hl] at h0 ⊢
    rw [dg_take, if_pos (by omega)]
    exact ht h0
  · have := V_nonneg h
    rw [V_take (fun j hj => ?_)]
    · omega
    · by_cases hj2 : j < xs.length
      · exact hz j hj hj2
      · exact dg_ge (by omega)
theorem nrm_nf (xs : List Int) : Nf (nrm xs) := limbs_nf _
theorem V_nrm {xs : List Int} (h : Lim xs) : V (nrm xs) = V xs := by
  unfold nrm
  rw [V_limbs]
  have := V_nonneg h
  omega
theorem nrm_len {xs : List Int} (h : Lim xs) : (nrm xs).length ≤ xs.length := by
  rw [← take_tl h, List.length_take]; omega
theorem tl_len {xs : List Int} (h : Lim xs) : tl xs xs.length = (nrm xs).length := by
  have hle := tl_le xs xs.length
  rw [← take_tl h, List.length_take]; omega
theorem nrm_limbs (n : Nat) : nrm (limbs n) = limbs n := by
  unfold nrm
  rw [V_limbs]; rfl
theorem Nf.nrm {xs : List Int} (h : Nf xs) : nrm xs = xs := h.eq_limbs.symm
theorem dg_nrm {xs : List Int} (h : Lim xs) (j : Nat) : dg (M.nrm xs) j = dg xs j := by
  rw [← take_tl h, dg_take]
  split
  · rfl
  · by_cases hj : j < xs.length
    · exact (tl_zeros xs xs.length j (by omega) hj).symm
    · exact (dg_ge (by omega)).symm

/-- -1, 0 or 1. -/
def cmpI (a b : Int) : Int := if a < b then -1 else if a = b then 0 else 1
theorem cmpI_lt {a b : Int} (h : a < b) : cmpI a b = -1 := if_pos h
theorem cmpI_gt {a b : Int} (h : b < a) : cmpI a b = 1 := by unfold cmpI; rw [if_neg (by omega), if_neg (by omega)]
theorem cmpI_eq {a b : Int} (h : a = b) : cmpI a b = 0 := by unfold cmpI; rw [if_neg (by omega), if_pos h]
/-- The highest difference decides. -/
theorem S_lt {f g : Nat → Int} {i n : Nat} (hf : ∀ j, 0 ≤ f j ∧ f j ≤ 4294967295) (hg : ∀ j, 0 ≤ g j ∧ g j ≤ 4294967295) (hi : i < n) (he : ∀ j, i < j → j < n → f j = g j) (hl : f i < g i) : S f n < S g n := by
  induction n with
  | zero => omega
  | succ n ih =>
    rw [S_succ, S_succ]
    by_cases e : i = n
    · subst e
      have h1 := (S_bound (f := f) (k := i) (fun j _ => hf j)).2
      have h2 := (S_bound (f := g) (k := i) (fun j _ => hg j)).1
      have h3 : (f i + 1) * pw i ≤ g i * pw i := Int.mul_le_mul_of_nonneg_right (by omega) (by have := pw_pos i; omega)
      rw [Int.add_mul] at h3
      omega
    · rw [he n (by omega) (by omega)]
      have := ih (by omega) (fun j a b => he j a (by omega))
      omega
theorem Nf.lt_of_len {xs ys : List Int} (hx : Nf xs) (hy : Nf ys) (h : xs.length < ys.length) : V xs < V ys := by
  have h1 := V_lt hx.1
  have h2 := hy.pos (by omega)
  have := pw_le (show xs.length ≤ ys.length - 1 from by omega)
  omega

end Go.Proofs.YtocpncjmcaecoaaGreat.M
namespace Go.Proofs.YtocpncjmcaecoaaGreat.M
set_option maxRecDepth 10000
open Go.RowKit

/-- A slice of whole numbers that is read. -/
def Rk (w : World) (k : IntKind) (A : Option Addr) (c : Nat) (xs : List Int) : Prop :=
  xs.length ≤ c ∧ c ≤ 9223372036854775807 ∧ ∀ j, j < xs.length → ∃ ad, A = some ad ∧ w.cell? (ad.add j) = some (.int k (dg xs j))
theorem Rk.below {w w1 : World} {k : IntKind} {A : Option Addr} {c : Nat} {xs : List Int} (h : Rk w k A c xs) (hb : Below w.heap.size w w1) : Rk w1 k A c xs :=
  ⟨h.1, h.2.1, fun j hj => by
    obtain ⟨ad, e, hc⟩ := h.2.2 j hj
    exact ⟨ad, e, (hb.cell (World.block_lt_of_cell? w _ hc)).trans hc⟩⟩
theorem Rk.take {w : World} {k : IntKind} {A : Option Addr} {c m : Nat} {xs : List Int} (h : Rk w k A c xs) (hm : m ≤ xs.length) : Rk w k A m (xs.take m) := by
  have hl : (xs.take m).length = m := by rw [List.length_take]; omega
  obtain ⟨h1, h2, h3⟩ := h
  refine ⟨by omega, by omega, fun j hj => ?_⟩
  obtain ⟨ad, e, hc⟩ := h3 j (by omega)
  exact ⟨ad, e, by rw [dg_take, if_pos (by omega)]; exact hc⟩
/-- A number that is read: its limbs. -/
def RN (w : World) (A : Option Addr) (c : Nat) (xs : List Int) : Prop := Rk w .u32 A c xs ∧ Lim xs
theorem RN.below {w w1 : World} {A : Option Addr} {c : Nat} {xs : List Int} (h : RN w A c xs) (hb : Below w.heap.size w w1) : RN w1 A c xs := ⟨h.1.below hb, h.2⟩
theorem RN.nil (w : World) : RN w none 0 [] := ⟨⟨Nat.le_refl _, by omega, fun j hj => by simp at hj⟩, Lim.nil⟩

/-- A block of the call's own, that holds these numbers and no more. -/
def Bk (w : World) (g e : Nat) (k : IntKind) (l : List Int) : Prop := w.heap[g]? = some (.cells (l.map (Value.int k)).toArray e (0, 0))
theorem Bk.lt {w : World} {g e : Nat} {k : IntKind} {l : List Int} (h : Bk w g e k l) : g < w.heap.size := (Array.getElem?_eq_some_iff.1 h).1
theorem add_at (g j : Nat) : (⟨g, 0, none⟩ : Addr).add j = ⟨g, j, none⟩ := by unfold Addr.add; split <;> simp_all
theorem Bk.cell {w : World} {g e : Nat} {k : IntKind} {l : List Int} (h : Bk w g e k l) {j : Nat} (hj : j < l.length) : w.cell? ⟨g, j, none⟩ = some (.int k (dg l j)) ∧ w.frozen? ⟨g, j, none⟩ = false := by
  unfold Bk at h
  constructor
  · simp only [World.cell?, h]
    simp [dg_get hj, hj]
  · simp [World.frozen?, h]
theorem Bk.set {w : World} {g e : Nat} {k : IntKind} {l : List Int} (h : Bk w g e k l) (j : Nat) (x : Int) : Bk (w.setCell ⟨g, j, none⟩ (.int k x)) g e k (l.set j x) := by
  have hb := Bk.lt h
  unfold Bk at h ⊢
  simp only [World.setCell, Array.getElem?_modify, if_true, h, Option.map_some]
  simp
theorem heap_new (w : World) (o : Obj) : (w.alloc o).heap[w.heap.size]? = some o := by
  show (w.heap.push o)[w.heap.size]? = some o
  rw [Array.getElem?_push, if_pos rfl]
theorem Bk.made {w : World} {e : Nat} {k : IntKind} (n : Nat) : Bk (w.alloc (.cells (madeCells #[.int k 0] n) e (0, 0))) w.heap.size e k (List.replicate n 0) := by
  unfold Bk
  have : madeCells #[.int k 0] n = ((List.replicate n 0).map (Value.int k)).toArray := by
    apply Array.ext
    · simp [size_madeCells]
    · intro i h1 h2
      simp [madeCells, Nat.mod_one]
  rw [this]
  exact heap_new w _
theorem Bk.lit {w : World} {e : Nat} {k : IntKind} (l : List Int) : Bk (w.alloc (.cells (l.map (Value.int k)).toArray e (0, 0))) w.heap.size e k l := by
  exact heap_new w _
/-- The whole block as a slice that is read. -/
theorem Bk.reads {w : World} {g e : Nat} {k : IntKind} {l : List Int} (h : Bk w g e k l) (hm : l.length ≤ 9223372036854775807) : Rk w k (some ⟨g, 0, none⟩) l.length l :=
  ⟨Nat.le_refl _, hm, fun j hj => ⟨_, rfl, by rw [add_at]; exact (h.cell hj).1⟩⟩
theorem Bk.below {w w1 : World} {B g e : Nat} {k : IntKind} {l : List Int} (h : Bk w g e k l) (hb : Below B w w1) (hg : g < B) : Bk w1 g e k l := by
  unfold Bk at h ⊢
  rw [hb.block g hg]; exact h
theorem Bk.below' {w w1 : World} {g e : Nat} {k : IntKind} {l : List Int} (h : Bk w g e k l) (hb : Below w.heap.size w w1) : Bk w1 g e k l := h.below hb h.lt
theorem below_set {B g j : Nat} {w w1 : World} (h : Below B w w1) (hg : B ≤ g) (v : Value) : Below B w (w1.setCell ⟨g, j, none⟩ v) := h.setCell (p := ⟨g, j, none⟩) hg v
/-- Two calls one behind the other. -/
theorem below_then {B : Nat} {w w1 w2 : World} (h : Below B w w1) (hB : B ≤ w1.heap.size) (k : Below w1.heap.size w1 w2) : Below B w w2 := h.trans (k.mono hB)
theorem below_seq {w w1 w2 : World} (h : Below w.heap.size w w1) (k : Below w1.heap.size w1 w2) : Below w.heap.size w w2 := h.trans (k.mono h.size)
theorem below_drewN {B : Nat} {w W : World} (h : Below B w W) (n : Nat) : Below B w (W.drewN n) := ⟨h.os, h.tape, h.output, h.size, h.block⟩

end Go.Proofs.YtocpncjmcaecoaaGreat.M
