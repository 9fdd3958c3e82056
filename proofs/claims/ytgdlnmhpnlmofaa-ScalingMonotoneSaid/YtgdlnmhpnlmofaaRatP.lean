/- Rational numbers, in plain Lean: what a fraction is worth, its lowest terms. -/
import Derived.Test.YtgdlnmhpnlmofaaInt
namespace Go.Proofs.Ytgdlnmhpnlmofaa.M
set_option maxRecDepth 10000
open Go.RowKit
set_option linter.unusedVariables false

/-- A rational number in normal form, in memory that exists; nothing old is changed. -/
def RetQ (q : Rat) (w : World) (e : Ending) (w' : World) : Prop :=
  ∃ b A c xs B d ys, e = .returned (.agg #[.bool b, .slice A xs.length c, .slice B ys.length d]) ∧ Hid (b = decide (q.num < 0)) ∧ Hid (xs = limbs q.num.natAbs) ∧ Hid (ys = limbs q.den) ∧ RN w' A c xs ∧ RN w' B d ys ∧ Below w.heap.size w w'
/-- The same, and a bool. -/
def RetQB (q : Rat) (ok : Bool) (w : World) (e : Ending) (w' : World) : Prop :=
  ∃ b A c xs B d ys, e = .returned (.tuple #[.agg #[.bool b, .slice A xs.length c, .slice B ys.length d], .bool ok]) ∧ Hid (b = decide (q.num < 0)) ∧ Hid (xs = limbs q.num.natAbs) ∧ Hid (ys = limbs q.den) ∧ RN w' A c xs ∧ RN w' B d ys ∧ Below w.heap.size w w'

/-- What a fraction is worth; 0 where the denominator is 0. -/
def qv (b : Bool) (xs ys : List Int) : Rat := mkRat (zv b xs) (V ys).toNat
/-- A fraction's parts. -/
def qn (b : Bool) (xs ys : List Int) : Int := if V ys = 0 then 0 else zv b xs
def qd (ys : List Int) : Int := if V ys = 0 then 1 else V ys
def RetParts (b : Bool) (xs ys : List Int) (w : World) (e : Ending) (w' : World) : Prop :=
  ∃ b1 A1 c1 x b2 A2 c2 y, e = .returned (.tuple #[.agg #[.bool b1, .slice A1 x.length c1], .agg #[.bool b2, .slice A2 y.length c2]]) ∧ Hid (zv b1 x = qn b xs ys) ∧ Hid (zv b2 y = qd ys) ∧ Hid (x.length ≤ xs.length) ∧ Hid (y.length ≤ ys.length + 1) ∧ RN w' A1 c1 x ∧ RN w' A2 c2 y ∧ Below w.heap.size w w'

theorem low_num {n : Int} {d : Nat} (hd : d ≠ 0) : (mkRat n d).num = n / ((Nat.gcd n.natAbs d : Nat) : Int) ∧ (mkRat n d).den = d / Nat.gcd n.natAbs d := by
  rw [Rat.num_mkRat, Rat.den_mkRat, if_neg hd, if_neg hd, Nat.gcd_comm]
  exact ⟨rfl, rfl⟩
theorem low_parts {b : Bool} {xs ys q1 : List Int} (hx : Lim xs) (hy : Lim ys) (hny : V ys ≠ 0) (hq : V q1 = (((V xs).toNat / Nat.gcd (V xs).toNat (V ys).toNat : Nat) : Int)) :
    zv b q1 = (qv b xs ys).num ∧ (V ys).toNat / Nat.gcd (V xs).toNat (V ys).toNat = (qv b xs ys).den := by
  have h0 := V_nonneg hx
  have h1 := V_nonneg hy
  obtain ⟨e1, e2⟩ := low_num (n := zv b xs) (d := (V ys).toNat) (by omega)
  unfold qv
  rw [e1, e2, zv_abs b hx]
  refine ⟨?_, rfl⟩
  cases b
  · rw [zv_f, zv_f, hq, Int.natCast_ediv, Int.toNat_of_nonneg h0]
  · rw [zv_t, zv_t, hq, Int.natCast_ediv, Int.toNat_of_nonneg h0, Int.neg_ediv_of_dvd]
    have := Nat.gcd_dvd_left (V xs).toNat (V ys).toNat
    have h2 := Int.ofNat_dvd.2 this
    rwa [Int.toNat_of_nonneg h0] at h2
theorem qv_zero {b : Bool} {xs ys : List Int} (h : V ys = 0) : qv b xs ys = 0 := by
  unfold qv; rw [h]; rfl
theorem qv_null {b : Bool} {xs ys : List Int} (h : V xs = 0) : qv b xs ys = 0 := by
  unfold qv
  have : zv b xs = 0 := by
    cases b
    · rw [zv_f]; exact h
    · rw [zv_t, h]; rfl
  rw [this]
  exact Rat.zero_mkRat _
theorem limbs_div_len {x : List Int} (h : Lim x) (g : Nat) : (limbs ((V x).toNat / g)).length ≤ x.length := by
  refine limbs_len (Int.lt_of_le_of_lt ?_ (V_lt h))
  have := V_nonneg h
  have h2 := Nat.div_le_self (V x).toNat g
  omega

theorem mk_parts {n : Int} {d : Nat} (hd : d ≠ 0) : ∃ m : Nat, m ≠ 0 ∧ n = (mkRat n d).num * m ∧ d = (mkRat n d).den * m :=
  Rat.mkRat_num_den hd (z' := (mkRat n d).den_nz) (c := (mkRat n d).reduced) rfl
theorem mk_lt {n n' : Int} {d d' : Nat} (hd : d ≠ 0) (hd' : d' ≠ 0) : mkRat n d < mkRat n' d' ↔ n * d' < n' * d := by
  obtain ⟨m, hm, e1, e2⟩ := mk_parts (n := n) hd
  obtain ⟨m', hm', e3, e4⟩ := mk_parts (n := n') hd'
  rw [Rat.lt_iff]
  generalize mkRat n d = q at *
  generalize mkRat n' d' = q' at *
  subst e1 e2 e3 e4
  have h : (0 : Int) < (m : Int) * m' := Int.mul_pos (by omega) (by omega)
  have a1 : q.num * ↑m * ↑(q'.den * m') = (q.num * ↑q'.den) * ((m : Int) * m') := by simp only [Int.natCast_mul, Int.mul_assoc, Int.mul_comm, Int.mul_left_comm]
  have a2 : q'.num * ↑m' * ↑(q.den * m) = (q'.num * ↑q.den) * ((m : Int) * m') := by simp only [Int.natCast_mul, Int.mul_assoc, Int.mul_comm, Int.mul_left_comm]
  rw [a1, a2]
  exact ⟨fun h2 => Int.mul_lt_mul_of_pos_right h2 h, fun h2 => Int.lt_of_mul_lt_mul_right h2 (Int.le_of_lt h)⟩
theorem mk_small {n : Int} {d : Nat} (hd : d ≠ 0) : (mkRat n d).num.natAbs ≤ n.natAbs ∧ (mkRat n d).den ≤ d := by
  obtain ⟨m, hm, e1, e2⟩ := mk_parts (n := n) hd
  constructor
  · have h : n.natAbs = (mkRat n d).num.natAbs * m := by
      have := congrArg Int.natAbs e1
      rwa [Int.natAbs_mul, Int.natAbs_natCast] at this
    rw [h]
    exact Nat.le_mul_of_pos_right _ (by omega)
  · have := Nat.le_mul_of_pos_right (mkRat n d).den (show 0 < m by omega)
    omega
/-- Comparison of two numbers: -1, 0 or 1. -/
def cmpQ (p q : Rat) : Int := if p < q then -1 else if p = q then 0 else 1
theorem cmpQ_mk {n n' : Int} {d d' : Nat} (hd : d ≠ 0) (hd' : d' ≠ 0) : cmpI (n * d') (n' * d) = cmpQ (mkRat n d) (mkRat n' d') := by
  unfold cmpI cmpQ
  by_cases h : n * d' < n' * d
  · rw [if_pos h, if_pos ((mk_lt hd hd').2 h)]
  · rw [if_neg h, if_neg (fun h2 => h ((mk_lt hd hd').1 h2))]
    by_cases h3 : n * d' = n' * d
    · rw [if_pos h3, if_pos ((Rat.mkRat_eq_iff hd hd').2 h3)]
    · rw [if_neg h3, if_neg (fun h2 => h3 ((Rat.mkRat_eq_iff hd hd').1 h2))]
theorem qd_pos {ys : List Int} (h : Lim ys) : 0 < qd ys := by
  have := V_nonneg h
  unfold qd
  split <;> omega
theorem qv_parts {b : Bool} {xs ys : List Int} (h : Lim ys) : qv b xs ys = mkRat (qn b xs ys) (qd ys).toNat := by
  unfold qn qd
  by_cases h0 : V ys = 0
  · rw [if_pos h0, if_pos h0, qv_zero h0]; rfl
  · rw [if_neg h0, if_neg h0]; rfl
theorem cmp_qv {p q : Bool} {xs ys us vs : List Int} (hy : Lim ys) (hv : Lim vs) : cmpI (qn p xs ys * qd vs) (qn q us vs * qd ys) = cmpQ (qv p xs ys) (qv q us vs) := by
  have h1 := qd_pos hy
  have h2 := qd_pos hv
  rw [qv_parts hy, qv_parts hv, ← cmpQ_mk (by omega) (by omega), Int.toNat_of_nonneg (by omega), Int.toNat_of_nonneg (by omega)]
theorem sign_qv {b : Bool} {xs ys : List Int} (hy : Lim ys) : cmpI (qn b xs ys) 0 = cmpQ (qv b xs ys) 0 := by
  have h1 := qd_pos hy
  have h := cmpQ_mk (n := qn b xs ys) (n' := 0) (d := (qd ys).toNat) (d' := 1) (by omega) (by decide)
  rw [← qv_parts hy, Int.zero_mul] at h
  have e : mkRat 0 1 = 0 := rfl
  rw [e] at h
  rw [← h]
  congr 1
  omega
theorem cmpQ_lt {p q : Rat} : cmpQ p q < 0 ↔ p < q := by
  unfold cmpQ
  by_cases h : p < q
  · rw [if_pos h]; exact ⟨fun _ => h, fun _ => by decide⟩
  · rw [if_neg h]
    constructor
    · intro h2; split at h2 <;> omega
    · intro h2; exact absurd h2 h

theorem qv_norm (q : Rat) : qv (decide (q.num < 0)) (limbs q.num.natAbs) (limbs q.den) = q := by
  unfold qv
  rw [zv_norm, V_limbs, Int.toNat_natCast]
  exact Rat.mkRat_self _
theorem mk_len {n : Int} {m : Nat} (hm : m ≠ 0) (h1 : n.natAbs < 18446744073709551616) (h2 : m < 18446744073709551616) : (limbs (mkRat n m).num.natAbs).length ≤ 2 ∧ (limbs (mkRat n m).den).length ≤ 2 := by
  have hs := mk_small (n := n) hm
  constructor
  · refine limbs_len ?_
    rw [pw_succ, pw_succ, pw_zero]
    omega
  · refine limbs_len ?_
    rw [pw_succ, pw_succ, pw_zero]
    omega

end Go.Proofs.Ytgdlnmhpnlmofaa.M
