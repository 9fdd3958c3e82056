/- How long the parts of fractions are; comparisons; integer parts. -/
import Derived.Test.YtocpncjmcaecoaaGreatEqA
namespace Go.Proofs.YtocpncjmcaecoaaGreat.M
set_option maxRecDepth 10000
open Go.RowKit
set_option linter.unusedVariables false
set_option linter.unusedSimpArgs false
/-- Both parts of a fraction have at most n limbs. -/
def sz (q : Rat) (n : Nat) : Prop := (limbs q.num.natAbs).length ≤ n ∧ (limbs q.den).length ≤ n
theorem sz.mono {q : Rat} {a b : Nat} (h : sz q a) (hab : a ≤ b) : sz q b := ⟨Nat.le_trans h.1 hab, Nat.le_trans h.2 hab⟩
theorem szl {q : Rat} {n : Nat} {x y : List Int} (h1 : x = limbs q.num.natAbs) (h2 : y = limbs q.den) (h : sz q n) : x.length ≤ n ∧ y.length ≤ n := by
  rw [h1, h2]; exact h
theorem sz_cells {b : Bool} {xs ys : List Int} (hx : Lim xs) (hy : Lim ys) {n : Nat} (h1 : xs.length ≤ n) (h2 : ys.length + 1 ≤ n) : sz (qv b xs ys) n := by
  have h := qlen (b := b) hx hy
  exact ⟨Nat.le_trans h.1 h1, Nat.le_trans h.2 h2⟩
theorem nat_add_max (a b : Nat) : (limbs (a + b)).length ≤ max (limbs a).length (limbs b).length + 1 := by
  refine limbs_len ?_
  have h1 := limbs_lt a
  have h2 := limbs_lt b
  have h3 := pw_le (Nat.le_max_left (limbs a).length (limbs b).length)
  have h4 := pw_le (Nat.le_max_right (limbs a).length (limbs b).length)
  rw [pw_succ]
  omega
theorem sz_neg {q : Rat} {n : Nat} (h : sz q n) : sz (-q) n := by
  unfold sz
  rw [Rat.neg_num, Rat.neg_den, Int.natAbs_neg]
  exact h
theorem sz_add {p q : Rat} {a b : Nat} (h1 : sz p a) (h2 : sz q b) : sz (p + q) (a + b + 1) := by
  have e : mkRat (p.num * q.den + q.num * p.den) (p.den * q.den) = p + q := by
    rw [← Rat.mkRat_add_mkRat _ _ p.den_nz q.den_nz, Rat.mkRat_self, Rat.mkRat_self]
  have h := mk_small (n := p.num * q.den + q.num * p.den) (d := p.den * q.den) (Nat.mul_ne_zero p.den_nz q.den_nz)
  rw [e] at h
  have k0 : (p.num * q.den + q.num * p.den).natAbs ≤ p.num.natAbs * q.den + q.num.natAbs * p.den := by
    refine Nat.le_trans (Int.natAbs_add_le _ _) ?_
    rw [Int.natAbs_mul, Int.natAbs_mul, Int.natAbs_natCast, Int.natAbs_natCast]
    exact Nat.le_refl _
  have k1 := nat_le_len (Nat.le_trans h.1 k0)
  have k2 := nat_le_len h.2
  have k3 := nat_add_max (p.num.natAbs * q.den) (q.num.natAbs * p.den)
  have k4 := nat_mul_len p.num.natAbs q.den
  have k5 := nat_mul_len q.num.natAbs p.den
  have k6 := nat_mul_len p.den q.den
  obtain ⟨a1, a2⟩ := h1
  obtain ⟨b1, b2⟩ := h2
  constructor <;> omega
theorem sz_sub {p q : Rat} {a b : Nat} (h1 : sz p a) (h2 : sz q b) : sz (p - q) (a + b + 1) := by
  rw [Rat.sub_eq_add_neg]
  exact sz_add h1 (sz_neg h2)
theorem sz_mul {p q : Rat} {a b : Nat} (h1 : sz p a) (h2 : sz q b) : sz (p * q) (a + b) := by
  have h := mul_small p q
  have k1 := nat_le_len h.1
  have k2 := nat_le_len h.2
  have k3 := nat_mul_len p.num.natAbs q.num.natAbs
  have k4 := nat_mul_len p.den q.den
  obtain ⟨a1, a2⟩ := h1
  obtain ⟨b1, b2⟩ := h2
  constructor <;> omega
theorem sz_div {p q : Rat} {a b : Nat} (hq : 0 < q.num) (h1 : sz p a) (h2 : sz q b) : sz (p / q) (a + b) := by
  have e : mkRat (p.num * q.den) (p.den * q.num.toNat) = p / q := by
    have h := qdiv_eq (a := p.num) (b := (p.den : Int)) (c := q.num) (d := (q.den : Int)) (by have := p.den_nz; omega) hq (by have := q.den_nz; omega)
    have e1 : ((p.den : Int) * q.num).toNat = p.den * q.num.toNat := by
      have h2 : (q.num.toNat : Int) = q.num := Int.toNat_of_nonneg (by omega)
      have h3 : ((p.den * q.num.toNat : Nat) : Int) = (p.den : Int) * q.num := by rw [Int.natCast_mul, h2]
      omega
    have e2 : mkRat q.num (q.den : Int).toNat = q := by rw [Int.toNat_natCast, Rat.mkRat_self]
    have e3 : mkRat p.num (p.den : Int).toNat = p := by rw [Int.toNat_natCast, Rat.mkRat_self]
    rw [e1, e2, e3] at h
    exact h
  have h := mk_small (n := p.num * q.den) (d := p.den * q.num.toNat) (Nat.mul_ne_zero p.den_nz (by omega))
  rw [e, Int.natAbs_mul, Int.natAbs_natCast] at h
  have k1 := nat_le_len h.1
  have k2 := nat_le_len h.2
  have k3 := nat_mul_len p.num.natAbs q.den
  have k4 := nat_mul_len p.den q.num.toNat
  obtain ⟨a1, a2⟩ := h1
  obtain ⟨b1, b2⟩ := h2
  have e4 : q.num.toNat = q.num.natAbs := by omega
  rw [e4] at k4 k2 h
  constructor <;> omega
theorem sz_int {n : Int} (h : n.natAbs < 4294967296) : sz ((n : Int) : Rat) 1 := by
  unfold sz
  rw [Rat.num_intCast, Rat.den_intCast]
  exact ⟨limbs_len (by rw [pw_succ, pw_zero]; omega), limbs_len (m := 1) (by decide)⟩
theorem sz_half {n : Int} (h : n.natAbs < 4294967296) : sz (mkRat n 2) 1 := by
  have k := mk_small (n := n) (d := 2) (by decide)
  exact ⟨Nat.le_trans (nat_le_len k.1) (limbs_len (by rw [pw_succ, pw_zero]; omega)), Nat.le_trans (nat_le_len k.2) (limbs_len (m := 1) (by decide))⟩
theorem cmpQ_leE {p q : Rat} : cmpQ p q ≤ 0 ↔ ¬ q < p := by
  unfold cmpQ
  by_cases h : p < q
  · rw [if_pos h]
    exact ⟨fun _ h2 => absurd (Rat.le_of_lt h2) (Rat.not_le.2 h), fun _ => by decide⟩
  · rw [if_neg h]
    by_cases h2 : p = q
    · rw [if_pos h2, h2]
      exact ⟨fun _ => Rat.lt_irrefl, fun _ => by decide⟩
    · rw [if_neg h2]
      refine ⟨fun h3 => absurd h3 (by decide), fun h3 => ?_⟩
      exact absurd (Rat.le_antisymm (Rat.not_lt.1 h3) (Rat.not_lt.1 h)) h2
theorem cmpQ_geE {p q : Rat} : 0 ≤ cmpQ p q ↔ ¬ p < q := by
  rw [← cmpQ_lt]
  omega
theorem rat_lt_int {q : Rat} {n : Int} : q < ((n : Int) : Rat) ↔ q.num < n * (q.den : Int) := by
  have h := mk_lt (n := q.num) (n' := n) (d := q.den) (d' := 1) q.den_nz (by decide)
  rw [Rat.mkRat_self, mkRat_int] at h
  rw [h]
  omega
theorem int_lt_rat {q : Rat} {n : Int} : ((n : Int) : Rat) < q ↔ n * (q.den : Int) < q.num := by
  have h := mk_lt (n := n) (n' := q.num) (d := 1) (d' := q.den) (by decide) q.den_nz
  rw [Rat.mkRat_self, mkRat_int] at h
  rw [h]
  omega
/-- The integer part of a fraction. -/
def flr (q : Rat) : Int := q.num / (q.den : Int)
theorem flr_range {q : Rat} {n : Int} (h0 : ¬ q ≤ 0) (h1 : q < ((n : Int) : Rat)) : 0 ≤ flr q ∧ flr q < n := by
  have hd : 0 < (q.den : Int) := by have := q.den_nz; omega
  have h2 : ((0 : Int) : Rat) < q := Rat.not_le.1 h0
  rw [int_lt_rat] at h2
  rw [rat_lt_int] at h1
  unfold flr
  exact ⟨Int.ediv_nonneg (by omega) (Int.le_of_lt hd), Int.ediv_lt_of_lt_mul hd h1⟩

end Go.Proofs.YtocpncjmcaecoaaGreat.M
