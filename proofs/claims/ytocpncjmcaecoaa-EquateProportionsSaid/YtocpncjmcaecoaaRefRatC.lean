/- Integers of the reference. Rational numbers of the reference: parts, lowest terms, making. Rational numbers of the reference: making, comparison, product. The product of two ratios of the reference; its chance. -/
import Derived.Test.YtocpncjmcaecoaaRatC
namespace Go.Proofs.Ytocpncjmcaecoaa.M
set_option maxRecDepth 10000
open Go.RowKit
set_option linter.unusedVariables false
set_option linter.unusedSimpArgs false

theorem zv_not (b : Bool) (xs : List Int) : zv (!b) xs = -zv b xs := by
  cases b <;> simp [zv]

end Go.Proofs.Ytocpncjmcaecoaa.M
namespace Go.Proofs.Ytocpncjmcaecoaa.M
set_option maxRecDepth 10000
open Go.RowKit
set_option linter.unusedVariables false
set_option linter.unusedSimpArgs false
theorem BL_zero {N b : Nat} (h : BL N b) : b = 0 ↔ N = 0 := by
  rcases h with ⟨h1, h2⟩ | ⟨h1, h2, h3⟩
  · omega
  · have := Nat.two_pow_pos (b - 1)
    omega

end Go.Proofs.Ytocpncjmcaecoaa.M
namespace Go.Proofs.Ytocpncjmcaecoaa.M
set_option maxRecDepth 10000
open Go.RowKit
set_option linter.unusedVariables false
set_option linter.unusedSimpArgs false
theorem qn_len {b : Bool} {xs ys : List Int} (h : Lim xs) : (limbs (qn b xs ys).natAbs).length ≤ xs.length := by
  unfold qn
  split
  · exact Nat.zero_le _
  · rw [zv_abs b h]
    have h1 := limbs_div_len h 1
    rwa [Nat.div_one] at h1
theorem qd_len {ys : List Int} (h : Lim ys) : (limbs (qd ys).toNat).length ≤ ys.length + 1 := by
  unfold qd
  split
  · exact Nat.le_trans (limbs_len (m := 1) (by decide)) (by omega)
  · have h1 := limbs_div_len h 1
    rw [Nat.div_one] at h1
    omega
theorem below_on {w W1 w2 : World} {B : Nat} (h : Below B w W1) (hB : Below W1.heap.size W1 w2) (hs : B ≤ w.heap.size := by exact Nat.le_refl _) : Below B w w2 := h.trans (hB.mono (Nat.le_trans hs h.size))

end Go.Proofs.Ytocpncjmcaecoaa.M
namespace Go.Proofs.Ytocpncjmcaecoaa.M
set_option maxRecDepth 10000
open Go.RowKit
set_option linter.unusedVariables false
set_option linter.unusedSimpArgs false

theorem mul_small (p q : Rat) : (p * q).num.natAbs ≤ p.num.natAbs * q.num.natAbs ∧ (p * q).den ≤ p.den * q.den := by
  have h := mk_small (n := p.num * q.num) (d := p.den * q.den) (Nat.mul_ne_zero p.den_nz q.den_nz)
  have e : mkRat (p.num * q.num) (p.den * q.den) = p * q := by
    rw [← Rat.mkRat_mul_mkRat, Rat.mkRat_self, Rat.mkRat_self]
  rw [e, Int.natAbs_mul] at h
  exact h
theorem nat_len {n : Nat} {x : List Int} {k : Nat} (hx : Lim x) (h : n ≤ (V x).toNat) (hk : x.length ≤ k) : (limbs n).length ≤ k := by
  refine limbs_len ?_
  have h1 := V_lt hx
  have h2 := V_nonneg hx
  have h3 := pw_le hk
  omega
/-- How long the parts of a fraction's lowest terms are. -/
theorem qlen {b : Bool} {xs ys : List Int} (hx : Lim xs) (hy : Lim ys) : (limbs (qv b xs ys).num.natAbs).length ≤ xs.length ∧ (limbs (qv b xs ys).den).length ≤ ys.length + 1 := by
  have h0 := qd_pos hy
  have h := mk_small (n := qn b xs ys) (d := (qd ys).toNat) (by omega)
  rw [← qv_parts hy] at h
  constructor
  · refine Nat.le_trans ?_ (qn_len (b := b) (ys := ys) hx)
    refine limbs_len (Int.lt_of_le_of_lt ?_ (limbs_lt (qn b xs ys).natAbs))
    omega
  · refine Nat.le_trans ?_ (qd_len hy)
    refine limbs_len (Int.lt_of_le_of_lt ?_ (limbs_lt (qd ys).toNat))
    omega
theorem nat_mul_len (a b : Nat) : (limbs (a * b)).length ≤ (limbs a).length + (limbs b).length := by
  have h := mul_len (limbs_nf a).1 (limbs_nf b).1
  rwa [V_limbs, V_limbs, Int.toNat_natCast, Int.toNat_natCast] at h
theorem nat_le_len {a b : Nat} (h : a ≤ b) : (limbs a).length ≤ (limbs b).length := limbs_len (Int.lt_of_le_of_lt (Int.ofNat_le.2 h) (limbs_lt b))
theorem qlen_mul {b q : Bool} {xs ys us vs : List Int} (hx : Lim xs) (hy : Lim ys) (hu : Lim us) (hv : Lim vs) : (limbs (qv b xs ys * qv q us vs).num.natAbs).length ≤ xs.length + us.length ∧ (limbs (qv b xs ys * qv q us vs).den).length ≤ ys.length + vs.length + 2 := by
  have h1 := qlen (b := b) hx hy
  have h2 := qlen (b := q) hu hv
  have h := mul_small (qv b xs ys) (qv q us vs)
  have h3 := nat_le_len h.1
  have h4 := nat_le_len h.2
  have h5 := nat_mul_len (qv b xs ys).num.natAbs (qv q us vs).num.natAbs
  have h6 := nat_mul_len (qv b xs ys).den (qv q us vs).den
  omega

end Go.Proofs.Ytocpncjmcaecoaa.M
