/- Percentile ranks in plain numbers: a sum of clamped differences. -/
import Derived.Test.YtocpncjmcaecoaaGreatSprP
namespace Go.Proofs.YtocpncjmcaecoaaGreat.M
set_option maxRecDepth 10000
open Go.RowKit
set_option linter.unusedVariables false
set_option linter.unusedSimpArgs false
/-- A number cut to 0 and 1. -/
def clampR (t : Rat) : Rat := if t ≤ 0 then 0 else if 1 ≤ t then 1 else t
theorem clampR_low {t : Rat} (h : t ≤ 0) : clampR t = 0 := if_pos h
theorem clampR_high {t : Rat} (h : 1 ≤ t) : clampR t = 1 := by
  unfold clampR
  rw [if_neg (fun h2 => by grind), if_pos h]
theorem clampR_mid {t : Rat} (h0 : 0 ≤ t) (h1 : t ≤ 1) : clampR t = t := by
  unfold clampR
  split
  · grind
  · split
    · grind
    · rfl
theorem clampR_in (t : Rat) : 0 ≤ clampR t ∧ clampR t ≤ 1 := by
  unfold clampR
  split
  · grind
  · split
    · grind
    · grind
theorem clampR_mono {s t : Rat} (h : s ≤ t) : clampR s ≤ clampR t := by
  unfold clampR
  split <;> split <;> (try split) <;> (try split) <;> grind
theorem icast_succ (k : Nat) : (((k + 1 : Nat) : Int) : Rat) = ((k : Int) : Rat) + 1 := by
  rw [Int.natCast_add, Rat.intCast_add]
  rfl
theorem icast_le {a b : Int} (h : a ≤ b) : ((a : Int) : Rat) ≤ ((b : Int) : Rat) := Rat.intCast_le_intCast.2 h
/-- How many persons lie below y. -/
def BQ (f : List Int) : Nat → Rat → Rat
  | 0, _ => 0
  | n + 1, y => BQ f n y + ((dg f n : Int) : Rat) * clampR (y - ((n : Int) : Rat))
theorem BQ_succ (f : List Int) (n : Nat) (y : Rat) : BQ f (n + 1) y = BQ f n y + ((dg f n : Int) : Rat) * clampR (y - ((n : Int) : Rat)) := rfl
theorem BQ_low (f : List Int) {y : Rat} (h : y ≤ 0) : ∀ n, BQ f n y = 0
  | 0 => rfl
  | n + 1 => by
    have h1 : (0 : Rat) ≤ ((n : Int) : Rat) := icast_le (a := 0) (by omega)
    rw [BQ_succ, BQ_low f h n, clampR_low (by grind), Rat.mul_zero, Rat.add_zero]
theorem BQ_full (f : List Int) : ∀ n : Nat, ∀ y : Rat, ((n : Int) : Rat) ≤ y → BQ f n y = ((tot f n : Int) : Rat)
  | 0, _, _ => rfl
  | n + 1, y, h => by
    rw [icast_succ] at h
    rw [BQ_succ, BQ_full f n y (by grind), clampR_high (by grind), Rat.mul_one, tot_succ, Rat.intCast_add]
theorem BQ_at (f : List Int) {k : Nat} {d : Rat} (h0 : 0 ≤ d) (h1 : d ≤ 1) : ∀ n, k < n → BQ f n (((k : Int) : Rat) + d) = ((tot f k : Int) : Rat) + ((dg f k : Int) : Rat) * d
  | 0, h => by omega
  | n + 1, h => by
    rw [BQ_succ]
    rcases Nat.lt_or_ge k n with hk | hk
    · have h2 : ((k : Int) : Rat) + 1 ≤ ((n : Int) : Rat) := by
        rw [← icast_succ]
        exact icast_le (by omega)
      rw [BQ_at f h0 h1 n hk, clampR_low (by grind), Rat.mul_zero, Rat.add_zero]
    · obtain rfl : n = k := by omega
      rw [BQ_full f n _ (by grind), show ((n : Int) : Rat) + d - ((n : Int) : Rat) = d by grind, clampR_mid h0 h1]
theorem BQ_mono {f : List Int} (hf : freq f) {y z : Rat} (h : y ≤ z) : ∀ n, n ≤ f.length → BQ f n y ≤ BQ f n z
  | 0, _ => Rat.le_refl
  | n + 1, hn => by
    have h1 := BQ_mono hf h n (by omega)
    have h2 : (0 : Rat) ≤ ((dg f n : Int) : Rat) := icast_le (a := 0) (hf n (by omega)).1
    have h3 := Rat.mul_le_mul_of_nonneg_left (clampR_mono (s := y - ((n : Int) : Rat)) (t := z - ((n : Int) : Rat)) (by grind)) h2
    rw [BQ_succ, BQ_succ]
    grind
theorem BQ_in {f : List Int} (hf : freq f) (y : Rat) : ∀ n, n ≤ f.length → 0 ≤ BQ f n y ∧ BQ f n y ≤ ((tot f n : Int) : Rat)
  | 0, _ => ⟨Rat.le_refl, Rat.le_refl⟩
  | n + 1, hn => by
    have h1 := BQ_in hf y n (by omega)
    have h2 : (0 : Rat) ≤ ((dg f n : Int) : Rat) := icast_le (a := 0) (hf n (by omega)).1
    have h4 := clampR_in (y - ((n : Int) : Rat))
    have h3 := Rat.mul_le_mul_of_nonneg_left h4.2 h2
    have h5 := Rat.mul_nonneg h2 h4.1
    rw [BQ_succ, tot_succ, Rat.intCast_add]
    rw [Rat.mul_one] at h3
    grind
theorem cut_offE (q : Rat) : q - ((q.num / (q.den : Int) : Int) : Rat) = mkRat (q.num % (q.den : Int)) q.den := by
  have h0 := q.den_nz
  have e1 : q = mkRat q.num q.den := (Rat.mkRat_self q).symm
  have e2 : -(((q.num / (q.den : Int) : Int)) : Rat) = mkRat (-(q.num / (q.den : Int))) 1 := by
    rw [← Rat.intCast_neg, Rat.mkRat_one]
  rw [Rat.sub_eq_add_neg, e2]
  conv => lhs; lhs; rw [e1]
  rw [Rat.mkRat_add_mkRat _ _ h0 (by decide)]
  congr 1
  · have := Int.emod_def q.num (q.den : Int)
    have e3 : -(q.num / (q.den : Int)) * (q.den : Int) = -((q.den : Int) * (q.num / (q.den : Int))) := by rw [Int.neg_mul, Int.mul_comm]
    omega
  · omega
theorem flr_parts (y : Rat) : 0 ≤ y - ((flr y : Int) : Rat) ∧ y - ((flr y : Int) : Rat) ≤ 1 := by
  have h := cut_offE y
  have hd : 0 < (y.den : Int) := by have := y.den_nz; omega
  have h1 := Int.emod_nonneg y.num (show (y.den : Int) ≠ 0 by omega)
  have h2 := Int.emod_lt_of_pos y.num hd
  unfold flr
  rw [h]
  constructor
  · have h3 := cmp_mk0 (n := y.num % (y.den : Int)) (d := y.den) y.den_nz
    have h4 : ¬ cmpQ (mkRat (y.num % (y.den : Int)) y.den) 0 < 0 := by
      rw [h3]
      unfold cmpI
      split
      · omega
      · split <;> decide
    exact Rat.not_lt.1 (fun h5 => h4 (cmpQ_lt.2 h5))
  · have h3 := mk_lt (n := 1) (n' := y.num % (y.den : Int)) (d := 1) (d' := y.den) (by decide) y.den_nz
    refine Rat.not_lt.1 (fun h5 => ?_)
    have h6 := h3.1 h5
    omega
/-- The percentile rank, in every case. -/
theorem rank_BQ {f : List Int} (h : validE f = 0) (x : Rat) : rankQ f x = BQ f f.length (x + mkRat 1 2) / ((tot f f.length : Int) : Rat) := by
  obtain ⟨h1, h2, h3⟩ := valid_parts h
  have hT : ((tot f f.length : Int) : Rat) ≠ 0 := fun h4 => by
    have h5 := Rat.intCast_inj.1 (show ((tot f f.length : Int) : Rat) = ((0 : Int) : Rat) from h4)
    omega
  unfold rankQ
  rw [if_neg (fun h4 => h4 h)]
  obtain ⟨y, hy⟩ : ∃ y, x + mkRat 1 2 = y := ⟨_, rfl⟩
  rw [hy]
  split
  · rename_i h4
    rw [cmpQ_leE] at h4
    rw [BQ_low f (Rat.not_lt.1 h4), Rat.div_def, Rat.zero_mul]
  · rename_i h4
    split
    · rename_i h5
      rw [cmpQ_geE] at h5
      rw [BQ_full f f.length y (Rat.not_lt.1 h5), Rat.div_def, Rat.mul_inv_cancel _ hT]
    · rename_i h5
      rw [cmpQ_leE] at h4
      rw [cmpQ_geE] at h5
      obtain ⟨k1, k2⟩ := flr_range (n := (f.length : Int)) (q := y) (Rat.not_le.2 (Classical.not_not.1 h4)) (Classical.not_not.1 h5)
      obtain ⟨k, hk⟩ : ∃ k : Nat, flr y = (k : Int) := ⟨(flr y).toNat, by omega⟩
      obtain ⟨d0, d1⟩ := flr_parts y
      rw [hk] at d0 d1
      unfold rankM
      rw [hk, Int.toNat_natCast, ← BQ_at f d0 d1 f.length (by omega)]
      congr 2
      grind

end Go.Proofs.YtocpncjmcaecoaaGreat.M
