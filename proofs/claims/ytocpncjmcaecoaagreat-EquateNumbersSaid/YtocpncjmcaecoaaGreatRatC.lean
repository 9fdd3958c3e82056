/- Rational numbers, in plain Lean: what a fraction is worth, its lowest terms. Rational numbers of the program: zero, whole, parts, lowest terms, making, comparison, sign. Rational numbers of the program: parts, making, of small numbers, comparison, sign. Rational numbers of the program: sign and comparison. -/
import Derived.Test.YtocpncjmcaecoaaGreatInt
import Derived.Test.YtocpncjmcaecoaaGreatGcd
namespace Go.Proofs.YtocpncjmcaecoaaGreat.M
set_option maxRecDepth 10000
open Go.RowKit
set_option linter.unusedVariables false

/-- A rational number in normal form, in memory that exists; nothing old is changed. -/
def RetQ (q : Rat) (w : World) (e : Ending) (w' : World) : Prop :=
  ∃ b A c xs B d ys, e = .returned (.agg #[.bool b, .slice A xs.length c, .slice B ys.length d]) ∧ Hid (b = decide (q.num < 0)) ∧ Hid (xs = limbs q.num.natAbs) ∧ Hid (ys = limbs q.den) ∧ RN w' A c xs ∧ RN w' B d ys ∧ Below w.heap.size w w'
/-- The same, and a bool. -/
def RetQB (q : Rat) (ok : Bool) (w : World) (e : Ending) (w' : World) : Prop :=
  ∃ b A c xs B d ys, e = .returned (.tuple #[.agg #[.bool b, .slice A xs.length c, .slice B ys.length d], .bool ok]) ∧ Hid (b = decide (q.num < 0)) ∧ Hid (xs = limbs q.num.natAbs) ∧ Hid (ys = limbs q.den) ∧ RN w' A c xs ∧ RN w' B d ys ∧ Below w.heap.size w w'

/-- What a fraction is worth; 0 where the denominator is 0. -/
def qv (b : Bool) (xs ys : List Int) : Rat := mkRat (zv b xs) (V ys).toNat
/-- A fraction's parts. -/
def qn (b : Bool) (xs ys : List Int) : Int := if V ys = 0 then 0 else zv b xs
def qd (ys : List Int) : Int := if V ys = 0 then 1 else V ys
def RetParts (b : Bool) (xs ys : List Int) (w : World) (e : Ending) (w' : World) : Prop :=
  ∃ b1 A1 c1 x b2 A2 c2 y, e = .returned (.tuple #[.agg #[.bool b1, .slice A1 x.length c1], .agg #[.bool b2, .slice A2 y.length c2]]) ∧ Hid (zv b1 x = qn b xs ys) ∧ Hid (zv b2 y = qd ys) ∧ Hid (x.length ≤ xs.length) ∧ Hid (y.length ≤ ys.length + 1) ∧ RN w' A1 c1 x ∧ RN w' A2 c2 y ∧ Below w.heap.size w w'

theorem low_num {n : Int} {d : Nat} (hd : d ≠ 0) : (mkRat n d).num = n / ((Nat.gcd n.natAbs d : Nat) : Int) ∧ (mkRat n d).den = d / Nat.gcd n.natAbs d := by
  rw [Rat.num_mkRat, Rat.den_mkRat, if_neg hd, if_neg hd, Nat.gcd_comm]
  exact ⟨rfl, rfl⟩
theorem low_parts {b : Bool} {xs ys q1 : List Int} (hx : Lim xs) (hy : Lim ys) (hny : V ys ≠ 0) (hq : V q1 = (((V xs).toNat / Nat.gcd (V xs).toNat (V ys).toNat : Nat) : Int)) :
    zv b q1 = (qv b xs ys).num ∧ (V ys).toNat / Nat.gcd (V xs).toNat (V ys).toNat = (qv b xs ys).den := by
  have h0 := V_nonneg hx
  have h1 := V_nonneg hy
  obtain ⟨e1, e2⟩ := low_num (n := zv b xs) (d := (V ys).toNat) (by omega)
  unfold qv
  rw [e1, e2, zv_abs b hx]
  refine ⟨?_, rfl⟩
  cases b
  · rw [zv_f, zv_f, hq, Int.natCast_ediv, Int.toNat_of_nonneg h0]
  · rw [zv_t, zv_t, hq, Int.natCast_ediv, Int.toNat_of_nonneg h0, Int.neg_ediv_of_dvd]
    have := Nat.gcd_dvd_left (V xs).toNat (V ys).toNat
    have h2 := Int.ofNat_dvd.2 this
    rwa [Int.toNat_of_nonneg h0] at h2
theorem qv_zero {b : Bool} {xs ys : List Int} (h : V ys = 0) : qv b xs ys = 0 := by
  unfold qv; rw [h]; rfl
theorem qv_null {b : Bool} {xs ys : List Int} (h : V xs = 0) : qv b xs ys = 0 := by
  unfold qv
  have : zv b xs = 0 := by
    cases b
    · rw [zv_f]; exact h
    · rw [zv_t, h]; rfl
  rw [this]
  exact Rat.zero_mkRat _
theorem limbs_div_len {x : List Int} (h : Lim x) (g : Nat) : (limbs ((V x).toNat / g)).length ≤ x.length := by
  refine limbs_len (Int.lt_of_le_of_lt ?_ (V_lt h))
  have := V_nonneg h
  have h2 := Nat.div_le_self (V x).toNat g
  omega

theorem mk_parts {n : Int} {d : Nat} (hd : d ≠ 0) : ∃ m : Nat, m ≠ 0 ∧ n = (mkRat n d).num * m ∧ d = (mkRat n d).den * m :=
  Rat.mkRat_num_den hd (z' := (mkRat n d).den_nz) (c := (mkRat n d).reduced) rfl
theorem mk_lt {n n' : Int} {d d' : Nat} (hd : d ≠ 0) (hd' : d' ≠ 0) : mkRat n d < mkRat n' d' ↔ n * d' < n' * d := by
  obtain ⟨m, hm, e1, e2⟩ := mk_parts (n := n) hd
  obtain ⟨m', hm', e3, e4⟩ := mk_parts (n := n') hd'
  rw [Rat.lt_iff]
  generalize mkRat n d = q at *
  generalize mkRat n' d' = q' at *
  subst e1 e2 e3 e4
  have h : (0 : Int) < (m : Int) * m' := Int.mul_pos (by omega) (by omega)
  have a1 : q.num * ↑m * ↑(q'.den * m') = (q.num * ↑q'.den) * ((m : Int) * m') := by simp only [Int.natCast_mul, Int.mul_assoc, Int.mul_comm, Int.mul_left_comm]
  have a2 : q'.num * ↑m' * ↑(q.den * m) = (q'.num * ↑q.den) * ((m : Int) * m') := by simp only [Int.natCast_mul, Int.mul_assoc, Int.mul_comm, Int.mul_left_comm]
  rw [a1, a2]
  exact ⟨fun h2 => Int.mul_lt_mul_of_pos_right h2 h, fun h2 => Int.lt_of_mul_lt_mul_right h2 (Int.le_of_lt h)⟩
theorem mk_small {n : Int} {d : Nat} (hd : d ≠ 0) : (mkRat n d).num.natAbs ≤ n.natAbs ∧ (mkRat n d).den ≤ d := by
  obtain ⟨m, hm, e1, e2⟩ := mk_parts (n := n) hd
  constructor
  · have h : n.natAbs = (mkRat n d).num.natAbs * m := by
      have := congrArg Int.natAbs e1
      rwa [Int.natAbs_mul, Int.natAbs_natCast] at this
    rw [h]
    exact Nat.le_mul_of_pos_right _ (by omega)
  · have := Nat.le_mul_of_pos_right (mkRat n d).den (show 0 < m by omega)
    omega
/-- Comparison of two numbers: -1, 0 or 1. -/
def cmpQ (p q : Rat) : Int := if p < q then -1 else if p = q then 0 else 1
theorem cmpQ_mk {n n' : Int} {d d' : Nat} (hd : d ≠ 0) (hd' : d' ≠ 0) : cmpI (n * d') (n' * d) = cmpQ (mkRat n d) (mkRat n' d') := by
  unfold cmpI cmpQ
  by_cases h : n * d' < n' * d
  · rw [if_pos h, if_pos ((mk_lt hd hd').2 h)]
  · rw [if_neg h, if_neg (fun h2 => h ((mk_lt hd hd').1 h2))]
    by_cases h3 : n * d' = n' * d
    · rw [if_pos h3, if_pos ((Rat.mkRat_eq_iff hd hd').2 h3)]
    · rw [if_neg h3, if_neg (fun h2 => h3 ((Rat.mkRat_eq_iff hd hd').1 h2))]
theorem qd_pos {ys : List Int} (h : Lim ys) : 0 < qd ys := by
  have := V_nonneg h
  unfold qd
  split <;> omega
theorem qv_parts {b : Bool} {xs ys : List Int} (h : Lim ys) : qv b xs ys = mkRat (qn b xs ys) (qd ys).toNat := by
  unfold qn qd
  by_cases h0 : V ys = 0
  · rw [if_pos h0, if_pos h0, qv_zero h0]; rfl
  · rw [if_neg h0, if_neg h0]; rfl
theorem cmp_qv {p q : Bool} {xs ys us vs : List Int} (hy : Lim ys) (hv : Lim vs) : cmpI (qn p xs ys * qd vs) (qn q us vs * qd ys) = cmpQ (qv p xs ys) (qv q us vs) := by
  have h1 := qd_pos hy
  have h2 := qd_pos hv
  rw [qv_parts hy, qv_parts hv, ← cmpQ_mk (by omega) (by omega), Int.toNat_of_nonneg (by omega), Int.toNat_of_nonneg (by omega)]
theorem sign_qv {b : Bool} {xs ys : List Int} (hy : Lim ys) : cmpI (qn b xs ys) 0 = cmpQ (qv b xs ys) 0 := by
  have h1 := qd_pos hy
  have h := cmpQ_mk (n := qn b xs ys) (n' := 0) (d := (qd ys).toNat) (d' := 1) (by omega) (by decide)
  rw [← qv_parts hy, Int.zero_mul] at h
  have e : mkRat 0 1 = 0 := rfl
  rw [e] at h
  rw [← h]
  congr 1
  omega
theorem cmpQ_lt {p q : Rat} : cmpQ p q < 0 ↔ p < q := by
  unfold cmpQ
  by_cases h : p < q
  · rw [if_pos h]; exact ⟨fun _ => h, fun _ => by decide⟩
  · rw [if_neg h]
    constructor
    · intro h2; split at h2 <;> omega
    · intro h2; exact absurd h2 h

theorem qv_norm (q : Rat) : qv (decide (q.num < 0)) (limbs q.num.natAbs) (limbs q.den) = q := by
  unfold qv
  rw [zv_norm, V_limbs, Int.toNat_natCast]
  exact Rat.mkRat_self _
theorem mk_len {n : Int} {m : Nat} (hm : m ≠ 0) (h1 : n.natAbs < 18446744073709551616) (h2 : m < 18446744073709551616) : (limbs (mkRat n m).num.natAbs).length ≤ 2 ∧ (limbs (mkRat n m).den).length ≤ 2 := by
  have hs := mk_small (n := n) hm
  constructor
  · refine limbs_len ?_
    rw [pw_succ, pw_succ, pw_zero]
    omega
  · refine limbs_len ?_
    rw [pw_succ, pw_succ, pw_zero]
    omega

end Go.Proofs.YtocpncjmcaecoaaGreat.M
namespace Go.Proofs.YtocpncjmcaecoaaGreat.M
set_option maxRecDepth 10000
open Go.RowKit
set_option linter.unusedVariables false
set_option linter.unusedSimpArgs false

set_option maxHeartbeats 800000 in
theorem whole_ok (w : World) (A : Option Addr) (c : Nat) (xs : List Int) (hx : RN w A c xs) (hs : xs.length ≤ 70368744177664) :
    Calls Tryz.prog 81 #[.slice A xs.length c] w (RetZI (V xs) w) := by
  have HX := Lib.hid hx
  clear hx
  go_enter Tryz.func81, Tryz.ntmps81
  go_wp2_with fail
  obtain ⟨W, hW⟩ : ∃ W, W = (w.alloc (.cells #[.bool false, .slice none 0 0] 26)) := ⟨_, rfl⟩
  rw [← hW]
  have hBW : Below w.heap.size w W := by rw [hW]; exact ((Below.refl _ _).alloc (Nat.le_refl _) _)
  have vW0 : Vr W (w.heap.size) 26 #[.bool false, .slice none 0 0] := by rw [hW]; exact (Vr.new' _ _ _ (by simp only [size_alloc]))
  clear hW
  have HVW0 := Lib.hid vW0
  have HBW := Lib.hid hBW
  clear hBW vW0
  refine (make_ok W false A c xs (HX.out.below HBW.out) hs).mono ?_
  rintro e w1 ⟨b1, A1, c1, z, rfl, HB1, HZ1, hz, hB1⟩
  have dc0 := (HVW0.out.below' hB1).cell 0 rfl
  have dc1 := (HVW0.out.below' hB1).cell 1 rfl
  have df0 := (HVW0.out.below' hB1).thaw 0
  have df1 := (HVW0.out.below' hB1).thaw 1
  have HV1 := Lib.hid (HVW0.out.below' hB1)
  have HBd := Lib.hid (HBW.out.trans (hB1.mono HBW.out.size))
  have HR := Lib.hid hz
  clear hB1 hz
  go_wp2_with fail
  have v3 : Vr ((w1.setCell ⟨w.heap.size, 0, none⟩ (.bool b1)).setCell ⟨w.heap.size, 1, none⟩ (.slice A1 z.length c1)) w.heap.size 26 #[.bool b1, .slice A1 z.length c1] := ((HV1.out.set 0 _).set 1 _)
  have r0 := (HR.out).apart (HV1.out) (nd_int _ _ _ _) 0 (.bool b1)
  have r1 := (r0).apart ((HV1.out).set 0 (.bool b1)) (nd_int _ _ _ _) 1 (.slice A1 z.length c1)
  refine bodyPost_ret (v := .agg #[.bool b1, .slice A1 z.length c1]) (by simp [results, Tryz.results81, go_sem, v3.cell 0 rfl, v3.cell 1 rfl]) rfl ?_
  exact ⟨b1, A1, c1, z, rfl, HB1, HZ1, r1, (below_set (below_set HBd.out (Nat.le_refl _) _) (Nat.le_refl _) _)⟩

set_option maxHeartbeats 800000 in
theorem zero_ok (w : World)  :
    Calls Tryz.prog 84 #[] w (RetQ 0 w) := by
  go_enter Tryz.func84, Tryz.ntmps84
  go_wp2_with fail
  obtain ⟨W, hW⟩ : ∃ W, W = (w.alloc (.cells #[.bool false, .slice none 0 0, .slice none 0 0] 28)) := ⟨_, rfl⟩
  rw [← hW]
  have hBW : Below w.heap.size w W := by rw [hW]; exact ((Below.refl _ _).alloc (Nat.le_refl _) _)
  have vW0 : Vr W (w.heap.size) 28 #[.bool false, .slice none 0 0, .slice none 0 0] := by rw [hW]; exact (Vr.new' _ _ _ (by simp only [size_alloc]))
  clear hW
  have HVW0 := Lib.hid vW0
  have HBW := Lib.hid hBW
  clear hBW vW0
  refine (of_ok W 1 (by omega) (by omega)).mono ?_
  rintro e w1 ⟨A1, c1, z, rfl, HZ1, hz, hB1⟩
  have dc0 := (HVW0.out.below' hB1).cell 0 rfl
  have dc1 := (HVW0.out.below' hB1).cell 1 rfl
  have dc2 := (HVW0.out.below' hB1).cell 2 rfl
  have df0 := (HVW0.out.below' hB1).thaw 0
  have df1 := (HVW0.out.below' hB1).thaw 1
  have df2 := (HVW0.out.below' hB1).thaw 2
  have HV1 := Lib.hid (HVW0.out.below' hB1)
  have HBd := Lib.hid (HBW.out.trans (hB1.mono HBW.out.size))
  have HR := Lib.hid hz
  clear hB1 hz
  go_wp2_with fail
  have v3 : Vr (((w1.setCell ⟨w.heap.size, 0, none⟩ (.bool false)).setCell ⟨w.heap.size, 1, none⟩ (.slice none 0 0)).setCell ⟨w.heap.size, 2, none⟩ (.slice A1 z.length c1)) w.heap.size 28 #[.bool false, .slice none 0 0, .slice A1 z.length c1] := (((HV1.out.set 0 _).set 1 _).set 2 _)
  have r0 := (HR.out).apart (HV1.out) (nd_rat _ _ _ _ _ _ _) 0 (.bool false)
  have r1 := (r0).apart ((HV1.out).set 0 (.bool false)) (nd_rat _ _ _ _ _ _ _) 1 (.slice none 0 0)
  have r2 := (r1).apart (((HV1.out).set 0 (.bool false)).set 1 (.slice none 0 0)) (nd_rat _ _ _ _ _ _ _) 2 (.slice A1 z.length c1)
  refine bodyPost_ret (v := .agg #[.bool false, .slice none 0 0, .slice A1 z.length c1]) (by simp [results, Tryz.results84, go_sem, v3.cell 0 rfl, v3.cell 1 rfl, v3.cell 2 rfl]) rfl ?_
  exact ⟨false, none, 0, [], A1, c1, z, rfl, rfl, rfl, HZ1, RN.nil _, r2, (below_set (below_set (below_set HBd.out (Nat.le_refl _) _) (Nat.le_refl _) _) (Nat.le_refl _) _)⟩

set_option maxHeartbeats 1600000 in
theorem lowest_ok (w : World) (b : Bool) (A B : Option Addr) (c d : Nat) (xs ys : List Int) (hx : RN w A c xs) (hy : RN w B d ys) (hsx : xs.length ≤ 35184372088800) (hsy : ys.length ≤ 35184372088800) :
    Calls Tryz.prog 51 #[.agg #[.bool b, .slice A xs.length c], .slice B ys.length d] w (RetQ (qv b xs ys) w) := by
  have HX := Lib.hid hx
  have HY := Lib.hid hy
  clear hx hy
  go_enter Tryz.func51, Tryz.ntmps51
  go_wp2_with fail
  obtain ⟨W, hW⟩ : ∃ W, W = ((w.alloc (.cells #[.bool b, .slice A xs.length c] 26)).alloc (.cells #[.bool false, .slice none 0 0, .slice none 0 0] 28)) := ⟨_, rfl⟩
  rw [← hW]
  have hBW : Below w.heap.size w W := by rw [hW]; exact (((Below.refl _ _).alloc (Nat.le_refl _) _).alloc (by simp only [size_alloc]; omega) _)
  have vW0 : Vr W (w.heap.size) 26 #[.bool b, .slice A xs.length c] := by rw [hW]; exact ((Vr.new' _ _ _ (by simp only [size_alloc])).alloc _)
  have vW1 : Vr W (w.heap.size + 1) 28 #[.bool false, .slice none 0 0, .slice none 0 0] := by rw [hW]; exact (Vr.new' _ _ _ (by simp only [size_alloc]))
  clear hW
  obtain ⟨gW1, hgW1⟩ : ∃ g, w.heap.size + 1 = g := ⟨_, rfl⟩
  rw [hgW1] at vW1 ⊢
  have hneW01 : w.heap.size ≠ gW1 := by omega
  have hgeW1 : w.heap.size ≤ gW1 := by omega
  have hneW10 : gW1 ≠ w.heap.size := by omega
  have HVW0 := Lib.hid vW0
  have HVW1 := Lib.hid vW1
  have HBW := Lib.hid hBW
  clear hBW vW0 vW1 hgW1
  refine (gcd_ok W A B c d xs ys (HX.out.below HBW.out) (HY.out.below HBW.out) hsx hsy).mono ?_
  rintro e w1 ⟨A1, c1, g, rfl, HG, hg, hB1⟩
  have dc0 := (HVW0.out.below' hB1).cell 0 rfl
  have dc1 := (HVW0.out.below' hB1).cell 1 rfl
  have ec0 := (HVW1.out.below' hB1).cell 0 rfl
  have ec1 := (HVW1.out.below' hB1).cell 1 rfl
  have ec2 := (HVW1.out.below' hB1).cell 2 rfl
  have ef0 := (HVW1.out.below' hB1).thaw 0
  have ef1 := (HVW1.out.below' hB1).thaw 1
  have ef2 := (HVW1.out.below' hB1).thaw 2
  have HV0 := Lib.hid (HVW0.out.below' hB1)
  have HV1 := Lib.hid (HVW1.out.below' hB1)
  have HBd := Lib.hid (HBW.out.trans (hB1.mono HBW.out.size))
  have RG := Lib.hid hg
  have RX := Lib.hid (HX.out.below HBd.out)
  have RY := Lib.hid (HY.out.below HBd.out)
  clear hB1 hg
  go_wp2_with fail
  refine (bits_ok w1 B d ys RY.out (by omega)).mono ?_
  rintro e w1' ⟨v, rfl, HV, hv0, rfl⟩
  by_cases hz : V ys = 0
  · have hv : v = 0 := HV.out.2 hz
    subst hv
    have HZ := Lib.hid hz
    clear hz
    go_wp2_with fail
    refine (zero_ok w1).mono ?_
    rintro e w2 ⟨b2, A2, c2, x2, B2, d2, y2, rfl, HQ1, HQ2, HQ3, hr1, hr2, hB2⟩
    have kc0 := (HV1.out.below' hB2).cell 0 rfl
    have kc1 := (HV1.out.below' hB2).cell 1 rfl
    have kc2 := (HV1.out.below' hB2).cell 2 rfl
    have kf0 := (HV1.out.below' hB2).thaw 0
    have kf1 := (HV1.out.below' hB2).thaw 1
    have kf2 := (HV1.out.below' hB2).thaw 2
    have HV2 := Lib.hid (HV1.out.below' hB2)
    have HB2 := Lib.hid (HBd.out.trans (hB2.mono HBd.out.size))
    have HR1 := Lib.hid hr1
    have HR2 := Lib.hid hr2
    clear hB2 hr1 hr2
    go_wp2_with fail
    have v3 : Vr (((w2.setCell ⟨gW1, 0, none⟩ (.bool b2)).setCell ⟨gW1, 1, none⟩ (.slice A2 x2.length c2)).setCell ⟨gW1, 2, none⟩ (.slice B2 y2.length d2)) gW1 28 #[.bool b2, .slice A2 x2.length c2, .slice B2 y2.length d2] := (((HV2.out.set 0 _).set 1 _).set 2 _)
    have r0 := (HR1.out).apart (HV2.out) (nd_rat _ _ _ _ _ _ _) 0 (.bool b2)
    have r1 := (r0).apart ((HV2.out).set 0 (.bool b2)) (nd_rat _ _ _ _ _ _ _) 1 (.slice A2 x2.length c2)
    have r2 := (r1).apart (((HV2.out).set 0 (.bool b2)).set 1 (.slice A2 x2.length c2)) (nd_rat _ _ _ _ _ _ _) 2 (.slice B2 y2.length d2)
    have s0 := (HR2.out).apart (HV2.out) (nd_rat _ _ _ _ _ _ _) 0 (.bool b2)
    have s1 := (s0).apart ((HV2.out).set 0 (.bool b2)) (nd_rat _ _ _ _ _ _ _) 1 (.slice A2 x2.length c2)
    have s2 := (s1).apart (((HV2.out).set 0 (.bool b2)).set 1 (.slice A2 x2.length c2)) (nd_rat _ _ _ _ _ _ _) 2 (.slice B2 y2.length d2)
    refine bodyPost_ret (v := .agg #[.bool b2, .slice A2 x2.length c2, .slice B2 y2.length d2]) (by simp [results, Tryz.results51, go_sem, v3.cell 0 rfl, v3.cell 1 rfl, v3.cell 2 rfl]) rfl ?_
    exact ⟨b2, A2, c2, x2, B2, d2, y2, rfl, by rw [qv_zero HZ.out]; exact HQ1, by rw [qv_zero HZ.out]; exact HQ2, by rw [qv_zero HZ.out]; exact HQ3, r2, s2, (below_set (below_set (below_set HB2.out hgeW1 _) hgeW1 _) hgeW1 _)⟩
  · have hv : (v == 0) = false := beq_eq_false_iff_ne.2 (fun h => hz (HV.out.1 h))
    have HNY := Lib.hid hz
    clear hz
    go_wp2_with fail
    refine (bits_ok w1 A c xs RX.out (by omega)).mono ?_
    rintro e w1' ⟨v2, rfl, HV2', hv02, rfl⟩
    by_cases hz2 : V xs = 0
    · have hv2 : v2 = 0 := HV2'.out.2 hz2
      subst hv2
      have HZ2 := Lib.hid hz2
      clear hz2
      go_wp2_with fail
      refine (zero_ok w1).mono ?_
      rintro e w2 ⟨b2, A2, c2, x2, B2, d2, y2, rfl, HQ1, HQ2, HQ3, hr1, hr2, hB2⟩
      have kc0 := (HV1.out.below' hB2).cell 0 rfl
      have kc1 := (HV1.out.below' hB2).cell 1 rfl
      have kc2 := (HV1.out.below' hB2).cell 2 rfl
      have kf0 := (HV1.out.below' hB2).thaw 0
      have kf1 := (HV1.out.below' hB2).thaw 1
      have kf2 := (HV1.out.below' hB2).thaw 2
      have HV2 := Lib.hid (HV1.out.below' hB2)
      have HB2 := Lib.hid (HBd.out.trans (hB2.mono HBd.out.size))
      have HR1 := Lib.hid hr1
      have HR2 := Lib.hid hr2
      clear hB2 hr1 hr2
      go_wp2_with fail
      have v3 : Vr (((w2.setCell ⟨gW1, 0, none⟩ (.bool b2)).setCell ⟨gW1, 1, none⟩ (.slice A2 x2.length c2)).setCell ⟨gW1, 2, none⟩ (.slice B2 y2.length d2)) gW1 28 #[.bool b2, .slice A2 x2.length c2, .slice B2 y2.length d2] := (((HV2.out.set 0 _).set 1 _).set 2 _)
      have r0 := (HR1.out).apart (HV2.out) (nd_rat _ _ _ _ _ _ _) 0 (.bool b2)
      have r1 := (r0).apart ((HV2.out).set 0 (.bool b2)) (nd_rat _ _ _ _ _ _ _) 1 (.slice A2 x2.length c2)
      have r2 := (r1).apart (((HV2.out).set 0 (.bool b2)).set 1 (.slice A2 x2.length c2)) (nd_rat _ _ _ _ _ _ _) 2 (.slice B2 y2.length d2)
      have s0 := (HR2.out).apart (HV2.out) (nd_rat _ _ _ _ _ _ _) 0 (.bool b2)
      have s1 := (s0).apart ((HV2.out).set 0 (.bool b2)) (nd_rat _ _ _ _ _ _ _) 1 (.slice A2 x2.length c2)
      have s2 := (s1).apart (((HV2.out).set 0 (.bool b2)).set 1 (.slice A2 x2.length c2)) (nd_rat _ _ _ _ _ _ _) 2 (.slice B2 y2.length d2)
      refine bodyPost_ret (v := .agg #[.bool b2, .slice A2 x2.length c2, .slice B2 y2.length d2]) (by simp [results, Tryz.results51, go_sem, v3.cell 0 rfl, v3.cell 1 rfl, v3.cell 2 rfl]) rfl ?_
      exact ⟨b2, A2, c2, x2, B2, d2, y2, rfl, by rw [qv_null HZ2.out]; exact HQ1, by rw [qv_null HZ2.out]; exact HQ2, by rw [qv_null HZ2.out]; exact HQ3, r2, s2, (below_set (below_set (below_set HB2.out hgeW1 _) hgeW1 _) hgeW1 _)⟩
    · have hv2 : (v2 == 0) = false := beq_eq_false_iff_ne.2 (fun h => hz2 (HV2'.out.1 h))
      have HNX := Lib.hid hz2
      clear hz2
      have HVg : Hid (V g = ((Nat.gcd (V xs).toNat (V ys).toNat : Nat) : Int)) := by show _ = _; rw [HG.out, V_limbs]
      have HG0 : Hid (0 < V g) := by
        show _ < _
        rw [HVg.out]
        have h1 := V_nonneg HX.out.2
        have h2 := HNX.out
        have h3 := Nat.gcd_pos_of_pos_left (m := (V xs).toNat) (V ys).toNat (by omega)
        omega
      go_wp2_with fail
      refine (divMod_ok w1 A A1 c c1 xs g RX.out RG.out HG0.out (by omega)).mono ?_
      rintro e w2 ⟨A2, c2, q2, R2, e2, r2, rfl, HQ2, _, hq2, _, hB2⟩
      have kc0 := (HV0.out.below' hB2).cell 0 rfl
      have kc1 := (HV0.out.below' hB2).cell 1 rfl
      have HV02 := Lib.hid (HV0.out.below' hB2)
      have HV12 := Lib.hid (HV1.out.below' hB2)
      have HBe := Lib.hid (HBd.out.trans (hB2.mono HBd.out.size))
      have RQ2 := Lib.hid hq2
      have RG2 := Lib.hid (RG.out.below hB2)
      have RY2 := Lib.hid (RY.out.below hB2)
      clear hB2 hq2
      go_wp2_with fail
      refine (divMod_ok w2 B A1 d c1 ys g RY2.out RG2.out HG0.out (by omega)).mono ?_
      rintro e w3 ⟨A3, c3, q3, R3, e3, r3, rfl, HQ3, _, hq3, _, hB3⟩
      have mc0 := (HV02.out.below' hB3).cell 0 rfl
      have mc1 := (HV02.out.below' hB3).cell 1 rfl
      have HV13 := Lib.hid (HV12.out.below' hB3)
      have HBf := Lib.hid (HBe.out.trans (hB3.mono HBe.out.size))
      have RQ23 := Lib.hid (RQ2.out.below hB3)
      have RQ3 := Lib.hid hq3
      clear hB3 hq3
      rw [HVg.out, Int.toNat_natCast] at HQ2 HQ3
      have hlq : q2.length ≤ 70368744177664 := by
        rw [HQ2.out]
        exact Nat.le_trans (limbs_div_len HX.out.2 _) (by omega)
      go_wp2_with fail
      refine (make_ok w3 b A2 c2 q2 RQ23.out hlq).mono ?_
      rintro e w4 ⟨b4, A4, c4, z4, rfl, HB4, HZ4, hz4, hB4⟩
      have nc0 := (HV13.out.below' hB4).cell 0 rfl
      have nc1 := (HV13.out.below' hB4).cell 1 rfl
      have nc2 := (HV13.out.below' hB4).cell 2 rfl
      have nf0 := (HV13.out.below' hB4).thaw 0
      have nf1 := (HV13.out.below' hB4).thaw 1
      have nf2 := (HV13.out.below' hB4).thaw 2
      have HV14 := Lib.hid (HV13.out.below' hB4)
      have HBg := Lib.hid (HBf.out.trans (hB4.mono HBf.out.size))
      have RZ4 := Lib.hid hz4
      have RQ4 := Lib.hid (RQ3.out.below hB4)
      clear hB4 hz4
      have HLP := Lib.hid (low_parts (b := b) HX.out.2 HY.out.2 HNY.out (q1 := q2) (by rw [HQ2.out, V_limbs]))
      go_wp2_with fail
      have v3 : Vr (((w4.setCell ⟨gW1, 0, none⟩ (.bool b4)).setCell ⟨gW1, 1, none⟩ (.slice A4 z4.length c4)).setCell ⟨gW1, 2, none⟩ (.slice A3 q3.length c3)) gW1 28 #[.bool b4, .slice A4 z4.length c4, .slice A3 q3.length c3] := (((HV14.out.set 0 _).set 1 _).set 2 _)
      have r0 := (RZ4.out).apart (HV14.out) (nd_rat _ _ _ _ _ _ _) 0 (.bool b4)
      have r1 := (r0).apart ((HV14.out).set 0 (.bool b4)) (nd_rat _ _ _ _ _ _ _) 1 (.slice A4 z4.length c4)
      have r2 := (r1).apart (((HV14.out).set 0 (.bool b4)).set 1 (.slice A4 z4.length c4)) (nd_rat _ _ _ _ _ _ _) 2 (.slice A3 q3.length c3)
      have s0 := (RQ4.out).apart (HV14.out) (nd_rat _ _ _ _ _ _ _) 0 (.bool b4)
      have s1 := (s0).apart ((HV14.out).set 0 (.bool b4)) (nd_rat _ _ _ _ _ _ _) 1 (.slice A4 z4.length c4)
      have s2 := (s1).apart (((HV14.out).set 0 (.bool b4)).set 1 (.slice A4 z4.length c4)) (nd_rat _ _ _ _ _ _ _) 2 (.slice A3 q3.length c3)
      refine bodyPost_ret (v := .agg #[.bool b4, .slice A4 z4.length c4, .slice A3 q3.length c3]) (by simp [results, Tryz.results51, go_sem, v3.cell 0 rfl, v3.cell 1 rfl, v3.cell 2 rfl]) rfl ?_
      exact ⟨b4, A4, c4, z4, A3, c3, q3, rfl, by rw [← HLP.out.1]; exact HB4, by rw [← HLP.out.1]; exact HZ4, by rw [← HLP.out.2]; exact HQ3, r2, s2, (below_set (below_set (below_set HBg.out hgeW1 _) hgeW1 _) hgeW1 _)⟩

end Go.Proofs.YtocpncjmcaecoaaGreat.M
namespace Go.Proofs.YtocpncjmcaecoaaGreat.M
set_option maxRecDepth 10000
open Go.RowKit
set_option linter.unusedVariables false
set_option linter.unusedSimpArgs false

set_option maxHeartbeats 1600000 in
theorem parts_ok (w : World) (b : Bool) (A B : Option Addr) (c d : Nat) (xs ys : List Int) (hx : RN w A c xs) (hy : RN w B d ys) (hsy : ys.length ≤ 35184372088800) :
    Calls Tryz.prog 50 #[.agg #[.bool b, .slice A xs.length c, .slice B ys.length d]] w (RetParts b xs ys w) := by
  have HX := Lib.hid hx
  have HY := Lib.hid hy
  clear hx hy
  go_enter Tryz.func50, Tryz.ntmps50
  go_wp2_with fail
  obtain ⟨W, hW⟩ : ∃ W, W = (((w.alloc (.cells #[.bool b, .slice A xs.length c, .slice B ys.length d] 28)).alloc (.cells #[.bool false, .slice none 0 0] 26)).alloc (.cells #[.bool false, .slice none 0 0] 26)) := ⟨_, rfl⟩
  rw [← hW]
  have hBW : Below w.heap.size w W := by rw [hW]; exact ((((Below.refl _ _).alloc (Nat.le_refl _) _).alloc (by simp only [size_alloc]; omega) _).alloc (by simp only [size_alloc]; omega) _)
  have vW0 : Vr W (w.heap.size) 28 #[.bool b, .slice A xs.length c, .slice B ys.length d] := by rw [hW]; exact (((Vr.new' _ _ _ (by simp only [size_alloc])).alloc _).alloc _)
  have vW1 : Vr W (w.heap.size + 1) 26 #[.bool false, .slice none 0 0] := by rw [hW]; exact ((Vr.new' _ _ _ (by simp only [size_alloc])).alloc _)
  have vW2 : Vr W (w.heap.size + 1 + 1) 26 #[.bool false, .slice none 0 0] := by rw [hW]; exact (Vr.new' _ _ _ (by simp only [size_alloc]))
  clear hW
  obtain ⟨gW2, hgW2⟩ : ∃ g, w.heap.size + 1 + 1 = g := ⟨_, rfl⟩
  rw [hgW2] at vW2 ⊢
  obtain ⟨gW1, hgW1⟩ : ∃ g, w.heap.size + 1 = g := ⟨_, rfl⟩
  rw [hgW1] at vW1 ⊢
  have hneW01 : w.heap.size ≠ gW1 := by omega
  have hneW02 : w.heap.size ≠ gW2 := by omega
  have hgeW1 : w.heap.size ≤ gW1 := by omega
  have hneW10 : gW1 ≠ w.heap.size := by omega
  have hneW12 : gW1 ≠ gW2 := by omega
  have hgeW2 : w.heap.size ≤ gW2 := by omega
  have hneW20 : gW2 ≠ w.heap.size := by omega
  have hneW21 : gW2 ≠ gW1 := by omega
  have HVW0 := Lib.hid vW0
  have HVW1 := Lib.hid vW1
  have HVW2 := Lib.hid vW2
  have HBW := Lib.hid hBW
  clear hBW vW0 vW1 vW2 hgW1 hgW2
  have oc0 := (HVW0.out).cell 0 rfl
  have oc1 := (HVW0.out).cell 1 rfl
  have oc2 := (HVW0.out).cell 2 rfl
  refine (bits_ok W B d ys (HY.out.below HBW.out) (by omega)).mono ?_
  rintro e w1' ⟨v, rfl, HV, hv0, rfl⟩
  by_cases hz : V ys = 0
  · have hv : v = 0 := HV.out.2 hz
    subst hv
    have HZ := Lib.hid hz
    clear hz
    go_wp2_with fail
    refine (of_ok W 1 (by omega) (by omega)).mono ?_
    rintro e w1 ⟨A1, c1, z, rfl, HZ1, hz, hB1⟩
    have HR := Lib.hid hz
    have HV11 := Lib.hid (HVW1.out.below' hB1)
    have HV21 := Lib.hid (HVW2.out.below' hB1)
    have HB1 := Lib.hid (HBW.out.trans (hB1.mono HBW.out.size))
    clear hB1 hz
    go_wp2_with fail
    refine (whole_ok w1 A1 c1 z HR.out (by rw [HZ1.out]; exact Nat.le_trans (limbs_len (m := 1) (by decide)) (by omega))).mono ?_
    rintro e w2 ⟨b2, A2, c2, z2, rfl, HB2, HZ2, hz2, hB2⟩
    have dc0 := (HV11.out.below' hB2).cell 0 rfl
    have dc1 := (HV11.out.below' hB2).cell 1 rfl
    have df0 := (HV11.out.below' hB2).thaw 0
    have df1 := (HV11.out.below' hB2).thaw 1
    have ec0 := (HV21.out.below' hB2).cell 0 rfl
    have ec1 := (HV21.out.below' hB2).cell 1 rfl
    have ef0 := (HV21.out.below' hB2).thaw 0
    have ef1 := (HV21.out.below' hB2).thaw 1
    have HV12 := Lib.hid (HV11.out.below' hB2)
    have HV22 := Lib.hid (HV21.out.below' hB2)
    have HBe := Lib.hid (HB1.out.trans (hB2.mono HB1.out.size))
    have RZ := Lib.hid hz2
    clear hB2 hz2
    go_wp2_with fail
    have p0 : Vr ((w2.setCell ⟨gW1, 0, none⟩ (.bool false)).setCell ⟨gW1, 1, none⟩ (.slice none 0 0)) gW1 26 #[.bool false, .slice none 0 0] := ((HV12.out.set 0 _).set 1 _)
    have rx0 := ((RN.nil w2)).apart (HV12.out) (nd_int _ _ _ _) 0 (.bool false)
    have rx1 := (rx0).apart ((HV12.out).set 0 (.bool false)) (nd_int _ _ _ _) 1 (.slice none 0 0)
    have ry0 := (RZ.out).apart (HV12.out) (nd_int _ _ _ _) 0 (.bool false)
    have ry1 := (ry0).apart ((HV12.out).set 0 (.bool false)) (nd_int _ _ _ _) 1 (.slice none 0 0)
    have q0 := (HV22.out.other hneW21 0 (.bool false)).other hneW21 1 (.slice none 0 0)
    have Q0 := Lib.hid q0
    have q1 : Vr ((((w2.setCell ⟨gW1, 0, none⟩ (.bool false)).setCell ⟨gW1, 1, none⟩ (.slice none 0 0)).setCell ⟨gW2, 0, none⟩ (.bool b2)).setCell ⟨gW2, 1, none⟩ (.slice A2 z2.length c2)) gW2 26 #[.bool b2, .slice A2 z2.length c2] := ((Q0.out.set 0 _).set 1 _)
    have sx0 := (rx1).apart (Q0.out) (nd_int _ _ _ _) 0 (.bool b2)
    have sx1 := (sx0).apart ((Q0.out).set 0 (.bool b2)) (nd_int _ _ _ _) 1 (.slice A2 z2.length c2)
    have sy0 := (ry1).apart (Q0.out) (nd_int _ _ _ _) 0 (.bool b2)
    have sy1 := (sy0).apart ((Q0.out).set 0 (.bool b2)) (nd_int _ _ _ _) 1 (.slice A2 z2.length c2)
    have p1 := (p0.other hneW12 0 (.bool b2)).other hneW12 1 (.slice A2 z2.length c2)
    refine bodyPost_ret (v := .tuple #[.agg #[.bool false, .slice none 0 0], .agg #[.bool b2, .slice A2 z2.length c2]]) (by simp [results, Tryz.results50, go_sem, p1.cell 0 rfl, p1.cell 1 rfl, q1.cell 0 rfl, q1.cell 1 rfl]) rfl ?_
    have ez : V z = 1 := by rw [HZ1.out, V_limbs]; rfl
    rw [ez] at HB2 HZ2
    refine ⟨false, none, 0, [], b2, A2, c2, z2, rfl, ?_, ?_, Nat.zero_le _, ?_, sx1, sy1, (below_set (below_set (below_set (below_set HBe.out hgeW1 _) hgeW1 _) hgeW2 _) hgeW2 _)⟩
    · show zv false [] = qn b xs ys
      unfold qn
      rw [if_pos HZ.out]
      rfl
    · show zv b2 z2 = qd ys
      unfold qd
      rw [if_pos HZ.out, HB2.out, HZ2.out]
      exact zv_norm 1
    · show z2.length ≤ _
      rw [HZ2.out]
      exact Nat.le_trans (limbs_len (m := 1) (by decide)) (by omega)
  · have hv : (v == 0) = false := beq_eq_false_iff_ne.2 (fun h => hz (HV.out.1 h))
    have HZ := Lib.hid hz
    clear hz
    go_wp2_with fail
    go_region_held3 (fun w' => w'.cell? ⟨w.heap.size, 0, none⟩ = some (.bool b) ∧ w'.cell? ⟨w.heap.size, 1, none⟩ = some (.slice A xs.length c) ∧ w'.cell? ⟨w.heap.size, 2, none⟩ = some (.slice B ys.length d)) (go_keep)
      (first
        | (go_at_call 81
           refine (whole_ok W.drew B d ys (HY.out.below HBW.out.drew) (by omega)).mono ?_
           rintro e w2 ⟨b2, A2, c2, z2, rfl, HB2, HZ2, hz2, hB2⟩
           have kc0 := (HVW0.out.drew.below' hB2).cell 0 rfl
           have kc1 := (HVW0.out.drew.below' hB2).cell 1 rfl
           have kc2 := (HVW0.out.drew.below' hB2).cell 2 rfl
           have dc0 := (HVW1.out.drew.below' hB2).cell 0 rfl
           have dc1 := (HVW1.out.drew.below' hB2).cell 1 rfl
           have df0 := (HVW1.out.drew.below' hB2).thaw 0
           have df1 := (HVW1.out.drew.below' hB2).thaw 1
           have ec0 := (HVW2.out.drew.below' hB2).cell 0 rfl
           have ec1 := (HVW2.out.drew.below' hB2).cell 1 rfl
           have ef0 := (HVW2.out.drew.below' hB2).thaw 0
           have ef1 := (HVW2.out.drew.below' hB2).thaw 1
           have HV12 := Lib.hid (HVW1.out.drew.below' hB2)
           have HV22 := Lib.hid (HVW2.out.drew.below' hB2)
           have HBe := Lib.hid (HBW.out.drew.trans (hB2.mono HBW.out.drew.size))
           have RZ := Lib.hid hz2
           clear hB2 hz2))
    have RX := Lib.hid (HX.out.below HBe.out)
    go_wp2_with fail
    have p0 : Vr ((w2.setCell ⟨gW1, 0, none⟩ (.bool b)).setCell ⟨gW1, 1, none⟩ (.slice A xs.length c)) gW1 26 #[.bool b, .slice A xs.length c] := ((HV12.out.set 0 _).set 1 _)
    have rx0 := (RX.out).apart (HV12.out) (nd_int _ _ _ _) 0 (.bool b)
    have rx1 := (rx0).apart ((HV12.out).set 0 (.bool b)) (nd_int _ _ _ _) 1 (.slice A xs.length c)
    have ry0 := (RZ.out).apart (HV12.out) (nd_int _ _ _ _) 0 (.bool b)
    have ry1 := (ry0).apart ((HV12.out).set 0 (.bool b)) (nd_int _ _ _ _) 1 (.slice A xs.length c)
    have q0 := (HV22.out.other hneW21 0 (.bool b)).other hneW21 1 (.slice A xs.length c)
    have Q0 := Lib.hid q0
    have q1 : Vr ((((w2.setCell ⟨gW1, 0, none⟩ (.bool b)).setCell ⟨gW1, 1, none⟩ (.slice A xs.length c)).setCell ⟨gW2, 0, none⟩ (.bool b2)).setCell ⟨gW2, 1, none⟩ (.slice A2 z2.length c2)) gW2 26 #[.bool b2, .slice A2 z2.length c2] := ((Q0.out.set 0 _).set 1 _)
    have sx0 := (rx1).apart (Q0.out) (nd_int _ _ _ _) 0 (.bool b2)
    have sx1 := (sx0).apart ((Q0.out).set 0 (.bool b2)) (nd_int _ _ _ _) 1 (.slice A2 z2.length c2)
    have sy0 := (ry1).apart (Q0.out) (nd_int _ _ _ _) 0 (.bool b2)
    have sy1 := (sy0).apart ((Q0.out).set 0 (.bool b2)) (nd_int _ _ _ _) 1 (.slice A2 z2.length c2)
    have p1 := (p0.other hneW12 0 (.bool b2)).other hneW12 1 (.slice A2 z2.length c2)
    refine bodyPost_ret (v := .tuple #[.agg #[.bool b, .slice A xs.length c], .agg #[.bool b2, .slice A2 z2.length c2]]) (by simp [results, Tryz.results50, go_sem, p1.cell 0 rfl, p1.cell 1 rfl, q1.cell 0 rfl, q1.cell 1 rfl]) rfl ?_
    refine ⟨b, A, c, xs, b2, A2, c2, z2, rfl, ?_, ?_, Nat.le_refl _, ?_, sx1, sy1, (below_set (below_set (below_set (below_set HBe.out hgeW1 _) hgeW1 _) hgeW2 _) hgeW2 _)⟩
    · show zv b xs = qn b xs ys
      unfold qn
      rw [if_neg HZ.out]
    · show zv b2 z2 = qd ys
      unfold qd
      rw [if_neg HZ.out, HB2.out, HZ2.out]
      exact zv_norm _
    · show z2.length ≤ _
      rw [HZ2.out]
      have h1 := limbs_div_len HY.out.2 1
      have h2 := V_nonneg HY.out.2
      rw [Nat.div_one] at h1
      rw [show (V ys).natAbs = (V ys).toNat by omega]
      omega

set_option maxHeartbeats 1600000 in
theorem qmake_ok (w : World) (b1 b2 : Bool) (A B : Option Addr) (c d : Nat) (xs ys : List Int) (hx : RN w A c xs) (hy : RN w B d ys) (hsx : xs.length ≤ 35184372088800) (hsy : ys.length ≤ 35184372088800) (ok : Bool) (hok : Hid (ok = decide (V ys ≠ 0))) :
    Calls Tryz.prog 61 #[.agg #[.bool b1, .slice A xs.length c], .agg #[.bool b2, .slice B ys.length d]] w (RetQB (qv (b1 != b2) xs ys) ok w) := by
  have HX := Lib.hid hx
  have HY := Lib.hid hy
  clear hx hy
  go_enter Tryz.func61, Tryz.ntmps61
  go_wp2_with fail
  obtain ⟨W, hW⟩ : ∃ W, W = (((w.alloc (.cells #[.bool b1, .slice A xs.length c] 26)).alloc (.cells #[.bool b2, .slice B ys.length d] 26)).alloc (.cells #[.bool false, .slice none 0 0, .slice none 0 0] 28)) := ⟨_, rfl⟩
  rw [← hW]
  have hBW : Below w.heap.size w W := by rw [hW]; exact ((((Below.refl _ _).alloc (Nat.le_refl _) _).alloc (by simp only [size_alloc]; omega) _).alloc (by simp only [size_alloc]; omega) _)
  have vW0 : Vr W (w.heap.size) 26 #[.bool b1, .slice A xs.length c] := by rw [hW]; exact (((Vr.new' _ _ _ (by simp only [size_alloc])).alloc _).alloc _)
  have vW1 : Vr W (w.heap.size + 1) 26 #[.bool b2, .slice B ys.length d] := by rw [hW]; exact ((Vr.new' _ _ _ (by simp only [size_alloc])).alloc _)
  have vW2 : Vr W (w.heap.size + 1 + 1) 28 #[.bool false, .slice none 0 0, .slice none 0 0] := by rw [hW]; exact (Vr.new' _ _ _ (by simp only [size_alloc]))
  clear hW
  obtain ⟨gW2, hgW2⟩ : ∃ g, w.heap.size + 1 + 1 = g := ⟨_, rfl⟩
  rw [hgW2] at vW2 ⊢
  obtain ⟨gW1, hgW1⟩ : ∃ g, w.heap.size + 1 = g := ⟨_, rfl⟩
  rw [hgW1] at vW1 ⊢
  have hneW01 : w.heap.size ≠ gW1 := by omega
  have hneW02 : w.heap.size ≠ gW2 := by omega
  have hgeW1 : w.heap.size ≤ gW1 := by omega
  have hneW10 : gW1 ≠ w.heap.size := by omega
  have hneW12 : gW1 ≠ gW2 := by omega
  have hgeW2 : w.heap.size ≤ gW2 := by omega
  have hneW20 : gW2 ≠ w.heap.size := by omega
  have hneW21 : gW2 ≠ gW1 := by omega
  have HVW0 := Lib.hid vW0
  have HVW1 := Lib.hid vW1
  have HVW2 := Lib.hid vW2
  have HBW := Lib.hid hBW
  clear hBW vW0 vW1 vW2 hgW1 hgW2
  have oc0 := (HVW0.out).cell 0 rfl
  have oc1 := (HVW0.out).cell 1 rfl
  have pc0 := (HVW1.out).cell 0 rfl
  have pc1 := (HVW1.out).cell 1 rfl
  refine (bits_ok W B d ys (HY.out.below HBW.out) (by omega)).mono ?_
  rintro e w1' ⟨v, rfl, HV, hv0, rfl⟩
  by_cases hz : V ys = 0
  · have hv : v = 0 := HV.out.2 hz
    subst hv
    have HZ := Lib.hid hz
    obtain rfl : ok = false := by rw [hok.out]; exact decide_eq_false (fun h => h hz)
    clear hz
    go_wp2_with fail
    refine (zero_ok W).mono ?_
    rintro e w2 ⟨b3, A2, c2, x2, B2, d2, y2, rfl, HQ1, HQ2, HQ3, hr1, hr2, hB2⟩
    have kc0 := (HVW2.out.below' hB2).cell 0 rfl
    have kc1 := (HVW2.out.below' hB2).cell 1 rfl
    have kc2 := (HVW2.out.below' hB2).cell 2 rfl
    have kf0 := (HVW2.out.below' hB2).thaw 0
    have kf1 := (HVW2.out.below' hB2).thaw 1
    have kf2 := (HVW2.out.below' hB2).thaw 2
    have HV2 := Lib.hid (HVW2.out.below' hB2)
    have HB2 := Lib.hid (HBW.out.trans (hB2.mono HBW.out.size))
    have HR1 := Lib.hid hr1
    have HR2 := Lib.hid hr2
    clear hB2 hr1 hr2
    go_wp2_with fail
    have v3 : Vr (((w2.setCell ⟨gW2, 0, none⟩ (.bool b3)).setCell ⟨gW2, 1, none⟩ (.slice A2 x2.length c2)).setCell ⟨gW2, 2, none⟩ (.slice B2 y2.length d2)) gW2 28 #[.bool b3, .slice A2 x2.length c2, .slice B2 y2.length d2] := (((HV2.out.set 0 _).set 1 _).set 2 _)
    have r0 := (HR1.out).apart (HV2.out) (nd_rat _ _ _ _ _ _ _) 0 (.bool b3)
    have r1 := (r0).apart ((HV2.out).set 0 (.bool b3)) (nd_rat _ _ _ _ _ _ _) 1 (.slice A2 x2.length c2)
    have r2 := (r1).apart (((HV2.out).set 0 (.bool b3)).set 1 (.slice A2 x2.length c2)) (nd_rat _ _ _ _ _ _ _) 2 (.slice B2 y2.length d2)
    have s0 := (HR2.out).apart (HV2.out) (nd_rat _ _ _ _ _ _ _) 0 (.bool b3)
    have s1 := (s0).apart ((HV2.out).set 0 (.bool b3)) (nd_rat _ _ _ _ _ _ _) 1 (.slice A2 x2.length c2)
    have s2 := (s1).apart (((HV2.out).set 0 (.bool b3)).set 1 (.slice A2 x2.length c2)) (nd_rat _ _ _ _ _ _ _) 2 (.slice B2 y2.length d2)
    refine bodyPost_ret (v := .tuple #[.agg #[.bool b3, .slice A2 x2.length c2, .slice B2 y2.length d2], .bool false]) (by simp [results, Tryz.results61, go_sem, v3.cell 0 rfl, v3.cell 1 rfl, v3.cell 2 rfl]) rfl ?_
    exact ⟨b3, A2, c2, x2, B2, d2, y2, rfl, by rw [qv_zero HZ.out]; exact HQ1, by rw [qv_zero HZ.out]; exact HQ2, by rw [qv_zero HZ.out]; exact HQ3, r2, s2, (below_set (below_set (below_set HB2.out hgeW2 _) hgeW2 _) hgeW2 _)⟩
  · have hv : (v == 0) = false := beq_eq_false_iff_ne.2 (fun h => hz (HV.out.1 h))
    obtain rfl : ok = true := by rw [hok.out]; exact decide_eq_true hz
    clear hz
    go_wp2_with fail
    refine (lowest_ok W (b1 != b2) A B c d xs ys (HX.out.below HBW.out) (HY.out.below HBW.out) hsx hsy).mono ?_
    rintro e w2 ⟨b3, A2, c2, x2, B2, d2, y2, rfl, HQ1, HQ2, HQ3, hr1, hr2, hB2⟩
    have kc0 := (HVW2.out.below' hB2).cell 0 rfl
    have kc1 := (HVW2.out.below' hB2).cell 1 rfl
    have kc2 := (HVW2.out.below' hB2).cell 2 rfl
    have kf0 := (HVW2.out.below' hB2).thaw 0
    have kf1 := (HVW2.out.below' hB2).thaw 1
    have kf2 := (HVW2.out.below' hB2).thaw 2
    have HV2 := Lib.hid (HVW2.out.below' hB2)
    have HB2 := Lib.hid (HBW.out.trans (hB2.mono HBW.out.size))
    have HR1 := Lib.hid hr1
    have HR2 := Lib.hid hr2
    clear hB2 hr1 hr2
    go_wp2_with fail
    have v3 : Vr (((w2.setCell ⟨gW2, 0, none⟩ (.bool b3)).setCell ⟨gW2, 1, none⟩ (.slice A2 x2.length c2)).setCell ⟨gW2, 2, none⟩ (.slice B2 y2.length d2)) gW2 28 #[.bool b3, .slice A2 x2.length c2, .slice B2 y2.length d2] := (((HV2.out.set 0 _).set 1 _).set 2 _)
    have r0 := (HR1.out).apart (HV2.out) (nd_rat _ _ _ _ _ _ _) 0 (.bool b3)
    have r1 := (r0).apart ((HV2.out).set 0 (.bool b3)) (nd_rat _ _ _ _ _ _ _) 1 (.slice A2 x2.length c2)
    have r2 := (r1).apart (((HV2.out).set 0 (.bool b3)).set 1 (.slice A2 x2.length c2)) (nd_rat _ _ _ _ _ _ _) 2 (.slice B2 y2.length d2)
    have s0 := (HR2.out).apart (HV2.out) (nd_rat _ _ _ _ _ _ _) 0 (.bool b3)
    have s1 := (s0).apart ((HV2.out).set 0 (.bool b3)) (nd_rat _ _ _ _ _ _ _) 1 (.slice A2 x2.length c2)
    have s2 := (s1).apart (((HV2.out).set 0 (.bool b3)).set 1 (.slice A2 x2.length c2)) (nd_rat _ _ _ _ _ _ _) 2 (.slice B2 y2.length d2)
    refine bodyPost_ret (v := .tuple #[.agg #[.bool b3, .slice A2 x2.length c2, .slice B2 y2.length d2], .bool true]) (by simp [results, Tryz.results61, go_sem, v3.cell 0 rfl, v3.cell 1 rfl, v3.cell 2 rfl]) rfl ?_
    exact ⟨b3, A2, c2, x2, B2, d2, y2, rfl, HQ1, HQ2, HQ3, r2, s2, (below_set (below_set (below_set HB2.out hgeW2 _) hgeW2 _) hgeW2 _)⟩

set_option maxHeartbeats 1600000 in
theorem qof_ok (w : World) (n m : Int) (hn0 : -9223372036854775808 ≤ n) (hn1 : n ≤ 9223372036854775807) (hm0 : 0 < m) (hm1 : m ≤ 9223372036854775807) :
    Calls Tryz.prog 55 #[.int .i64 n, .int .i64 m] w (RetQB (mkRat n m.toNat) true w) := by
  go_enter Tryz.func55, Tryz.ntmps55
  go_wp2_with fail
  obtain ⟨W, hW⟩ : ∃ W, W = (w.alloc (.cells #[.bool false, .slice none 0 0, .slice none 0 0] 28)) := ⟨_, rfl⟩
  rw [← hW]
  have hBW : Below w.heap.size w W := by rw [hW]; exact ((Below.refl _ _).alloc (Nat.le_refl _) _)
  have vW0 : Vr W (w.heap.size) 28 #[.bool false, .slice none 0 0, .slice none 0 0] := by rw [hW]; exact (Vr.new' _ _ _ (by simp only [size_alloc]))
  clear hW
  have HVW0 := Lib.hid vW0
  have HBW := Lib.hid hBW
  clear hBW vW0
  refine (iof_ok W n hn0 hn1).mono ?_
  rintro e w1 ⟨b1, A1, c1, x, rfl, HB1, HX1, hx1, hB1⟩
  have HV1 := Lib.hid (HVW0.out.below' hB1)
  have HBd := Lib.hid (HBW.out.trans (hB1.mono HBW.out.size))
  have RX := Lib.hid hx1
  clear hB1 hx1
  go_wp2_with fail
  refine (iof_ok w1 m (by omega) hm1).mono ?_
  rintro e w2 ⟨b2, A2, c2, y, rfl, HB2, HY2, hy2, hB2⟩
  have HV2 := Lib.hid (HV1.out.below' hB2)
  have HBe := Lib.hid (HBd.out.trans (hB2.mono HBd.out.size))
  have RX2 := Lib.hid (RX.out.below hB2)
  have RY2 := Lib.hid hy2
  clear hB2 hy2
  go_wp2_with fail
  have hok : Hid (true = decide (V y ≠ 0)) := by
    have e3 : V y = m := by rw [HY2.out, V_limbs]; omega
    exact (decide_eq_true (by omega)).symm
  refine (qmake_ok w2 b1 b2 A1 A2 c1 c2 x y RX2.out RY2.out (by rw [HX1.out]; exact Nat.le_trans (limbs_len (m := 2) (by rw [pw_succ, pw_succ, pw_zero]; omega)) (by omega)) (by rw [HY2.out]; exact Nat.le_trans (limbs_len (m := 2) (by rw [pw_succ, pw_succ, pw_zero]; omega)) (by omega)) true hok).mono ?_
  have hq : qv (b1 != b2) x y = mkRat n m.toNat := by
    have e2 : b2 = false := by rw [HB2.out]; exact decide_eq_false (by omega)
    have e3 : V y = m := by rw [HY2.out, V_limbs]; omega
    unfold qv
    rw [e2, e3, show (b1 != false) = b1 by cases b1 <;> rfl, HB1.out, HX1.out, zv_norm]
  rw [hq]
  clear hq
  rintro e w3 ⟨b3, A3, c3, x3, B3, d3, y3, rfl, HQ1, HQ2, HQ3, hr1, hr2, hB3⟩
  have kc0 := (HV2.out.below' hB3).cell 0 rfl
  have kc1 := (HV2.out.below' hB3).cell 1 rfl
  have kc2 := (HV2.out.below' hB3).cell 2 rfl
  have kf0 := (HV2.out.below' hB3).thaw 0
  have kf1 := (HV2.out.below' hB3).thaw 1
  have kf2 := (HV2.out.below' hB3).thaw 2
  have HV3 := Lib.hid (HV2.out.below' hB3)
  have HB3 := Lib.hid (HBe.out.trans (hB3.mono HBe.out.size))
  have HR1 := Lib.hid hr1
  have HR2 := Lib.hid hr2
  clear hB3 hr1 hr2
  go_wp2_with fail
  have v3 : Vr (((w3.setCell ⟨w.heap.size, 0, none⟩ (.bool b3)).setCell ⟨w.heap.size, 1, none⟩ (.slice A3 x3.length c3)).setCell ⟨w.heap.size, 2, none⟩ (.slice B3 y3.length d3)) w.heap.size 28 #[.bool b3, .slice A3 x3.length c3, .slice B3 y3.length d3] := (((HV3.out.set 0 _).set 1 _).set 2 _)
  have r0 := (HR1.out).apart (HV3.out) (nd_rat _ _ _ _ _ _ _) 0 (.bool b3)
  have r1 := (r0).apart ((HV3.out).set 0 (.bool b3)) (nd_rat _ _ _ _ _ _ _) 1 (.slice A3 x3.length c3)
  have r2 := (r1).apart (((HV3.out).set 0 (.bool b3)).set 1 (.slice A3 x3.length c3)) (nd_rat _ _ _ _ _ _ _) 2 (.slice B3 y3.length d3)
  have s0 := (HR2.out).apart (HV3.out) (nd_rat _ _ _ _ _ _ _) 0 (.bool b3)
  have s1 := (s0).apart ((HV3.out).set 0 (.bool b3)) (nd_rat _ _ _ _ _ _ _) 1 (.slice A3 x3.length c3)
  have s2 := (s1).apart (((HV3.out).set 0 (.bool b3)).set 1 (.slice A3 x3.length c3)) (nd_rat _ _ _ _ _ _ _) 2 (.slice B3 y3.length d3)
  refine bodyPost_ret (v := .tuple #[.agg #[.bool b3, .slice A3 x3.length c3, .slice B3 y3.length d3], .bool true]) (by simp [results, Tryz.results55, go_sem, v3.cell 0 rfl, v3.cell 1 rfl, v3.cell 2 rfl]) rfl ?_
  exact ⟨b3, A3, c3, x3, B3, d3, y3, rfl, HQ1, HQ2, HQ3, r2, s2, (below_set (below_set (below_set HB3.out (Nat.le_refl _) _) (Nat.le_refl _) _) (Nat.le_refl _) _)⟩

end Go.Proofs.YtocpncjmcaecoaaGreat.M
namespace Go.Proofs.YtocpncjmcaecoaaGreat.M
set_option maxRecDepth 10000
open Go.RowKit
set_option linter.unusedVariables false
set_option linter.unusedSimpArgs false
theorem zmul_len {b b' : Bool} {x y : List Int} (hx : Lim x) (hy : Lim y) : (limbs (zv b x * zv b' y).natAbs).length ≤ x.length + y.length := by
  rw [Int.natAbs_mul, zv_abs b hx, zv_abs b' hy]
  exact mul_len hx hy

set_option maxHeartbeats 800000 in
theorem qsign_ok (w : World) (b : Bool) (A B : Option Addr) (c d : Nat) (xs ys : List Int) (hx : RN w A c xs) (hy : RN w B d ys) (hsx : xs.length ≤ 35184372088800) (hsy : ys.length ≤ 35184372088800) :
    Calls Tryz.prog 26 #[.agg #[.bool b, .slice A xs.length c, .slice B ys.length d]] w (fun e w' => e = .returned (.int .i64 (cmpI (qn b xs ys) 0)) ∧ Below w.heap.size w w') := by
  have HX := Lib.hid hx
  have HY := Lib.hid hy
  clear hx hy
  go_enter Tryz.func26, Tryz.ntmps26
  go_wp2_with fail
  obtain ⟨W, hW⟩ : ∃ W, W = (w.alloc (.cells #[.bool b, .slice A xs.length c, .slice B ys.length d] 28)) := ⟨_, rfl⟩
  rw [← hW]
  have hBW : Below w.heap.size w W := by rw [hW]; exact ((Below.refl _ _).alloc (Nat.le_refl _) _)
  have vW0 : Vr W (w.heap.size) 28 #[.bool b, .slice A xs.length c, .slice B ys.length d] := by rw [hW]; exact (Vr.new' _ _ _ (by simp only [size_alloc]))
  clear hW
  have HVW0 := Lib.hid vW0
  have HBW := Lib.hid hBW
  clear hBW vW0
  refine (parts_ok W b A B c d xs ys (HX.out.below HBW.out) (HY.out.below HBW.out) hsy).mono ?_
  rintro e w1 ⟨b1, A1, c1, x, b2, A2, c2, y, rfl, HQ1, HQ2, HL1, HL2, hx1, hy1, hB1⟩
  have HBd := Lib.hid (HBW.out.trans (hB1.mono HBW.out.size))
  have RX := Lib.hid hx1
  clear hB1 hx1 hy1
  go_upto_region 2 with fail
  obtain ⟨T, hT⟩ : ∃ T, T = ((w1.alloc (.cells #[.bool b1, .slice A1 x.length c1] 26)).alloc (.cells #[.bool b2, .slice A2 y.length c2] 26)) := ⟨_, rfl⟩
  rw [← hT]
  have hBT : Below w1.heap.size w1 T := by rw [hT]; exact (((Below.refl _ _).alloc (Nat.le_refl _) _).alloc (by simp only [size_alloc]; omega) _)
  have vT0 : Vr T (w1.heap.size) 26 #[.bool b1, .slice A1 x.length c1] := by rw [hT]; exact ((Vr.new' _ _ _ (by simp only [size_alloc])).alloc _)
  have vT1 : Vr T (w1.heap.size + 1) 26 #[.bool b2, .slice A2 y.length c2] := by rw [hT]; exact (Vr.new' _ _ _ (by simp only [size_alloc]))
  clear hT
  obtain ⟨gT1, hgT1⟩ : ∃ g, w1.heap.size + 1 = g := ⟨_, rfl⟩
  rw [hgT1] at vT1 ⊢
  have hneT01 : w1.heap.size ≠ gT1 := by omega
  have hgeT1 : w1.heap.size ≤ gT1 := by omega
  have hneT10 : gT1 ≠ w1.heap.size := by omega
  have HVT0 := Lib.hid vT0
  have HVT1 := Lib.hid vT1
  have HBT := Lib.hid hBT
  clear hBT vT0 vT1 hgT1
  have tc0 := (HVT0.out).cell 0 rfl
  have tc1 := (HVT0.out).cell 1 rfl
  have HBt := Lib.hid (HBd.out.trans (HBT.out.mono HBd.out.size))
  have RX2 := Lib.hid (RX.out.below HBT.out)
  go_wp2_with fail
  refine (sign_ok T b1 A1 c1 x RX2.out (by have := HL1.out; omega)).mono ?_
  rintro e w2 ⟨rfl, hB2⟩
  have HBe := Lib.hid (HBt.out.trans (hB2.mono HBt.out.size))
  clear hB2
  go_wp2_with fail
  go_ret
  exact ⟨by rw [← HQ1.out]; rfl, HBe.out⟩

set_option maxHeartbeats 1600000 in
theorem qcmp_ok (w : World) (p q : Bool) (P P2 Q Q2 : Option Addr) (cp cp2 cq cq2 : Nat) (xs ys us vs : List Int) (hx : RN w P cp xs) (hy : RN w P2 cp2 ys) (hu : RN w Q cq us) (hw : RN w Q2 cq2 vs) (hsx : xs.length ≤ 35184372088800) (hsy : ys.length ≤ 35184372088800) (hsu : us.length ≤ 35184372088800) (hsw : vs.length ≤ 35184372088800) :
    Calls Tryz.prog 27 #[.agg #[.bool p, .slice P xs.length cp, .slice P2 ys.length cp2], .agg #[.bool q, .slice Q us.length cq, .slice Q2 vs.length cq2]] w (fun e w' => e = .returned (.int .i64 (cmpI (qn p xs ys * qd vs) (qn q us vs * qd ys))) ∧ Below w.heap.size w w') := by
  have HX := Lib.hid hx
  have HY := Lib.hid hy
  have HU := Lib.hid hu
  have HW := Lib.hid hw
  clear hx hy hu hw
  go_enter Tryz.func27, Tryz.ntmps27
  go_wp2_with fail
  obtain ⟨W, hW⟩ : ∃ W, W = ((w.alloc (.cells #[.bool p, .slice P xs.length cp, .slice P2 ys.length cp2] 28)).alloc (.cells #[.bool q, .slice Q us.length cq, .slice Q2 vs.length cq2] 28)) := ⟨_, rfl⟩
  rw [← hW]
  have hBW : Below w.heap.size w W := by rw [hW]; exact (((Below.refl _ _).alloc (Nat.le_refl _) _).alloc (by simp only [size_alloc]; omega) _)
  have vW0 : Vr W (w.heap.size) 28 #[.bool p, .slice P xs.length cp, .slice P2 ys.length cp2] := by rw [hW]; exact ((Vr.new' _ _ _ (by simp only [size_alloc])).alloc _)
  have vW1 : Vr W (w.heap.size + 1) 28 #[.bool q, .slice Q us.length cq, .slice Q2 vs.length cq2] := by rw [hW]; exact (Vr.new' _ _ _ (by simp only [size_alloc]))
  clear hW
  obtain ⟨gW1, hgW1⟩ : ∃ g, w.heap.size + 1 = g := ⟨_, rfl⟩
  rw [hgW1] at vW1 ⊢
  have hneW01 : w.heap.size ≠ gW1 := by omega
  have hgeW1 : w.heap.size ≤ gW1 := by omega
  have hneW10 : gW1 ≠ w.heap.size := by omega
  have HVW0 := Lib.hid vW0
  have HVW1 := Lib.hid vW1
  have HBW := Lib.hid hBW
  clear hBW vW0 vW1 hgW1
  have oc0 := (HVW0.out).cell 0 rfl
  have oc1 := (HVW0.out).cell 1 rfl
  have oc2 := (HVW0.out).cell 2 rfl
  have pc0 := (HVW1.out).cell 0 rfl
  have pc1 := (HVW1.out).cell 1 rfl
  have pc2 := (HVW1.out).cell 2 rfl
  go_upto_region 1 with fail
  go_wp2_with fail
  refine (parts_ok W p P P2 cp cp2 xs ys (HX.out.below HBW.out) (HY.out.below HBW.out) hsy).mono ?_
  rintro e w1 ⟨b1, A1, c1, x, b2, A2, c2, y, rfl, HQ1, HQ2, HL1, HL2, hx1, hy1, hB1⟩
  have HB1 := Lib.hid (HBW.out.trans (hB1.mono HBW.out.size))
  have HV1 := Lib.hid (HVW1.out.below' hB1)
  have RX := Lib.hid hx1
  have RY := Lib.hid hy1
  clear hB1 hx1 hy1 oc0 oc1 oc2 pc0 pc1 pc2
  go_upto_region 2 with fail
  obtain ⟨T, hT⟩ : ∃ T, T = ((w1.alloc (.cells #[.bool b1, .slice A1 x.length c1] 26)).alloc (.cells #[.bool b2, .slice A2 y.length c2] 26)) := ⟨_, rfl⟩
  rw [← hT]
  have hBT : Below w1.heap.size w1 T := by rw [hT]; exact (((Below.refl _ _).alloc (Nat.le_refl _) _).alloc (by simp only [size_alloc]; omega) _)
  have vT0 : Vr T (w1.heap.size) 26 #[.bool b1, .slice A1 x.length c1] := by rw [hT]; exact ((Vr.new' _ _ _ (by simp only [size_alloc])).alloc _)
  have vT1 : Vr T (w1.heap.size + 1) 26 #[.bool b2, .slice A2 y.length c2] := by rw [hT]; exact (Vr.new' _ _ _ (by simp only [size_alloc]))
  clear hT
  obtain ⟨gT1, hgT1⟩ : ∃ g, w1.heap.size + 1 = g := ⟨_, rfl⟩
  rw [hgT1] at vT1 ⊢
  have hneT01 : w1.heap.size ≠ gT1 := by omega
  have hgeT1 : w1.heap.size ≤ gT1 := by omega
  have hneT10 : gT1 ≠ w1.heap.size := by omega
  have HVT0 := Lib.hid vT0
  have HVT1 := Lib.hid vT1
  have HBT := Lib.hid hBT
  clear hBT vT0 vT1 hgT1
  have HB2 := Lib.hid (HB1.out.trans (HBT.out.mono HB1.out.size))
  have HV2 := Lib.hid (HV1.out.below' HBT.out)
  have RX2 := Lib.hid (RX.out.below HBT.out)
  have RY2 := Lib.hid (RY.out.below HBT.out)
  have pc0 := (HV2.out).cell 0 rfl
  have pc1 := (HV2.out).cell 1 rfl
  have pc2 := (HV2.out).cell 2 rfl
  go_wp2_with fail
  refine (parts_ok T q Q Q2 cq cq2 us vs (HU.out.below HB2.out) (HW.out.below HB2.out) hsw).mono ?_
  rintro e w2 ⟨b3, A3, c3, u, b4, A4, c4, v, rfl, HQ3, HQ4, HL3, HL4, hx1, hy1, hB1⟩
  have HB3 := Lib.hid (HB2.out.trans (hB1.mono HB2.out.size))
  have HT0 := Lib.hid (HVT0.out.below' hB1)
  have HT1 := Lib.hid (HVT1.out.below' hB1)
  have RX3 := Lib.hid (RX2.out.below hB1)
  have RY3 := Lib.hid (RY2.out.below hB1)
  have RU3 := Lib.hid hx1
  have RV3 := Lib.hid hy1
  clear hB1 hx1 hy1 pc0 pc1 pc2
  go_upto_region 3 with fail
  obtain ⟨Z, hZ⟩ : ∃ Z, Z = ((w2.alloc (.cells #[.bool b3, .slice A3 u.length c3] 26)).alloc (.cells #[.bool b4, .slice A4 v.length c4] 26)) := ⟨_, rfl⟩
  rw [← hZ]
  have hBZ : Below w2.heap.size w2 Z := by rw [hZ]; exact (((Below.refl _ _).alloc (Nat.le_refl _) _).alloc (by simp only [size_alloc]; omega) _)
  have vZ0 : Vr Z (w2.heap.size) 26 #[.bool b3, .slice A3 u.length c3] := by rw [hZ]; exact ((Vr.new' _ _ _ (by simp only [size_alloc])).alloc _)
  have vZ1 : Vr Z (w2.heap.size + 1) 26 #[.bool b4, .slice A4 v.length c4] := by rw [hZ]; exact (Vr.new' _ _ _ (by simp only [size_alloc]))
  clear hZ
  obtain ⟨gZ1, hgZ1⟩ : ∃ g, w2.heap.size + 1 = g := ⟨_, rfl⟩
  rw [hgZ1] at vZ1 ⊢
  have hneZ01 : w2.heap.size ≠ gZ1 := by omega
  have hgeZ1 : w2.heap.size ≤ gZ1 := by omega
  have hneZ10 : gZ1 ≠ w2.heap.size := by omega
  have HVZ0 := Lib.hid vZ0
  have HVZ1 := Lib.hid vZ1
  have HBZ := Lib.hid hBZ
  clear hBZ vZ0 vZ1 hgZ1
  have HB4 := Lib.hid (HB3.out.trans (HBZ.out.mono HB3.out.size))
  have RX4 := Lib.hid (RX3.out.below HBZ.out)
  have RY4 := Lib.hid (RY3.out.below HBZ.out)
  have RU4 := Lib.hid (RU3.out.below HBZ.out)
  have RV4 := Lib.hid (RV3.out.below HBZ.out)
  have HT2 := Lib.hid (HT0.out.below' HBZ.out)
  have HT3 := Lib.hid (HT1.out.below' HBZ.out)
  clear RX RX2 RX3 RY RY2 RY3 RU3 RV3 HT0 HT1 HV1 HV2 HVW0 HVW1 HVT0 HVT1 HB1 HB2 HB3
  have ac0 := (HT2.out).cell 0 rfl
  have ac1 := (HT2.out).cell 1 rfl
  have bc0 := (HT3.out).cell 0 rfl
  have bc1 := (HT3.out).cell 1 rfl
  have cc0 := (HVZ0.out).cell 0 rfl
  have cc1 := (HVZ0.out).cell 1 rfl
  have dc0 := (HVZ1.out).cell 0 rfl
  have dc1 := (HVZ1.out).cell 1 rfl
  go_region_held3 (fun w' => w'.cell? ⟨w1.heap.size, 0, none⟩ = some (.bool b1) ∧ w'.cell? ⟨w1.heap.size, 1, none⟩ = some (.slice A1 x.length c1) ∧ w'.cell? ⟨gT1, 0, none⟩ = some (.bool b2) ∧ w'.cell? ⟨gT1, 1, none⟩ = some (.slice A2 y.length c2) ∧ w'.cell? ⟨w2.heap.size, 0, none⟩ = some (.bool b3) ∧ w'.cell? ⟨w2.heap.size, 1, none⟩ = some (.slice A3 u.length c3) ∧ w'.cell? ⟨gZ1, 0, none⟩ = some (.bool b4) ∧ w'.cell? ⟨gZ1, 1, none⟩ = some (.slice A4 v.length c4)) (go_keep)
    (first
      | (go_at_call_of 53 A1
         refine (imul_ok Z.drew b1 b4 A1 A4 c1 c4 x v (RX4.out.below (Below.refl _ _).drew) (RV4.out.below (Below.refl _ _).drew) (by have := HL1.out; have := HL4.out; omega)).mono ?_
         rintro e w3 ⟨b5, A5, c5, z5, rfl, HZ5, HM5, hz5, hB5⟩
         have HT2mc0 := (HT2.out.drew.below' hB5).cell 0 rfl
         have HT2mc1 := (HT2.out.drew.below' hB5).cell 1 rfl
         have HT2m := Lib.hid (HT2.out.drew.below' hB5)
         have HT3mc0 := (HT3.out.drew.below' hB5).cell 0 rfl
         have HT3mc1 := (HT3.out.drew.below' hB5).cell 1 rfl
         have HT3m := Lib.hid (HT3.out.drew.below' hB5)
         have HVZ0mc0 := (HVZ0.out.drew.below' hB5).cell 0 rfl
         have HVZ0mc1 := (HVZ0.out.drew.below' hB5).cell 1 rfl
         have HVZ0m := Lib.hid (HVZ0.out.drew.below' hB5)
         have HVZ1mc0 := (HVZ1.out.drew.below' hB5).cell 0 rfl
         have HVZ1mc1 := (HVZ1.out.drew.below' hB5).cell 1 rfl
         have HVZ1m := Lib.hid (HVZ1.out.drew.below' hB5)
         have HB5 := Lib.hid (HB4.out.drew.trans (hB5.mono HB4.out.drew.size))
         have RU5 := Lib.hid ((RU4.out.below (Below.refl _ _).drew).below hB5)
         have RY5 := Lib.hid ((RY4.out.below (Below.refl _ _).drew).below hB5)
         have RZ5 := Lib.hid hz5
         clear hB5 hz5)
      | (go_at_call_of 53 A3
         refine (imul_ok w3 b3 b2 A3 A2 c3 c2 u y RU5.out RY5.out (by have := HL3.out; have := HL2.out; omega)).mono ?_
         rintro e w4 ⟨b6, A6, c6, z6, rfl, HZ6, HM6, hz6, hB6⟩
         have HT2mmc0 := (HT2m.out.below' hB6).cell 0 rfl
         have HT2mmc1 := (HT2m.out.below' hB6).cell 1 rfl
         have HT2mm := Lib.hid (HT2m.out.below' hB6)
         have HT3mmc0 := (HT3m.out.below' hB6).cell 0 rfl
         have HT3mmc1 := (HT3m.out.below' hB6).cell 1 rfl
         have HT3mm := Lib.hid (HT3m.out.below' hB6)
         have HVZ0mmc0 := (HVZ0m.out.below' hB6).cell 0 rfl
         have HVZ0mmc1 := (HVZ0m.out.below' hB6).cell 1 rfl
         have HVZ0mm := Lib.hid (HVZ0m.out.below' hB6)
         have HVZ1mmc0 := (HVZ1m.out.below' hB6).cell 0 rfl
         have HVZ1mmc1 := (HVZ1m.out.below' hB6).cell 1 rfl
         have HVZ1mm := Lib.hid (HVZ1m.out.below' hB6)
         have HB6 := Lib.hid (HB5.out.trans (hB6.mono HB5.out.size))
         have RZ56 := Lib.hid (RZ5.out.below hB6)
         have RZ6 := Lib.hid hz6
         clear hB6 hz6)
      | (go_at_call 57
         refine (icmp_ok w4 b5 b6 A5 A6 c5 c6 z5 z6 RZ56.out RZ6.out (by rw [HM5.out]; exact Nat.le_trans (zmul_len RX4.out.2 RV4.out.2) (by have := HL1.out; have := HL4.out; omega)) (by rw [HM6.out]; exact Nat.le_trans (zmul_len RU4.out.2 RY4.out.2) (by have := HL3.out; have := HL2.out; omega))).mono ?_
         rintro e w5 ⟨rfl, hB7⟩
         have HT2mmmc0 := (HT2mm.out.below' hB7).cell 0 rfl
         have HT2mmmc1 := (HT2mm.out.below' hB7).cell 1 rfl
         have HT3mmmc0 := (HT3mm.out.below' hB7).cell 0 rfl
         have HT3mmmc1 := (HT3mm.out.below' hB7).cell 1 rfl
         have HVZ0mmmc0 := (HVZ0mm.out.below' hB7).cell 0 rfl
         have HVZ0mmmc1 := (HVZ0mm.out.below' hB7).cell 1 rfl
         have HVZ1mmmc0 := (HVZ1mm.out.below' hB7).cell 0 rfl
         have HVZ1mmmc1 := (HVZ1mm.out.below' hB7).cell 1 rfl
         have HB7 := Lib.hid (HB6.out.trans (hB7.mono HB6.out.size))
         clear hB7))
  go_wp2_with fail
  go_ret
  refine ⟨?_, HB7.out⟩
  rw [HZ5.out, HM5.out, HZ6.out, HM6.out, zv_norm, zv_norm, HQ1.out, HQ2.out, HQ3.out, HQ4.out]
  rfl

end Go.Proofs.YtocpncjmcaecoaaGreat.M
