/- Dividing: the guess of a digit. Dividing: a digit's multiple is subtracted in place, and one is added back. -/
import Derived.Test.YtocpncjmcaecoaaGreatNatG
import Derived.Test.YtocpncjmcaecoaaGreatOwn
namespace Go.Proofs.YtocpncjmcaecoaaGreat.M
set_option maxRecDepth 10000
open Go.RowKit
set_option linter.unusedVariables false
set_option linter.unusedSimpArgs false

/-- No digit of the quotient that is small enough is above d. -/
def Above (u v d : Int) : Prop := ∀ q, q ≤ 4294967295 → (∀ d', u < d' * v → q < d') → q ≤ d
/-- What a guess keeps: d and the rest r make up the head. -/
def GuI (u2 u1 u0 v1 v0 d r : Int) : Prop := d * v1 + r = u2 * 4294967296 + u1 ∧ Above ((u2 * 4294967296 + u1) * 4294967296 + u0) (v1 * 4294967296 + v0) d
/-- A guess. -/
def GuR (u2 u1 u0 v1 v0 d : Int) : Prop := 0 ≤ d ∧ d ≤ 4294967295 ∧ d * (v1 * 4294967296 + v0) ≤ (u2 * 4294967296 + u1) * 4294967296 + u0 ∧ Above ((u2 * 4294967296 + u1) * 4294967296 + u0) (v1 * 4294967296 + v0) d

theorem gu_start {u2 u1 u0 v1 v0 : Int} (h2 : 0 ≤ u2) (h3 : 0 ≤ u1) (h0 : 0 ≤ u0 ∧ u0 ≤ 4294967295) (h1 : 0 < v1) (hv : 0 ≤ v0) : GuI u2 u1 u0 v1 v0 ((u2 * 4294967296 + u1) / v1) ((u2 * 4294967296 + u1) % v1) := by
  refine ⟨by rw [Int.mul_comm]; exact Int.mul_ediv_add_emod _ _, fun q hq h => ?_⟩
  have hlt := h ((u2 * 4294967296 + u1) / v1 + 1) (by
    have hd0 : 0 ≤ (u2 * 4294967296 + u1) / v1 := Int.ediv_nonneg (by omega) (by omega)
    have h2 := Int.mul_ediv_add_emod (u2 * 4294967296 + u1) v1
    have h3 := Int.emod_lt_of_pos (u2 * 4294967296 + u1) h1
    generalize (u2 * 4294967296 + u1) / v1 = d at *
    generalize (u2 * 4294967296 + u1) % v1 = r at *
    have h4 : 0 ≤ (d + 1) * v0 := Int.mul_nonneg (by omega) hv
    have e : (d + 1) * (v1 * 4294967296 + v0) = (v1 * d + v1) * 4294967296 + (d + 1) * v0 := by
      rw [Int.mul_add, ← Int.mul_assoc, Int.add_mul, Int.one_mul, Int.mul_comm d v1]
    rw [e]
    omega)
  omega
theorem gu_down {u2 u1 u0 v1 v0 d r : Int} (h : GuI u2 u1 u0 v1 v0 d r) (hc : 4294967295 < d ∨ r * 4294967296 + u0 < d * v0) : GuI u2 u1 u0 v1 v0 (d - 1) (r + v1) := by
  obtain ⟨h1, h2⟩ := h
  have e : (d - 1) * v1 = d * v1 - v1 := by rw [Int.sub_mul, Int.one_mul]
  refine ⟨by omega, fun q hq h => ?_⟩
  rcases hc with hc | hc
  · omega
  · have := h d (by
      have e2 : d * (v1 * 4294967296 + v0) = d * v1 * 4294967296 + d * v0 := by rw [Int.mul_add, ← Int.mul_assoc]
      rw [e2]
      omega)
    omega
theorem gu_small {u2 u1 u0 v1 v0 d r : Int} (h : GuI u2 u1 u0 v1 v0 d r) (hu : u2 ≤ v1) (h1 : u1 ≤ 4294967295) (hv : 0 ≤ v1) (hr : 4294967295 < r) : d ≤ 4294967295 := by
  obtain ⟨h2, _⟩ := h
  rcases Int.lt_or_le 4294967295 d with hd | hd
  · have h3 : 4294967296 * v1 ≤ d * v1 := Int.mul_le_mul_of_nonneg_right (by omega) hv
    omega
  · exact hd
theorem gu_end {u2 u1 u0 v1 v0 d r : Int} (h : GuI u2 u1 u0 v1 v0 d r) (h0 : 0 ≤ d) (hd : d ≤ 4294967295) (hc : d * v0 ≤ r * 4294967296 + u0) : GuR u2 u1 u0 v1 v0 d := by
  obtain ⟨h1, h2⟩ := h
  refine ⟨h0, hd, ?_, h2⟩
  have e2 : d * (v1 * 4294967296 + v0) = d * v1 * 4294967296 + d * v0 := by rw [Int.mul_add, ← Int.mul_assoc]
  rw [e2]
  omega
theorem gu_break {u2 u1 u0 v1 v0 d r : Int} (h : GuI u2 u1 u0 v1 v0 d r) (h0 : 0 ≤ d) (hd : d ≤ 4294967295) (hr : 4294967295 < r) (hu : 0 ≤ u0) (hv0 : 0 ≤ v0) (hv : v0 ≤ 4294967295) : GuR u2 u1 u0 v1 v0 d := by
  refine gu_end h h0 hd ?_
  have h3 : d * v0 ≤ 4294967295 * 4294967295 := Int.mul_le_mul hd hv hv0 (by omega)
  omega

set_option maxHeartbeats 1600000 in
theorem guess_ok (w : World) (u2 u1 u0 v1 v0 : Int) (h2 : 0 ≤ u2 ∧ u2 ≤ 4294967295) (h1 : 0 ≤ u1 ∧ u1 ≤ 4294967295) (h0 : 0 ≤ u0 ∧ u0 ≤ 4294967295) (hv1 : 0 < v1 ∧ v1 ≤ 4294967295) (hv0 : 0 ≤ v0 ∧ v0 ≤ 4294967295) (hu : u2 ≤ v1) :
    Calls Tryz.prog 116 #[.int .u32 u2, .int .u32 u1, .int .u32 u0, .int .u32 v1, .int .u32 v0] w (fun e w' => ∃ d, e = .returned (.int .u64 d) ∧ Hid (GuR u2 u1 u0 v1 v0 d) ∧ w' = w) := by
  have hor := or32 (u2 * 4294967296) u1 (by omega) (by omega) (by omega) (by omega) (by omega)
  have HG0 := Lib.hid (gu_start h2.1 h1.1 h0 hv1.1 hv0.1)
  obtain ⟨h2a, h2b⟩ := h2
  obtain ⟨h1a, h1b⟩ := h1
  obtain ⟨h0a, h0b⟩ := h0
  obtain ⟨v1a, v1b⟩ := hv1
  obtain ⟨v0a, v0b⟩ := hv0
  have hr0 := Int.emod_nonneg (u2 * 4294967296 + u1) (by omega : v1 ≠ 0)
  have hr1 := Int.emod_lt_of_pos (u2 * 4294967296 + u1) v1a
  have hd0 : 0 ≤ (u2 * 4294967296 + u1) / v1 := Int.ediv_nonneg (by omega) (by omega)
  have hd1 : (u2 * 4294967296 + u1) / v1 ≤ 18446744073709551615 := Int.le_trans (Int.ediv_le_self _ (by omega)) (by omega)
  go_enter Tryz.func116, Tryz.ntmps116
  go_wp2_with fail
  go_loopw [12, 13] (fun dv rv wr => ∃ d r : Int, dv = .int .u64 d ∧ rv = .int .u64 r ∧ 0 ≤ d ∧ d ≤ 18446744073709551615 ∧ 0 ≤ r ∧ r ≤ 4294967295 ∧ Hid (GuI u2 u1 u0 v1 v0 d r) ∧ w = wr) (fun dv _ _ => (intOf dv).toNat)
  case atStart => exact ⟨_, _, rfl, rfl, hd0, hd1, hr0, by omega, HG0, rfl⟩
  case round =>
    clear HG0 hr0 hr1 hd0 hd1 hor
    obtain ⟨d, r, rfl, rfl, hd0, hd1, hr0, hr1, HG, hw⟩ := hrel
    obtain ⟨wo, rfl⟩ : ∃ wo : World, wo = wr := ⟨_, rfl⟩
    subst hw
    by_cases hc1 : 4294967295 < d
    · have dc1 : decide (4294967295 < d) = true := decide_eq_true hc1
      have HG2 := Lib.hid (gu_down HG.out (.inl hc1))
      by_cases hb : 4294967295 < r + v1
      · have hs := gu_small HG2.out hu h1b (by omega) hb
        have HR := Lib.hid (gu_break HG2.out (by omega) hs hb h0a v0a v0b)
        have db : decide (4294967295 < r + v1) = true := decide_eq_true hb
        go_wp2_with fail
        go_ret
        exact ⟨_, rfl, HR, rfl⟩
      · have db : decide (4294967295 < r + v1) = false := decide_eq_false hb
        go_wp2_with fail
        go_roundw
        case rel => exact ⟨d - 1, r + v1, by go_num, by go_num, by omega, by omega, by omega, by omega, HG2, by first | rfl | trivial⟩
        case measure => simp [intOf]; omega
    · have dc1 : decide (4294967295 < d) = false := decide_eq_false hc1
      have hp0 : 0 ≤ d * v0 := Int.mul_nonneg hd0 v0a
      have hp1 : d * v0 ≤ 4294967295 * 4294967295 := Int.mul_le_mul (by omega) v0b v0a (by omega)
      have hmul : IntKind.u64.wrap (d * v0) = d * v0 := IntWalk.u64_in _ (by omega)
      have hor := or32 (r * 4294967296) u0 (by omega) (by omega) (by omega) (by omega) (by omega)
      by_cases hc2 : r * 4294967296 + u0 < d * v0
      · have dc2 : decide (r * 4294967296 + u0 < d * v0) = true := decide_eq_true hc2
        have hd2 : 0 < d := by
          rcases Int.lt_or_le 0 d with h | h
          · exact h
          · obtain rfl : d = 0 := by omega
            rw [Int.zero_mul] at hc2
            omega
        have HG2 := Lib.hid (gu_down HG.out (.inr hc2))
        clear hc2
        by_cases hb : 4294967295 < r + v1
        · have hs := gu_small HG2.out hu h1b (by omega) hb
          have HR := Lib.hid (gu_break HG2.out (by omega) hs hb h0a v0a v0b)
          have db : decide (4294967295 < r + v1) = true := decide_eq_true hb
          go_wp2_with fail
          go_ret
          exact ⟨_, rfl, HR, rfl⟩
        · have db : decide (4294967295 < r + v1) = false := decide_eq_false hb
          go_wp2_with fail
          go_roundw
          case rel => exact ⟨d - 1, r + v1, by go_num, by go_num, by omega, by omega, by omega, by omega, HG2, by first | rfl | trivial⟩
          case measure => simp [intOf]; omega
      · have dc2 : decide (r * 4294967296 + u0 < d * v0) = false := decide_eq_false hc2
        have HR := Lib.hid (gu_end HG.out hd0 (by omega) (by omega))
        clear hc2
        go_wp2_with fail
        go_ret
        exact ⟨_, rfl, HR, rfl⟩

end Go.Proofs.YtocpncjmcaecoaaGreat.M
namespace Go.Proofs.YtocpncjmcaecoaaGreat.M
set_option maxRecDepth 10000
open Go.RowKit
set_option linter.unusedVariables false
set_option linter.unusedSimpArgs false

/-- d times v has been subtracted from U at j, i digits of it: b is borrowed, c is carried. -/
def SbI (U v p : List Int) (j : Nat) (d : Int) (i : Nat) (b c : Int) : Prop :=
  Lim p ∧ p.length = U.length ∧ (∀ t, t < j ∨ j + i ≤ t → dg p t = dg U t) ∧ S (fun t => dg p (j + t)) i = S (fun t => dg U (j + t)) i - d * S (dg v) i + (b + c) * pw i
theorem sb_start {U : List Int} (h : Lim U) (v : List Int) (j : Nat) (d : Int) : SbI U v U j d 0 0 0 := ⟨h, rfl, fun _ _ => rfl, by simp [S_zero]⟩
theorem sb_round {U v p : List Int} {j i : Nat} {d b c b' c' x : Int} (h : SbI U v p j d i b c) (hi : j + i < U.length) (hx : 0 ≤ x ∧ x ≤ 4294967295)
    (h1 : x = dg U (j + i) - b - (c + d * dg v i - c' * 4294967296) + b' * 4294967296) : SbI U v (p.set (j + i) x) j d (i + 1) b' c' := by
  obtain ⟨a1, a2, a3, a4⟩ := h
  have hlt : j + i < p.length := by omega
  refine ⟨a1.set _ hx.1 hx.2, by rw [List.length_set, a2], fun t ht => ?_, ?_⟩
  · rw [dg_set, if_neg (by omega)]
    exact a3 t (by omega)
  · have e1 : S (fun t => dg (p.set (j + i) x) (j + t)) i = S (fun t => dg p (j + t)) i := S_congr fun t ht => by
      show dg (p.set (j + i) x) (j + t) = dg p (j + t)
      rw [dg_set, if_neg (by omega)]
    have e2 : dg (p.set (j + i) x) (j + i) = x := by rw [dg_set, if_pos ⟨rfl, hlt⟩]
    rw [S_succ, S_succ, S_succ, e1, a4]
    show _ + dg (p.set (j + i) x) (j + i) * pw i = _
    rw [e2, h1, pw_succ]
    simp only [Int.add_mul, Int.sub_mul, Int.mul_add, Int.mul_sub]
    have e3 : b' * 4294967296 * pw i = b' * (4294967296 * pw i) := Int.mul_assoc _ _ _
    have e4 : c' * 4294967296 * pw i = c' * (4294967296 * pw i) := Int.mul_assoc _ _ _
    have e5 : d * dg v i * pw i = d * (dg v i * pw i) := Int.mul_assoc _ _ _
    rw [e3, e4, e5]
    omega

/-- A difference in 64 bits: its low half and its sign. -/
theorem diff64 {u b m : Int} (hu : 0 ≤ u ∧ u ≤ 4294967295) (hb : 0 ≤ b ∧ b ≤ 1) (hm : 0 ≤ m ∧ m ≤ 4294967295) :
    0 ≤ IntKind.u64.wrap (IntKind.u64.wrap (u - b) - m) ∧ IntKind.u64.wrap (IntKind.u64.wrap (u - b) - m) ≤ 18446744073709551615 ∧
    (IntKind.u64.wrap (IntKind.u64.wrap (u - b) - m) / 9223372036854775808 = if u - b - m < 0 then 1 else 0) ∧
    IntKind.u64.wrap (IntKind.u64.wrap (u - b) - m) % 4294967296 = u - b - m + (if u - b - m < 0 then 1 else 0) * 4294967296 := by
  have e : ∀ x, IntKind.u64.wrap x = x % 18446744073709551616 := fun x => by simp [IntKind.wrap, IntKind.bits, IntKind.signed]
  rw [e, e]
  split <;> omega
theorem grown_set {w w1 : World} {g : Nat} (h : w.grownBy w1 (some g)) (j : Nat) (v : Value) : w.grownBy (w1.setCell ⟨g, j, none⟩ v) (some g) := by
  refine ⟨h.os, h.tape, h.output, Nat.le_trans h.size (by simp [World.setCell]), fun k hk hne => ?_⟩
  rw [← h.block k hk hne]
  simp only [World.setCell, Array.getElem?_modify]
  rw [if_neg (fun e => hne (by rw [e]))]
theorem Rk.kept {w w1 : World} {k : IntKind} {A : Option Addr} {c : Nat} {xs : List Int} {g : Nat} (h : Rk w k A c xs) (hg : w.grownBy w1 (some g)) (hne : ∀ ad, A = some ad → ad.block ≠ g) : Rk w1 k A c xs := by
  refine ⟨h.1, h.2.1, fun i hi => ?_⟩
  obtain ⟨ad, e, hc⟩ := h.2.2 i hi
  exact ⟨ad, e, hg.cell hc (by rw [ad_blk]; exact fun e2 => hne ad e (by injection e2))⟩

set_option maxHeartbeats 1600000 in
theorem subtract_ok (w : World) (g j cu : Nat) (U : List Int) (A : Option Addr) (cv : Nat) (v : List Int) (d : Int) (hU : Bk w g 83 .u32 U) (hlU : Lim U) (hv : RN w A cv v) (hne : ∀ ad, A = some ad → ad.block ≠ g)
    (hj : j + v.length < U.length) (hcu : v.length + 1 ≤ cu ∧ cu ≤ 9223372036854775807) (hd : 0 ≤ d ∧ d ≤ 4294967295) :
    Calls Tryz.prog 117 #[.slice (some ⟨g, j, none⟩) (v.length + 1) cu, .slice A v.length cv, .int .u64 d] w
      (fun e w' => ∃ (p : List Int) (n : Bool), e = .returned (.bool n) ∧ Hid (SbI U v p j d (v.length + 1) (if n then 1 else 0) 0) ∧ Bk w' g 83 .u32 p ∧ w.grownBy w' (some g)) := by
  have HV := Lib.hid hv
  have HN := Lib.hid hne
  obtain ⟨hd0, hd1⟩ := hd
  obtain ⟨hcu1, hcu2⟩ := hcu
  have HI0 := Lib.hid (sb_start hlU v j d)
  have hvl : v.length ≤ 9223372036854775807 := by have := hv.1.1; have := hv.1.2.1; omega
  clear hv hne
  go_enter Tryz.func117, Tryz.ntmps117
  go_wp2_with fail
  go_loopw [7, 8, 15] (fun bv kv iv wr => ∃ (i : Nat) (b c : Int) (p : List Int), iv = .int .i64 (i : Int) ∧ i ≤ v.length ∧ bv = .int .u64 b ∧ kv = .int .u64 c ∧ 0 ≤ b ∧ b ≤ 1 ∧ 0 ≤ c ∧ c ≤ 4294967295 ∧ Hid (SbI U v p j d i b c) ∧ Bk wr g 83 .u32 p ∧ Hid (w.grownBy wr (some g))) (fun _ _ iv _ => v.length - (intOf iv).toNat)
  case atStart => exact ⟨0, 0, 0, U, rfl, Nat.zero_le _, rfl, rfl, by omega, by omega, by omega, by omega, HI0, hU, World.grownBy.refl _ _⟩
  case round =>
    clear HI0
    obtain ⟨i, b, c, p, rfl, hi, rfl, rfl, hb0, hb1, hc0, hc1, HI, HB, HG⟩ := hrel
    by_cases hlt : i < v.length
    · obtain ⟨ad, rfl, hcv⟩ := (HV.out.1.kept HG.out HN.out).2.2 i hlt
      have bv := (HV.out).2 i
      have bp := (HI.out).1 (j + i)
      obtain ⟨hcp, hfp⟩ := HB.cell (j := j + i) (by have := HI.out.2.1; omega)
      have hm0 : 0 ≤ d * dg v i := Int.mul_nonneg hd0 bv.1
      have hm1 : d * dg v i ≤ 4294967295 * 4294967295 := Int.mul_le_mul hd1 bv.2 bv.1 (by omega)
      have e3 : dg p (j + i) = dg U (j + i) := (HI.out).2.2.1 _ (.inr (Nat.le_refl _))
      have HE3 := Lib.hid e3
      have hm0' : 0 ≤ (c + d * dg v i) % 4294967296 := by omega
      have hm1' : (c + d * dg v i) % 4294967296 ≤ 4294967295 := by omega
      have HT := Lib.hid (diff64 bp ⟨hb0, hb1⟩ ⟨hm0', hm1'⟩)
      have HM : Hid (Go.bits .and .u64 (c + d * dg v i) 4294967295 = (c + d * dg v i) % 4294967296) := mask32' _ (by omega) (by omega)
      have hju : j + i < U.length := by omega
      clear e3 hm0' hm1'
      go_wp2_with fail
      rw [HM.out]
      obtain ⟨t0, t1, t2, t3⟩ := HT.out
      generalize IntKind.u64.wrap (IntKind.u64.wrap (dg p (j + i) - b) - (c + d * dg v i) % 4294967296) = T at t0 t1 t2 t3 ⊢
      rw [mask32 T t0 t1]
      have hb2 : 0 ≤ T / 9223372036854775808 ∧ T / 9223372036854775808 ≤ 1 := by omega
      have hS : SbI U v (p.set (j + i) (T % 4294967296)) j d (i + 1) (T / 9223372036854775808) ((c + d * dg v i) / 4294967296) := by
        refine sb_round HI.out hju (by omega) ?_
        rw [t2, t3, ← HE3.out]
        omega
      clear t2 t3 HT
      go_roundw
      case rel => exact ⟨i + 1, _, _, _, by go_num, hlt, rfl, rfl, hb2.1, hb2.2, by omega, by omega, hS, HB.set _ _, grown_set HG.out _ _⟩
      case measure => simp [intOf]; omega
    · obtain rfl : i = v.length := by omega
      have bp := (HI.out).1 (j + v.length)
      obtain ⟨hcp, hfp⟩ := HB.cell (j := j + v.length) (by have := HI.out.2.1; omega)
      have e3 : dg p (j + v.length) = dg U (j + v.length) := (HI.out).2.2.1 _ (.inr (Nat.le_refl _))
      have HE3 := Lib.hid e3
      have HT := Lib.hid (diff64 bp ⟨hb0, hb1⟩ ⟨hc0, hc1⟩)
      clear e3
      go_wp2_with fail
      obtain ⟨t0, t1, t2, t3⟩ := HT.out
      generalize IntKind.u64.wrap (IntKind.u64.wrap (dg p (j + v.length) - b) - c) = T at t0 t1 t2 t3 ⊢
      rw [mask32 T t0 t1]
      have hS : SbI U v (p.set (j + v.length) (T % 4294967296)) j d (v.length + 1) (T / 9223372036854775808) 0 := by
        refine sb_round HI.out hj (by omega) ?_
        rw [t3, ← HE3.out, t2, dg_ge (Nat.le_refl _), Int.mul_zero]
        omega
      go_ret
      refine ⟨_, _, rfl, ?_, HB.set _ _, grown_set HG.out _ _⟩
      have e : (if (T / 9223372036854775808 == 1) = true then (1 : Int) else 0) = T / 9223372036854775808 := by
        by_cases h : T / 9223372036854775808 = 1
        · rw [h]; rfl
        · have h2 : (T / 9223372036854775808 == 1) = false := by simpa using h
          rw [h2]
          show (0 : Int) = _
          omega
      rw [e]
      exact hS

/-- What a subtraction leaves: the new digits, and whether it has gone below nought. -/
theorem sb_end {U v p : List Int} {j : Nat} {d : Int} {n : Bool} (h : SbI U v p j d (v.length + 1) (if n then 1 else 0) 0) : S (fun t => dg p (j + t)) (v.length + 1) - (if n then 1 else 0) * pw (v.length + 1) = S (fun t => dg U (j + t)) (v.length + 1) - d * V v := by
  obtain ⟨_, _, _, h4⟩ := h
  have e : S (dg v) (v.length + 1) = V v := by
    rw [S_succ, dg_ge (Nat.le_refl _), Int.zero_mul]
    unfold V
    omega
  rw [h4, e, Int.add_zero]
  omega

/-- v has been added to U at j, i digits of it. -/
def AbI (U v p : List Int) (j i : Nat) (c : Int) : Prop :=
  Lim p ∧ p.length = U.length ∧ (∀ t, t < j ∨ j + i ≤ t → dg p t = dg U t) ∧ S (fun t => dg p (j + t)) i + c * pw i = S (fun t => dg U (j + t)) i + S (dg v) i
theorem ab_start {U : List Int} (h : Lim U) (v : List Int) (j : Nat) : AbI U v U j 0 0 := ⟨h, rfl, fun _ _ => rfl, by simp [S_zero]⟩
theorem ab_round {U v p : List Int} {j i : Nat} {c c' x : Int} (h : AbI U v p j i c) (hi : j + i < U.length) (hx : 0 ≤ x ∧ x ≤ 4294967295)
    (h1 : x = c + dg U (j + i) + dg v i - c' * 4294967296) : AbI U v (p.set (j + i) x) j (i + 1) c' := by
  obtain ⟨a1, a2, a3, a4⟩ := h
  have hlt : j + i < p.length := by omega
  refine ⟨a1.set _ hx.1 hx.2, by rw [List.length_set, a2], fun t ht => ?_, ?_⟩
  · rw [dg_set, if_neg (by omega)]
    exact a3 t (by omega)
  · have e1 : S (fun t => dg (p.set (j + i) x) (j + t)) i = S (fun t => dg p (j + t)) i := S_congr fun t ht => by
      show dg (p.set (j + i) x) (j + t) = dg p (j + t)
      rw [dg_set, if_neg (by omega)]
    have e2 : dg (p.set (j + i) x) (j + i) = x := by rw [dg_set, if_pos ⟨rfl, hlt⟩]
    rw [S_succ, S_succ, S_succ, e1]
    show S (fun t => dg p (j + t)) i + dg (p.set (j + i) x) (j + i) * pw i + _ = _
    rw [e2, h1, pw_succ]
    simp only [Int.add_mul, Int.sub_mul]
    have e3 : c' * 4294967296 * pw i = c' * (4294967296 * pw i) := Int.mul_assoc _ _ _
    rw [e3]
    omega

set_option maxHeartbeats 1600000 in
theorem addBack_ok (w : World) (g j cu : Nat) (U : List Int) (A : Option Addr) (cv : Nat) (v : List Int) (hU : Bk w g 83 .u32 U) (hlU : Lim U) (hv : RN w A cv v) (hne : ∀ ad, A = some ad → ad.block ≠ g)
    (hj : j + v.length < U.length) (hcu : v.length + 1 ≤ cu ∧ cu ≤ 9223372036854775807) :
    Calls Tryz.prog 118 #[.slice (some ⟨g, j, none⟩) (v.length + 1) cu, .slice A v.length cv] w
      (fun e w' => ∃ (p : List Int) (c : Int), e = .returned (.tuple #[]) ∧ 0 ≤ c ∧ c ≤ 1 ∧ Hid (AbI U v p j (v.length + 1) c) ∧ Bk w' g 83 .u32 p ∧ w.grownBy w' (some g)) := by
  have HV := Lib.hid hv
  have HN := Lib.hid hne
  obtain ⟨hcu1, hcu2⟩ := hcu
  have HI0 := Lib.hid (ab_start hlU v j)
  have hvl : v.length ≤ 9223372036854775807 := by have := hv.1.1; have := hv.1.2.1; omega
  clear hv hne
  go_enter Tryz.func118, Tryz.ntmps118
  go_wp2_with fail
  go_loopw [4, 9] (fun kv iv wr => ∃ (i : Nat) (c : Int) (p : List Int), iv = .int .i64 (i : Int) ∧ i ≤ v.length ∧ kv = .int .u64 c ∧ 0 ≤ c ∧ c ≤ 1 ∧ Hid (AbI U v p j i c) ∧ Bk wr g 83 .u32 p ∧ Hid (w.grownBy wr (some g))) (fun _ iv _ => v.length - (intOf iv).toNat)
  case atStart => exact ⟨0, 0, U, rfl, Nat.zero_le _, rfl, by omega, by omega, HI0, hU, World.grownBy.refl _ _⟩
  case round =>
    clear HI0
    obtain ⟨i, c, p, rfl, hi, rfl, hc0, hc1, HI, HB, HG⟩ := hrel
    by_cases hlt : i < v.length
    · obtain ⟨ad, rfl, hcv⟩ := (HV.out.1.kept HG.out HN.out).2.2 i hlt
      have bv := (HV.out).2 i
      have bp := (HI.out).1 (j + i)
      obtain ⟨hcp, hfp⟩ := HB.cell (j := j + i) (by have := HI.out.2.1; omega)
      have HE3 : Hid (dg p (j + i) = dg U (j + i)) := (HI.out).2.2.1 _ (.inr (Nat.le_refl _))
      have hju : j + i < U.length := by omega
      go_wp2_with fail
      rw [mask32 _ (by omega) (by omega)]
      have hS : AbI U v (p.set (j + i) ((c + (dg p (j + i) + dg v i)) % 4294967296)) j (i + 1) ((c + (dg p (j + i) + dg v i)) / 4294967296) := by
        refine ab_round HI.out hju (by omega) ?_
        rw [← HE3.out]
        omega
      go_roundw
      case rel => exact ⟨i + 1, _, _, by go_num, hlt, rfl, by omega, by omega, hS, HB.set _ _, grown_set HG.out _ _⟩
      case measure => simp [intOf]; omega
    · obtain rfl : i = v.length := by omega
      have bp := (HI.out).1 (j + v.length)
      obtain ⟨hcp, hfp⟩ := HB.cell (j := j + v.length) (by have := HI.out.2.1; omega)
      have HE3 : Hid (dg p (j + v.length) = dg U (j + v.length)) := (HI.out).2.2.1 _ (.inr (Nat.le_refl _))
      go_wp2_with fail
      have hS : AbI U v (p.set (j + v.length) ((dg p (j + v.length) + c) % 4294967296)) j (v.length + 1) ((dg p (j + v.length) + c) / 4294967296) := by
        refine ab_round HI.out hj (by omega) ?_
        rw [← HE3.out, dg_ge (xs := v) (Nat.le_refl _)]
        omega
      refine bodyPost_end (v := .tuple #[]) (results_none rfl _ _ _) rfl ?_
      exact ⟨_, _, rfl, by omega, by omega, hS, HB.set _ _, grown_set HG.out _ _⟩

/-- What adding back leaves: the new digits and what is carried out. -/
theorem ab_end {U v p : List Int} {j : Nat} {c : Int} (h : AbI U v p j (v.length + 1) c) : S (fun t => dg p (j + t)) (v.length + 1) + c * pw (v.length + 1) = S (fun t => dg U (j + t)) (v.length + 1) + V v := by
  obtain ⟨_, _, _, h4⟩ := h
  have e : S (dg v) (v.length + 1) = V v := by
    rw [S_succ, dg_ge (Nat.le_refl _), Int.zero_mul]
    unfold V
    omega
  rw [h4, e]

end Go.Proofs.YtocpncjmcaecoaaGreat.M
