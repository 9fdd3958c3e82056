/- The product of two numbers of the program. -/
import Derived.Test.YtgdlnmhpnlmofaaNatB
namespace Go.Proofs.Ytgdlnmhpnlmofaa.M
set_option maxRecDepth 10000
open Go.RowKit

theorem mask32' (n : Int) (h0 : 0 ≤ n) (h1 : n ≤ 18446744073709551615) : Go.bits .and .u64 n 4294967295 = n % 4294967296 := by
  have h := bits_mask .u64 64 (by decide) (fun m a b => IntWalk.u64_in m (by omega)) 32 (by decide) n h0 (by omega)
  have e : ((2 : Int) ^ 32 - 1) = 4294967295 := by decide
  have e2 : ((2 : Int) ^ 32) = 4294967296 := by decide
  rw [e, e2] at h
  exact h

theorem mk_make (t e : TypeId) (i : TypeInfo) (k : IntKind) (ht : Try.prog.underlying t = some (.slice e)) (hi : Try.prog.info? e = some i) (hz : i.zero = some (.int k 0)) (hsz : i.size = 1)
    (l : Int) (h0 : 0 ≤ l) (hb : (i.bytes : Int) * l ≤ 281474976710656) (h63 : l ≤ 9223372036854775807) :
    ∀ W : World, (Instr.makeSlice t (.int .i64 l) (.int .i64 l)).run Try.prog W = .ok (.slice (some ⟨W.heap.size, 0, none⟩) l.toNat l.toNat) (W.alloc (.cells (madeCells #[.int k 0] l.toNat) e)) := by
  intro W
  have h := run_make (P := Try.prog) W t e i _ ht hi hz .i64 .i64 l l h0 (Int.le_refl _) hb h63
  rw [hsz, Nat.mul_one] at h
  exact h

/-- The product so far: k digits of x have been taken. -/
def MulI (x y p : List Int) (k : Nat) : Prop := Lim p ∧ (∀ j, k + y.length ≤ j → dg p j = 0) ∧ V p = S (dg x) k * V y
theorem mul_start (x y : List Int) : MulI x y (List.replicate (x.length + y.length) 0) 0 := ⟨Lim.replicate _, fun j _ => dg_replicate _ j, by rw [V_replicate, S_zero, Int.zero_mul]⟩
/-- Inside: m digits of y have been taken for x's digit k. -/
def MulJ (x y p : List Int) (k m : Nat) (c : Int) : Prop := Lim p ∧ (∀ j, k + y.length ≤ j → dg p j = 0) ∧ 0 ≤ c ∧ c ≤ 4294967295 ∧ V p + c * pw (k + m) = S (dg x) k * V y + dg x k * (pw k * S (dg y) m)
theorem mul_in {x y p : List Int} {k : Nat} (h : MulI x y p k) : MulJ x y p k 0 0 := ⟨h.1, h.2.1, by omega, by omega, by rw [h.2.2, S_zero]; simp⟩
theorem mul_bound {a b : Int} (ha : 0 ≤ a ∧ a ≤ 4294967295) (hb : 0 ≤ b ∧ b ≤ 4294967295) : 0 ≤ a * b ∧ a * b ≤ 18446744065119617025 := by
  have h1 := Int.mul_nonneg ha.1 hb.1
  have h2 : a * b ≤ 4294967295 * 4294967295 := Int.mul_le_mul ha.2 hb.2 hb.1 (by omega)
  omega
theorem mul_round {x y p : List Int} {k m : Nat} {c : Int} (h : MulJ x y p k m c) (hx : Lim x) (hy : Lim y) (hm : m < y.length) (hp : p.length = x.length + y.length) (hk : k < x.length) :
    MulJ x y (p.set (k + m) ((c + (dg x k * dg y m + dg p (k + m))) % 4294967296)) k (m + 1) ((c + (dg x k * dg y m + dg p (k + m))) / 4294967296) := by
  obtain ⟨h1, h2, h3, h4, h5⟩ := h
  have hb := mul_bound (hx k) (hy m)
  have hq := h1 (k + m)
  generalize ht : c + (dg x k * dg y m + dg p (k + m)) = t
  refine ⟨h1.set _ (by omega) (by omega), fun j hj => ?_, by omega, by omega, ?_⟩
  · rw [dg_set, if_neg (fun h => by have := h.1; omega)]; exact h2 j hj
  · rw [V_set (by omega), S_succ, show k + (m + 1) = (k + m) + 1 from by omega, pw_succ, Int.mul_add, Int.mul_add, ← Int.add_assoc, ← h5, pw_add]
    have e : t = t / 4294967296 * 4294967296 + t % 4294967296 := by omega
    have e2 : (t % 4294967296 - dg p (k + m)) * (pw k * pw m) + t / 4294967296 * (4294967296 * (pw k * pw m)) = (c + dg x k * dg y m) * (pw k * pw m) := by
      rw [← Int.mul_assoc (t / 4294967296), ← Int.add_mul]
      congr 1
      omega
    have e3 : dg x k * (pw k * (dg y m * pw m)) = dg x k * dg y m * (pw k * pw m) := by
      rw [Int.mul_left_comm (pw k), ← Int.mul_assoc]
    rw [e3]
    rw [Int.add_mul] at e2
    omega
theorem mul_out {x y p : List Int} {k : Nat} {c : Int} (h : MulJ x y p k y.length c) (hp : p.length = x.length + y.length) (hk : k < x.length) : MulI x y (p.set (k + y.length) c) (k + 1) := by
  obtain ⟨h1, h2, h3, h4, h5⟩ := h
  refine ⟨h1.set _ h3 h4, fun j hj => ?_, ?_⟩
  · rw [dg_set, if_neg (fun h => by have := h.1; omega)]; exact h2 j (by omega)
  · rw [V_set (by omega), h2 _ (Nat.le_refl _), Int.sub_zero, h5, S_succ, Int.add_mul, Int.mul_assoc]
    rfl

set_option maxHeartbeats 400000 in
theorem mul_ok (w : World) (A B : Option Addr) (c d : Nat) (xs ys : List Int) (hx : RN w A c xs) (hy : RN w B d ys) (hs : xs.length + ys.length ≤ 70368744177664) :
    Calls Try.prog 69 #[.slice A xs.length c, .slice B ys.length d] w (RetN ((V xs).toNat * (V ys).toNat) w) := by
  have HVx := Lib.hid (V_nrm hx.2)
  have HVy := Lib.hid (V_nrm hy.2)
  have hlx := nrm_len hx.2
  have hly := nrm_len hy.2
  obtain ⟨i0, hi, hz0, hz1, hz2⟩ := info_parts info_u32
  go_enter Try.func69, Try.ntmps69
  go_wp2_with fail
  refine (trim_ok _ A c xs hx).mono ?_
  rintro e w1 ⟨rfl, x, rfl, HX, hx'⟩
  go_wp2_with fail
  refine (trim_ok _ B d ys hy).mono ?_
  rintro e w1 ⟨rfl, y, rfl, HY, hy'⟩
  rw [← HX.out] at hlx
  rw [← HY.out] at hly
  have EX : Hid (V xs = V x) := by show V xs = V x; rw [HX.out]; exact HVx.out.symm
  have EY : Hid (V ys = V y) := by show V ys = V y; rw [HY.out]; exact HVy.out.symm
  clear HX HY HVx HVy hx hy
  have RX := Lib.hid hx'
  have RY := Lib.hid hy'
  clear hx' hy'
  have hmk := mk_make 29 95 i0 .u32 Try.underlying29 hi hz0 hz1 ((x.length : Int) + (y.length : Int)) (by omega) (by rw [hz2]; omega) (by omega)
  rw [show ((x.length : Int) + (y.length : Int)).toNat = x.length + y.length from by omega] at hmk
  by_cases hx0 : x.length = 0
  · have hb : ((x.length : Int) == 0) = true := beq_iff_eq.2 (by omega)
    have Hx0 := Lib.hid hx0
    clear hx0
    go_wp2_with fail
    go_ret
    obtain rfl := List.length_eq_zero_iff.1 Hx0.out
    exact ⟨none, 0, [], rfl, by rw [EX.out, V_nil]; simp [Hid, limbs_zero], RN.nil _, Below.refl _ _⟩
  · have hb : ((x.length : Int) == 0) = false := beq_eq_false_iff_ne.2 (by omega)
    by_cases hy0 : y.length = 0
    · have hb2 : ((y.length : Int) == 0) = true := beq_iff_eq.2 (by omega)
      have Hy0 := Lib.hid hy0
      clear hy0 hx0
      go_wp2_with fail
      go_ret
      obtain rfl := List.length_eq_zero_iff.1 Hy0.out
      exact ⟨none, 0, [], rfl, by rw [EY.out, V_nil]; simp [Hid, limbs_zero], RN.nil _, Below.refl _ _⟩
    · have hb2 : ((y.length : Int) == 0) = false := beq_eq_false_iff_ne.2 (by omega)
      clear hx0 hy0
      go_wp2_with fail
      clear hmk
      go_loopw [33] (fun i wr => ∃ (k : Nat) (p : List Int), k ≤ x.length ∧ i = .int .i64 (k : Int) ∧ Hid (p.length = x.length + y.length) ∧ Hid (MulI x y p k) ∧ Bk wr w.heap.size 95 .u32 p ∧ Hid (Below w.heap.size w wr)) (fun i _ => x.length - (intOf i).toNat)
      case atStart => exact ⟨0, List.replicate (x.length + y.length) 0, Nat.zero_le _, rfl, by simp [Hid], mul_start x y, Bk.made _, (Below.refl _ w).alloc (Nat.le_refl _) _⟩
      case round =>
        obtain ⟨k, p, hk, rfl, HL, HI, HB, HW⟩ := hrel
        obtain ⟨wo, rfl⟩ : ∃ wo : World, wo = wr := ⟨_, rfl⟩
        by_cases hlt : k < x.length
        · obtain ⟨ad, rfl, hcx⟩ := ((RX.out).below HW.out).1.2.2 k hlt
          have bx := (RX.out).2 k
          go_wp2
          go_loopw [10, 40] (fun cv mv wr2 => ∃ (m : Nat) (q : Int) (p2 : List Int), m ≤ y.length ∧ mv = .int .i64 (m : Int) ∧ cv = .int .u64 q ∧ 0 ≤ q ∧ q ≤ 4294967295 ∧ Hid (p2.length = x.length + y.length) ∧ Hid (MulJ x y p2 k m q) ∧ Bk wr2 w.heap.size 95 .u32 p2 ∧ Hid (Below w.heap.size w wr2)) (fun _ mv _ => y.length - (intOf mv).toNat)
          case atStart => exact ⟨0, 0, p, Nat.zero_le _, rfl, rfl, Int.le_refl _, by omega, HL, mul_in HI.out, HB, HW⟩
          case round =>
            obtain ⟨m, q, p2, hm, rfl, rfl, hq0, hq1, HL2, HI2, HB2, HW2⟩ := hrel
            by_cases hlt2 : m < y.length
            · obtain ⟨bd, rfl, hcy⟩ := ((RY.out).below HW2.out).1.2.2 m hlt2
              have by' := (RY.out).2 m
              have bp := (HI2.out).1 (k + m)
              have bxy := mul_bound bx by'
              obtain ⟨hcp, hfp⟩ := HB2.cell (j := k + m) (by have := HL2.out; omega)
              have HS := Lib.hid (mul_round HI2.out RX.out.2 RY.out.2 hlt2 HL2.out hlt)
              go_wp2
              go_roundw
              case measure => simp [intOf]; omega
              case rel =>
                rw [mask32 _ (by omega) (by omega)]
                exact ⟨m + 1, _, p2.set (k + m) ((q + (dg x k * dg y m + dg p2 (k + m))) % 4294967296), by omega, by go_num, rfl, by omega, by omega, by show _ = _; rw [List.length_set]; exact HL2.out, HS, HB2.set _ _, below_set HW2.out (Nat.le_refl _) _⟩
            · obtain rfl : m = y.length := by omega
              obtain ⟨hcp, hfp⟩ := HB2.cell (j := k + y.length) (by have := HL2.out; omega)
              have HS := Lib.hid (mul_out HI2.out HL2.out hlt)
              go_wp2
              go_roundw
              case measure => simp [intOf]; omega
              case rel => exact ⟨k + 1, p2.set (k + y.length) q, by omega, by go_num, by show _ = _; rw [List.length_set]; exact HL2.out, HS, HB2.set _ _, below_set HW2.out (Nat.le_refl _) _⟩
        · obtain rfl : k = x.length := by omega
          have hR := HB.reads (by have := HL.out; omega)
          go_wp2_with fail
          rw [← HL.out]
          refine (trim_ok _ _ _ p ⟨hR, HI.out.1⟩).mono ?_
          rintro e w1 ⟨rfl, z, rfl, HZ, hz⟩
          go_wp2
          go_ret
          refine ⟨_, _, z, rfl, ?_, hz, HW.out⟩
          rw [HZ.out]
          unfold nrm
          rw [HI.out.2.2, EX.out, EY.out]
          show limbs (V x * V y).toNat = _
          have h1 := V_nonneg RX.out.2
          have h2 := V_nonneg RY.out.2
          congr 1
          rw [Int.toNat_mul h1 h2]

end Go.Proofs.Ytgdlnmhpnlmofaa.M
