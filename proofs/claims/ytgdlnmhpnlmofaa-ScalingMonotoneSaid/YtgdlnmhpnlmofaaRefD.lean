/- The reference: Add. -/
import Derived.Test.YtgdlnmhpnlmofaaRefC
namespace Go.Proofs.Ytgdlnmhpnlmofaa.M
set_option maxRecDepth 10000
open Go.RowKit
set_option linter.unusedVariables false

/-- The reference's sum so far, in a row of n digits. -/
def RAddI (x y p : List Int) (n k : Nat) (q : Int) : Prop := Lim p ∧ p.length = n ∧ (∀ j, k ≤ j → dg p j = 0) ∧ V p + q * pw k = S (dg x) k + S (dg y) k
theorem radd_start (x y : List Int) (n : Nat) : RAddI x y (List.replicate n 0) n 0 0 := ⟨Lim.replicate _, by simp, fun j _ => dg_replicate _ j, by rw [V_replicate, S_zero, S_zero]; simp⟩
theorem radd_round {x y p : List Int} {n k : Nat} {q t : Int} (h : RAddI x y p n k q) (hk : k < n) (ht : dg x k + dg y k + q = t) (h0 : 0 ≤ t) : RAddI x y (p.set k (t % 4294967296)) n (k + 1) (t / 4294967296) := by
  obtain ⟨a1, a2, a3, a4⟩ := h
  refine ⟨a1.set _ (by omega) (by omega), by simp [a2], fun j hj => ?_, ?_⟩
  · rw [dg_set, if_neg (fun h => by have := h.1; omega)]; exact a3 j (by omega)
  · rw [V_set (by omega), a3 k (Nat.le_refl _), S_succ, S_succ, pw_succ, ← Int.mul_assoc, Int.sub_zero]
    have e : t % 4294967296 * pw k + t / 4294967296 * 4294967296 * pw k = t * pw k := by
      rw [← Int.add_mul]
      congr 1
      omega
    rw [← ht] at e ⊢
    rw [Int.add_mul, Int.add_mul] at e
    omega
theorem radd_end {x y p : List Int} {n : Nat} {q : Int} (h : RAddI x y p (n + 1) (n + 1) q) (hx : Lim x) (hy : Lim y) (hlx : x.length ≤ n) (hly : y.length ≤ n) (hq : 0 ≤ q) : V p = V x + V y := by
  obtain ⟨a1, a2, a3, a4⟩ := h
  rw [V_at (show x.length ≤ n + 1 by omega), V_at (show y.length ≤ n + 1 by omega)] at a4
  have h1 := V_lt hx
  have h2 := V_lt hy
  have h3 := pw_le hlx
  have h4 := pw_le hly
  have h5 := pw_pos n
  have h6 := V_nonneg a1
  rw [pw_succ] at a4
  rcases (show q = 0 ∨ 1 ≤ q by omega) with rfl | h7
  · rw [Int.zero_mul, Int.add_zero] at a4; exact a4
  · have : 1 * (4294967296 * pw n) ≤ q * (4294967296 * pw n) := Int.mul_le_mul_of_nonneg_right h7 (by omega)
    omega

set_option maxHeartbeats 800000 in
theorem radd_ok (w : World) (A B : Option Addr) (c d : Nat) (xs ys : List Int) (hx : RN w A c xs) (hy : RN w B d ys) (hsx : xs.length ≤ 70368744177663) (hsy : ys.length ≤ 70368744177663) :
    Calls Try.prog 86 #[.slice A xs.length c, .slice B ys.length d] w (RetN ((V xs).toNat + (V ys).toNat) w) := by
  obtain ⟨i0, hi, hz0, hz1, hz2⟩ := info_parts info_u32
  have RX := Lib.hid hx
  have RY := Lib.hid hy
  clear hx hy
  have h1 : xs.length ≤ max xs.length ys.length := by omega
  have h2 : ys.length ≤ max xs.length ys.length := by omega
  have h3 : max xs.length ys.length ≤ 70368744177663 := by omega
  have hmk := mk_make 29 95 i0 .u32 Try.underlying29 hi hz0 hz1 (((max xs.length ys.length : Nat) : Int) + 1) (by omega) (by rw [hz2]; omega) (by omega)
  rw [show (((max xs.length ys.length : Nat) : Int) + 1).toNat = max xs.length ys.length + 1 from by omega] at hmk
  have HMK := Lib.hid hmk
  clear hmk
  go_enter Try.func86, Try.ntmps86
  go_upto_region 1 with fail
  go_cut [5] (fun s5 wx => s5 = .slice (some ⟨w.heap.size, 0, none⟩) (max xs.length ys.length + 1) (max xs.length ys.length + 1) ∧ Bk wx w.heap.size 95 .u32 (List.replicate (max xs.length ys.length + 1) 0) ∧ Hid (Below w.heap.size w wx))
  case first =>
    have hbk := Lib.hid (Bk.made (w := w) (e := 95) (k := .u32) (max xs.length ys.length + 1))
    have hb0 : Hid (Below w.heap.size w (w.alloc (.cells (madeCells #[.int .u32 0] (max xs.length ys.length + 1)) 95 (0, 0)))) := (Below.refl _ w).alloc (Nat.le_refl _) _
    by_cases hm : (ys.length : Int) ≤ (xs.length : Int)
    · have hd : decide (ys.length ≤ xs.length) = true := decide_eq_true (by omega)
      have e : max xs.length ys.length = xs.length := Nat.max_eq_left (by omega)
      have hmk := HMK.out
      rw [e] at hmk hbk hb0
      have HE := Lib.hid e
      clear e
      go_wp2_with fail
      go_meet
      exact ⟨by rw [HE.out], by rw [HE.out]; exact hbk.out, hb0⟩
    · have hd : decide (ys.length ≤ xs.length) = false := decide_eq_false (by omega)
      have e : max xs.length ys.length = ys.length := Nat.max_eq_right (by omega)
      have hmk := HMK.out
      rw [e] at hmk hbk hb0
      have HE := Lib.hid e
      clear e
      go_wp2_with fail
      go_meet
      exact ⟨by rw [HE.out], by rw [HE.out]; exact hbk.out, hb0⟩
  case rest =>
    obtain ⟨rfl, hbk, hb0⟩ := hcut
    have HBK := Lib.hid hbk
    clear HMK hbk
    generalize max xs.length ys.length = n at *
    go_wp2_with fail
    go_loopw [6, 7] (fun qv iv wr => ∃ (k : Nat) (q : Int) (p : List Int), k ≤ n + 1 ∧ iv = .int .i64 (k : Int) ∧ qv = .int .u64 q ∧ 0 ≤ q ∧ q ≤ 1 ∧ Hid (RAddI xs ys p (n + 1) k q) ∧ Bk wr w.heap.size 95 .u32 p ∧ Hid (Below w.heap.size w wr)) (fun _ iv _ => n + 1 - (intOf iv).toNat)
    case atStart => exact ⟨0, 0, _, Nat.zero_le _, rfl, rfl, Int.le_refl _, by omega, radd_start xs ys (n + 1), HBK.out, hb0⟩
    case round =>
      clear HBK hb0
      obtain ⟨k, q, p, hk, rfl, rfl, hq0, hq1, HI, HB, HW⟩ := hrel
      by_cases hlt : k < n + 1
      · have bx := (RX.out).2 k
        have by' := (RY.out).2 k
        obtain ⟨hcp, hfp⟩ := HB.cell (j := k) (by have := HI.out.2.1; omega)
        have hlti : (k : Int) < (n : Int) + 1 := by omega
        have HS := Lib.hid (radd_round HI.out hlt rfl (by omega))
        go_wp2_with fail
        refine (limb_ok _ A c xs ((RX.out).below HW.out) (k : Int) (by omega)).mono ?_
        rintro e w1 ⟨rfl, rfl⟩
        rw [Int.toNat_natCast]
        go_wp2_with fail
        refine (limb_ok _ B d ys ((RY.out).below HW.out) (k : Int) (by omega)).mono ?_
        rintro e w1 ⟨rfl, rfl⟩
        rw [Int.toNat_natCast]
        go_wp2_with fail
        go_roundw
        case rel => exact ⟨k + 1, _, p.set k ((dg xs k + dg ys k + q) % 4294967296), by omega, by go_num, rfl, by omega, by omega, HS, HB.set _ _, below_set HW.out (Nat.le_refl _) _⟩
        case measure => simp [intOf]; omega
      · obtain rfl : k = n + 1 := by omega
        have hpl : p.length ≤ 70368744177664 := by have := HI.out.2.1; omega
        have hR := HB.reads (by omega)
        have e1 := radd_end HI.out RX.out.2 RY.out.2 h1 h2 hq0
        have n1 := V_nonneg RX.out.2
        have n2 := V_nonneg RY.out.2
        have e2 : (V p).toNat = (V xs).toNat + (V ys).toNat := by omega
        have HE := Lib.hid e2
        have HL := Lib.hid HI.out.2.1
        clear e1 e2 n1 n2
        go_wp2_with fail
        rw [← HL.out]
        refine (rnorm_ok _ _ _ p ⟨hR, HI.out.1⟩ hpl).mono ?_
        rintro e w1 ⟨A1, c1, z, rfl, HZ, hz, hB⟩
        have HB1 := Lib.hid (below_seq HW.out hB)
        clear hR hB
        go_wp2
        go_ret
        exact ⟨_, _, z, rfl, by show z = _; rw [HZ.out, HE.out], hz, HB1.out⟩

end Go.Proofs.Ytgdlnmhpnlmofaa.M
