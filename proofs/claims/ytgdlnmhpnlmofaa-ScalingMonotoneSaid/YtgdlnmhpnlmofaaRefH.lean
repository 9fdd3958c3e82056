/- The reference: half. -/
import Derived.Test.YtgdlnmhpnlmofaaRefG
import Derived.StillTailTactics
namespace Go.Proofs.Ytgdlnmhpnlmofaa.M
set_option maxRecDepth 10000
open Go.RowKit
set_option linter.unusedVariables false
set_option linter.unusedSimpArgs false

/-- Half of a number: k digits have been done. -/
def HalfI (a p : List Int) (k : Nat) : Prop := Lim p ∧ p.length = a.length ∧ (∀ j, k ≤ j → dg p j = 0) ∧ 2 * V p + dg a 0 % 2 = S (dg a) k + dg a k % 2 * pw k
theorem half_start (a : List Int) : HalfI a (List.replicate a.length 0) 0 := ⟨Lim.replicate _, by simp, fun j _ => dg_replicate _ j, by rw [V_replicate, S_zero, pw_zero]; omega⟩
theorem half_round {a p : List Int} {k : Nat} {t : Int} (h : HalfI a p k) (ha : Lim a) (hk : k < a.length) (ht : t = (dg a (k + 1) * 4294967296 + dg a k) / 2 % 4294967296) : HalfI a (p.set k t) (k + 1) := by
  obtain ⟨a1, a2, a3, a4⟩ := h
  have h1 := ha k
  have h2 := ha (k + 1)
  refine ⟨a1.set _ (by omega) (by omega), by simp [a2], fun j hj => ?_, ?_⟩
  · rw [dg_set, if_neg (fun h => by have := h.1; omega)]; exact a3 j (by omega)
  · rw [V_set (by omega), a3 k (Nat.le_refl _), S_succ, pw_succ, ← Int.mul_assoc, Int.sub_zero]
    have e : 2 * t = dg a (k + 1) % 2 * 4294967296 + (dg a k - dg a k % 2) := by omega
    have e2 : 2 * t * pw k = dg a (k + 1) % 2 * 4294967296 * pw k + dg a k * pw k - dg a k % 2 * pw k := by
      rw [e, Int.add_mul, Int.sub_mul]
      omega
    have e3 : 2 * (V p + t * pw k) = 2 * V p + 2 * t * pw k := by rw [Int.mul_add, Int.mul_assoc]
    rw [e3]
    omega
theorem half_end {a p : List Int} (h : HalfI a p a.length) : V p = V a / 2 := by
  obtain ⟨a1, a2, a3, a4⟩ := h
  rw [dg_ge (xs := a) (Nat.le_refl _)] at a4
  have : 2 * V p + dg a 0 % 2 = V a := by rw [a4]; unfold V; omega
  omega

theorem limb_still (w : World) (A : Option Addr) (c : Nat) (xs : List Int) (h : RN w A c xs) (i : Int) (j : Nat) (h0 : i = (j : Int)) :
    Calls Try.prog 88 #[.slice A xs.length c, .int .i64 i] w fun e w' => e = .returned (.int .u64 (dg xs j)) ∧ w' = w :=
  (limb_ok w A c xs h i (by omega)).mono fun e w' ⟨h1, h2⟩ => ⟨by rw [h1, h0, Int.toNat_natCast], h2.symm⟩

set_option maxHeartbeats 800000 in
theorem rhalf_f (w : World) (A : Option Addr) (c : Nat) (xs : List Int) (hx : RN w A c xs) (hs : xs.length ≤ 70368744177664) : Calls Try.prog 105 #[.slice A xs.length c] w (RetF ((V xs).toNat / 2) w) := by
  obtain ⟨i0, hi, hz0, hz1, hz2⟩ := info_parts info_u32
  have RX := Lib.hid hx
  clear hx
  have hmk := mk_make 29 95 i0 .u32 Try.underlying29 hi hz0 hz1 (xs.length : Int) (by omega) (by rw [hz2]; omega) (by omega)
  rw [Int.toNat_natCast] at hmk
  go_enter Try.func105, Try.ntmps105
  go_wp2_with fail
  clear hmk
  go_loopw [4] (fun iv wr => ∃ (k : Nat) (p : List Int), k ≤ xs.length ∧ iv = .int .i64 (k : Int) ∧ Hid (HalfI xs p k) ∧ Bk wr w.heap.size 95 .u32 p ∧ Hid (Below w.heap.size w wr)) (fun iv _ => xs.length - (intOf iv).toNat)
  case atStart => exact ⟨0, _, Nat.zero_le _, rfl, half_start xs, Bk.made _, (Below.refl _ w).alloc (Nat.le_refl _) _⟩
  case round =>
    obtain ⟨k, p, hk, rfl, HI, HB, HW⟩ := hrel
    by_cases hlt : k < xs.length
    · obtain ⟨ad, rfl, hcx⟩ := ((RX.out).below HW.out).1.2.2 k hlt
      have bx := (RX.out).2 k
      have bx2 := (RX.out).2 (k + 1)
      obtain ⟨hcp, hfp⟩ := HB.cell (j := k) (by have := HI.out.2.1; omega)
      have hw1 : IntKind.i64.wrap ((k : Int) + 1) = (k : Int) + 1 := IntWalk.i64_in _ (by omega)
      have hw2 : IntKind.u64.wrap (dg xs (k + 1) * 4294967296) = dg xs (k + 1) * 4294967296 := IntWalk.u64_in _ (by omega)
      have hw3 : IntKind.u64.wrap (dg xs (k + 1) * 4294967296 + dg xs k) = dg xs (k + 1) * 4294967296 + dg xs k := IntWalk.u64_in _ (by omega)
      have RD := Lib.hid ((RX.out).below HW.out.drew)
      go_wp2_with fail
      refine wp_region_still_tail 16 (by kernel_rfl) (by kernel_rfl) ?_
      simp only [List.take_succ_cons, List.take_zero, List.drop_succ_cons, List.drop_zero]
      change wpStill _ _ wr.drew _ _ _
      repeat still_step
      still_call (limb_still wr.drew (some ad) c xs RD.out ((k : Int) + 1) (k + 1) rfl)
      repeat still_step
      refine wpStill_nil ?_
      go_wp2
      go_roundw
      case rel => exact ⟨k + 1, _, by omega, by go_num, half_round HI.out RX.out.2 hlt rfl, HB.set _ _, (below_set HW.out (Nat.le_refl _) _).drew⟩
      case measure => simp [intOf]; omega
    · obtain rfl : k = xs.length := by omega
      have hpl : p.length ≤ 70368744177664 := by have := HI.out.2.1; omega
      have hR := HB.reads (by omega)
      have e1 : (V p).toNat = (V xs).toNat / 2 := by
        have h1 := half_end HI.out
        have h2 := V_nonneg RX.out.2
        omega
      have HE := Lib.hid e1
      have HL := Lib.hid HI.out.2.1
      clear e1
      go_wp2_with fail
      rw [← HL.out]
      refine (rnorm_f _ _ _ p ⟨hR, HI.out.1⟩ hpl).mono ?_
      rintro e w1 ⟨g1, c1, z, hg1, rfl, HZ, hz, hB⟩
      have HB1 := Lib.hid (below_seq HW.out hB)
      clear hR hB
      go_wp2
      go_ret
      have hg2 := HW.out.size
      exact ⟨g1, _, z, Nat.le_trans hg2 hg1, rfl, by show z = _; rw [HZ.out, HE.out], hz, HB1.out⟩

theorem rhalf_ok (w : World) (A : Option Addr) (c : Nat) (xs : List Int) (hx : RN w A c xs) (hs : xs.length ≤ 70368744177664) : Calls Try.prog 105 #[.slice A xs.length c] w (RetN ((V xs).toNat / 2) w) := (rhalf_f w A c xs hx hs).mono fun _ _ h => h.n

end Go.Proofs.Ytgdlnmhpnlmofaa.M
