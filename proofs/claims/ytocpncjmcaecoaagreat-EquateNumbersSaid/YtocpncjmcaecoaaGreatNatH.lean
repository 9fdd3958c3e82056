/- How many bits a number of the program has: 0 exactly for 0. -/
import Derived.Test.YtocpncjmcaecoaaGreatNatG
import Derived.Lib.BitFns
import Derived.Lib.ItoaNum
import Derived.Lib.Strings
import Derived.Lib.Walk
import Derived.Lib.Slices
import Derived.Lib.Small
namespace Go.Proofs.YtocpncjmcaecoaaGreat.M
set_option maxRecDepth 10000
open Go.RowKit
set_option linter.unusedVariables false

theorem len8_le (q : Int) (h0 : 0 ≤ q) (h1 : q ≤ 255) : 0 ≤ Lib.len8 q ∧ Lib.len8 q ≤ 8 := by
  rw [Lib.len8_of q h0 h1]
  have := Lib.bitLen_le8' q h0 h1
  omega
theorem blen_cut {x : Nat} {q : Int} (k : Nat) (hk : k = 0 ∨ 2 ^ k ≤ x ∧ x < 18446744073709551616) (h0 : 0 ≤ q) (h1 : q ≤ 255) (he : q.toNat = x / 2 ^ k) : (Lib.bitLen x : Int) = k + Lib.len8 q := by
  rw [Lib.len8_of q h0 h1, he]
  rcases hk with rfl | ⟨h2, h3⟩
  · simp
  · rw [Lib.bitLen_shift k x h2 (by omega)]
    omega
set_option maxHeartbeats 4000000 in
set_option maxRecDepth 100000 in
theorem len32_a (w : World) (x : Int) (h0 : 0 ≤ x) (h1 : x ≤ 255) : Calls Tryz.prog 111 #[.int .u32 x] w fun e w' => e = .returned (.int .i64 (Lib.bitLen x.toNat)) ∧ w = w' := by
  have hix : ∀ W : World, (Instr.index 9 (.string Lib.len8tab) (.int .u8 (x))).run Tryz.prog W = .ok (.int .u8 (Lib.len8 (x))) W := fun W => Lib.run_index_len8tab W 9 .u8 (x) Tryz.underlying9 (by omega) (by omega)
  have hb := len8_le (x) (by omega) (by omega)
  have HV := Lib.hid (blen_cut (x := x.toNat) (q := x) 0 (by omega) (by omega) (by omega) (by omega))
  go_enter Tryz.func111, Tryz.ntmps111
  go_wp2
  go_ret
  exact ⟨by have h := HV.out; rw [Int.natCast_zero, Int.zero_add] at h; rw [h]; rfl, rfl⟩
set_option maxHeartbeats 4000000 in
set_option maxRecDepth 100000 in
theorem len32_b (w : World) (x : Int) (h0 : 256 ≤ x) (h1 : x ≤ 65535) : Calls Tryz.prog 111 #[.int .u32 x] w fun e w' => e = .returned (.int .i64 (Lib.bitLen x.toNat)) ∧ w = w' := by
  have hix : ∀ W : World, (Instr.index 9 (.string Lib.len8tab) (.int .u8 (x / 256))).run Tryz.prog W = .ok (.int .u8 (Lib.len8 (x / 256))) W := fun W => Lib.run_index_len8tab W 9 .u8 (x / 256) Tryz.underlying9 (by omega) (by omega)
  have hb := len8_le (x / 256) (by omega) (by omega)
  have HV := Lib.hid (blen_cut (x := x.toNat) (q := x / 256) 8 (by omega) (by omega) (by omega) (by omega))
  go_enter Tryz.func111, Tryz.ntmps111
  go_wp2
  go_ret
  exact ⟨by rw [HV.out]; rfl, rfl⟩
set_option maxHeartbeats 4000000 in
set_option maxRecDepth 100000 in
theorem len32_c (w : World) (x : Int) (h0 : 65536 ≤ x) (h1 : x ≤ 16777215) : Calls Tryz.prog 111 #[.int .u32 x] w fun e w' => e = .returned (.int .i64 (Lib.bitLen x.toNat)) ∧ w = w' := by
  have hix : ∀ W : World, (Instr.index 9 (.string Lib.len8tab) (.int .u8 (x / 65536))).run Tryz.prog W = .ok (.int .u8 (Lib.len8 (x / 65536))) W := fun W => Lib.run_index_len8tab W 9 .u8 (x / 65536) Tryz.underlying9 (by omega) (by omega)
  have hb := len8_le (x / 65536) (by omega) (by omega)
  have HV := Lib.hid (blen_cut (x := x.toNat) (q := x / 65536) 16 (by omega) (by omega) (by omega) (by omega))
  go_enter Tryz.func111, Tryz.ntmps111
  go_wp2
  go_ret
  exact ⟨by rw [HV.out]; rfl, rfl⟩
set_option maxHeartbeats 4000000 in
set_option maxRecDepth 100000 in
theorem len32_d (w : World) (x : Int) (h0 : 16777216 ≤ x) (h1 : x ≤ 4294967295) : Calls Tryz.prog 111 #[.int .u32 x] w fun e w' => e = .returned (.int .i64 (Lib.bitLen x.toNat)) ∧ w = w' := by
  have hix : ∀ W : World, (Instr.index 9 (.string Lib.len8tab) (.int .u8 (x / 65536 / 256))).run Tryz.prog W = .ok (.int .u8 (Lib.len8 (x / 65536 / 256))) W := fun W => Lib.run_index_len8tab W 9 .u8 (x / 65536 / 256) Tryz.underlying9 (by omega) (by omega)
  have hb := len8_le (x / 65536 / 256) (by omega) (by omega)
  have HV := Lib.hid (blen_cut (x := x.toNat) (q := x / 65536 / 256) 24 (by omega) (by omega) (by omega) (by omega))
  go_enter Tryz.func111, Tryz.ntmps111
  go_wp2
  go_ret
  exact ⟨by rw [HV.out]; rfl, rfl⟩

theorem len32_ok (w : World) (x : Int) (h0 : 0 ≤ x) (h1 : x ≤ 4294967295) : Calls Tryz.prog 111 #[.int .u32 x] w fun e w' => e = .returned (.int .i64 (Lib.bitLen x.toNat)) ∧ w = w' := by
  rcases (show x ≤ 255 ∨ (256 ≤ x ∧ x ≤ 65535) ∨ (65536 ≤ x ∧ x ≤ 16777215) ∨ 16777216 ≤ x by omega) with h | ⟨h, h'⟩ | ⟨h, h'⟩ | h
  · exact len32_a w x h0 h
  · exact len32_b w x h h'
  · exact len32_c w x h h'
  · exact len32_d w x h h1

set_option maxHeartbeats 400000 in
theorem lz32_ok (w : World) (x : Int) (h0 : 0 ≤ x) (h1 : x ≤ 4294967295) : Calls Tryz.prog 114 #[.int .u32 x] w fun e w' => e = .returned (.int .i64 (32 - (Lib.bitLen x.toNat : Int))) ∧ w = w' := by
  have hl := Lib.bitLen_le x.toNat 32 (by omega) (by omega)
  go_enter Tryz.func114, Tryz.ntmps114
  go_wp2_with fail
  refine (len32_ok _ x h0 h1).mono ?_
  rintro e w1 ⟨rfl, rfl⟩
  go_wp2_with fail
  go_ret
  exact ⟨rfl, rfl⟩

theorem blen_pos {x : Nat} (h : 0 < x) (hx : x < 18446744073709551616) : 0 < Lib.bitLen x := by
  unfold Lib.bitLen
  have := Lib.bitLenAux_bounds 64 x (by omega) (by omega)
  omega

/-- Whether a number is 0. -/
def RetZ (N : Int) (w : World) (e : Ending) (w' : World) : Prop := ∃ v : Int, e = .returned (.int .i64 v) ∧ Hid (v = 0 ↔ N = 0) ∧ 0 ≤ v ∧ w = w'

set_option maxHeartbeats 800000 in
theorem bits_ok (w : World) (A : Option Addr) (c : Nat) (xs : List Int) (hx : RN w A c xs) (hs : xs.length ≤ 70368744177664) : Calls Tryz.prog 80 #[.slice A xs.length c] w (RetZ (V xs) w) := by
  have HVx := Lib.hid (V_nrm hx.2)
  have hlx := nrm_len hx.2
  go_enter Tryz.func80, Tryz.ntmps80
  go_wp2_with fail
  refine (trim_ok _ A c xs hx).mono ?_
  rintro e w1 ⟨rfl, x, rfl, HX, hx'⟩
  rw [← HX.out] at hlx
  have NX : Nf x := by rw [HX.out]; exact nrm_nf _
  have EX : V x = V xs := by rw [HX.out]; exact HVx.out
  have HEX := Lib.hid EX
  have HNX := Lib.hid NX
  have RX := Lib.hid hx'
  clear EX NX hx hx' HVx HX
  by_cases h0 : x.length = 0
  · have hb : ((x.length : Int) == 0) = true := beq_iff_eq.2 (by omega)
    have H0 := Lib.hid h0
    clear h0
    go_wp2_with fail
    go_ret
    exact ⟨0, rfl, ⟨fun _ => by rw [← HEX.out, List.length_eq_zero_iff.1 H0.out]; rfl, fun _ => rfl⟩, Int.le_refl _, rfl⟩
  · have hb : ((x.length : Int) == 0) = false := beq_eq_false_iff_ne.2 (by omega)
    obtain ⟨n, hn⟩ : ∃ n, x.length = n + 1 := ⟨x.length - 1, by omega⟩
    obtain ⟨ad, rfl, hc⟩ := (RX.out).1.2.2 n (by omega)
    have bx := (RX.out).2 n
    have hp : 0 < dg x n := by
      have h1 := HNX.out.2 (by omega)
      rw [hn, Nat.add_sub_cancel] at h1
      omega
    have hl := Lib.bitLen_le (dg x n).toNat 32 (by omega) (by omega)
    have hl0 := blen_pos (x := (dg x n).toNat) (by omega) (by omega)
    have HP := Lib.hid (HNX.out.V_pos (by omega))
    have en : (x.length : Int) - 1 = (n : Int) := by omega
    have hle : n + 1 ≤ x.length := by omega
    have hle2 : x.length ≤ n + 1 := by omega
    clear hn h0
    go_wp2_with fail
    refine (len32_ok _ (dg x n) bx.1 bx.2).mono ?_
    rintro e w1 ⟨rfl, rfl⟩
    go_wp2_with fail
    go_ret
    refine ⟨_, rfl, ⟨fun h => ?_, fun h => ?_⟩, ?_, rfl⟩
    · exfalso; omega
    · have := HP.out
      have := HEX.out
      omega
    · omega

end Go.Proofs.YtocpncjmcaecoaaGreat.M
