/- Permutations and picks of the program. -/
import Derived.Test.YtcjpobnkapfccaaDrawB
import Derived.Test.YtcjpobnkapfccaaDrawQ
import Derived.RegionTactic
namespace Go.Proofs.Ytcjpobnkapfccaa.M
open Go.RowKit
set_option linter.unusedVariables false
set_option linter.unusedSimpArgs false
theorem info_int : (Try.prog.info? 3).map (fun i => (i.zero, i.size, i.bytes)) = some (some (.int .i64 0), 1, 8) := by kernel_rfl
theorem info_parts' {t : TypeId} {z : Value} {sz by_ : Nat} (h : (Try.prog.info? t).map (fun i => (i.zero, i.size, i.bytes)) = some (some z, sz, by_)) : ∃ i, Try.prog.info? t = some i ∧ i.zero = some z ∧ i.size = sz ∧ i.bytes = by_ := by
  obtain ⟨i, hi, hp⟩ := Option.map_eq_some_iff.1 h
  simp only [Prod.mk.injEq] at hp
  exact ⟨i, hi, hp.1, hp.2.1, hp.2.2⟩
/-- A list of numbers in memory that exists, and a state. -/
def RetL (l : List Int) (s : Int) (w : World) (e : Ending) (w' : World) : Prop := ∃ A c ys, e = .returned (.tuple #[.slice A ys.length c, .int .u64 s]) ∧ Hid (ys = l) ∧ Rk w' .i64 A c ys ∧ Below w.heap.size w w'
theorem Rk.nil (w : World) (k : IntKind) : Rk w k none 0 [] := ⟨Nat.le_refl _, by omega, fun j hj => by simp at hj⟩

set_option maxHeartbeats 1600000 in
theorem dshuffle_ok (w : World) (s n : Int) (hn0 : -9223372036854775808 ≤ n) (hn1 : n ≤ 9223372036854775807) :
    Calls Try.prog 15 #[.int .u64 s, .int .i64 n] w (RetL (shuf s n) (shufS s n) w) := by
  go_enter Try.func15, Try.ntmps15
  have hsh : Hid ((n < 0 ∨ 1024 < n) → shuf s n = [] ∧ shufS s n = s) := fun h => by
    unfold shuf shufS
    rw [if_pos h, if_pos h]
    exact ⟨rfl, rfl⟩
  obtain ⟨i0, hi, hz0, hz1, hz2⟩ := info_parts' info_int
  by_cases h1 : n < 0
  · have e1 : decide (n < 0) = true := decide_eq_true h1
    have HE := Lib.hid (hsh.out (.inl h1))
    clear h1
    go_wp2_with fail
    go_ret2
    rw [HE.out.2]
    exact ⟨none, 0, [], rfl, HE.out.1.symm, Rk.nil _ _, Below.refl _ _⟩
  · have e1 : decide (n < 0) = false := decide_eq_false h1
    by_cases h2 : 1024 < n
    · have e2 : decide (1024 < n) = true := decide_eq_true h2
      have HE := Lib.hid (hsh.out (.inr h2))
      clear h1 h2
      go_wp2_with fail
      go_ret2
      rw [HE.out.2]
      exact ⟨none, 0, [], rfl, HE.out.1.symm, Rk.nil _ _, Below.refl _ _⟩
    · have e2 : decide (1024 < n) = false := decide_eq_false h2
      have HE : Hid (shuf s n = shufs (n.toNat - 1) s (iota n.toNat) ∧ shufS s n = skips s (n.toNat - 1)) := by
        show _ ∧ _
        unfold shuf shufS
        rw [if_neg (by omega), if_neg (by omega)]
        exact ⟨rfl, rfl⟩
      obtain ⟨m, rfl⟩ : ∃ m : Nat, n = (m : Int) := ⟨n.toNat, by omega⟩
      have hm : m ≤ 1024 := by omega
      have hmk := mk_make 36 3 i0 .i64 Try.underlying36 hi hz0 hz1 (m : Int) (by omega) (by rw [hz2]; omega) (by omega)
      clear h1 h2 hsh
      go_wp2_with fail
      clear hmk
      go_loopw [21] (fun iv wr => ∃ (k : Nat) (l : List Int), iv = .int .i64 (k : Int) ∧ k ≤ m ∧ Hid (l.length = m) ∧ Hid (∀ j, j < k → dg l j = (j : Int)) ∧ Bk wr w.heap.size 3 .i64 l ∧ Hid (Below w.heap.size w wr)) (fun iv _ => m - (intOf iv).toNat)
      case atStart => exact ⟨0, _, rfl, Nat.zero_le _, by simp [Hid], fun j hj => by omega, Bk.made _, (Below.refl _ _).alloc (Nat.le_refl _) _⟩
      case round =>
        obtain ⟨k, l, rfl, hk, HL, HI, HBk, HB⟩ := hrel
        by_cases hlt : k < m
        · obtain ⟨hc, hf⟩ := HBk.cell (j := k) (by rw [HL.out]; exact hlt)
          go_wp2_with fail
          go_roundw
          case rel =>
            exact ⟨k + 1, l.set k (k : Int), by go_num, hlt, by show _ = _; rw [List.length_set]; exact HL.out, fun j hj => by
              rw [dg_set]
              by_cases h : j = k
              · rw [if_pos ⟨h, by rw [HL.out]; exact hlt⟩, h]
              · rw [if_neg (fun h2 => h h2.1)]; exact HI.out j (by omega), HBk.set _ _, below_set HB.out (Nat.le_refl _) _⟩
          case measure => simp [intOf]; omega
        · obtain rfl : k = m := by omega
          have HIO : Hid (l = iota k) := eq_iota HL.out HI.out
          clear hlt
          go_wp2_with fail
          go_loopw [0, 8] (fun sv iv wr => ∃ (i t : Int) (p : List Int), iv = .int .i64 i ∧ sv = .int .u64 t ∧ -1 ≤ i ∧ i < (k : Int) ∧ Hid (p.length = k) ∧ Hid (shufs i.toNat t p = shufs (k - 1) s (iota k) ∧ skips t i.toNat = skips s (k - 1)) ∧ Bk wr w.heap.size 3 .i64 p ∧ Hid (Below w.heap.size w wr)) (fun _ iv _ => (intOf iv + 1).toNat)
          case atStart => exact ⟨(k : Int) - 1, s, l, rfl, rfl, by omega, by omega, HL, by
            show _ ∧ _
            rw [show ((k : Int) - 1).toNat = k - 1 by omega, HIO.out]
            exact ⟨rfl, rfl⟩, HBk, HB⟩
          case round =>
            clear HBk HB HI HIO HL
            obtain ⟨i, t, p, rfl, rfl, hi0, hi1, HL, HS, HBk, HB⟩ := hrel
            by_cases h0 : 1 ≤ i
            · obtain ⟨j, rfl⟩ : ∃ j : Nat, i = ((j + 1 : Nat) : Int) := ⟨(i - 1).toNat, by omega⟩
              obtain ⟨a, ha⟩ : ∃ a, a = j + 1 := ⟨_, rfl⟩
              rw [← ha] at h0 hi0 hi1 HS ⊢
              have HA := Lib.hid ha
              have hb := below_bound (s := t) (n := (a : Int) + 1) (by omega)
              obtain ⟨q, hq⟩ : ∃ q : Nat, below t ((a : Int) + 1) = (q : Int) := ⟨(below t ((a : Int) + 1)).toNat, by omega⟩
              rw [hq] at hb
              have hqa : q ≤ a := by omega
              have hak : a < k := by omega
              have HQ := Lib.hid hq
              have hbs : belowS t ((a : Int) + 1) = lcg t := by unfold belowS; rw [if_neg (by omega)]
              have HBS := Lib.hid hbs
              clear ha hq hbs
              go_wp2_with fail
              refine (dbelow_ok wr t ((a : Int) + 1) (by omega) (by omega)).mono ?_
              rw [HQ.out, HBS.out]
              rintro e w1 ⟨rfl, rfl⟩
              obtain ⟨hca, hfa⟩ := HBk.cell (j := a) (by rw [HL.out]; exact hak)
              obtain ⟨hcq, hfq⟩ := HBk.cell (j := q) (by rw [HL.out]; omega)
              have hqk : q < k := by omega
              have ej : (a : Int) - 1 = (j : Int) := by have := HA.out; omega
              have HSW : Hid (shufs (j : Int).toNat (lcg t) (swap p a q) = shufs (k - 1) s (iota k) ∧ skips (lcg t) (j : Int).toNat = skips s (k - 1)) := by
                obtain ⟨k1, k2⟩ := HS.out
                have hq' : (below t ((j + 2 : Nat) : Int)).toNat = q := by
                  rw [show ((j + 2 : Nat) : Int) = (a : Int) + 1 by have := HA.out; omega, HQ.out]
                  rfl
                rw [show (a : Int).toNat = j + 1 by have := HA.out; omega] at k1 k2
                show _ ∧ _
                rw [← k1, ← k2, skips_succ]
                refine ⟨?_, rfl⟩
                show shufs j (lcg t) (swap p a q) = shufs j (lcg t) (swap p (j + 1) (below t ((j + 2 : Nat) : Int)).toNat)
                rw [hq', HA.out]
              by_cases hqe : q = a
              · subst hqe
                go_wp2_with fail
                go_region
                go_wp2_with fail
                go_roundw
                case rel => exact ⟨(j : Int), lcg t, swap p q q, by go_num, rfl, by omega, by omega, by show _ = _; rw [swap_len]; exact HL.out, HSW.out, (HBk.set _ _).set _ _, (below_set (below_set HB.out (Nat.le_refl _) _) (Nat.le_refl _) _).drew⟩
                case measure => simp [intOf]; omega
              · go_wp2_with fail
                go_region
                go_wp2_with fail
                go_roundw
                case rel => exact ⟨(j : Int), lcg t, swap p a q, by go_num, rfl, by omega, by omega, by show _ = _; rw [swap_len]; exact HL.out, HSW.out, (HBk.set _ _).set _ _, (below_set (below_set HB.out (Nat.le_refl _) _) (Nat.le_refl _) _).drew⟩
                case measure => simp [intOf]; omega
            · have hz : i.toNat = 0 := by omega
              have hd : decide (1 ≤ i) = false := decide_eq_false h0
              obtain ⟨k1, k2⟩ := HS.out
              rw [hz] at k1 k2
              have HK1 : Hid (p = shuf s (k : Int)) := by show _ = _; rw [HE.out.1]; exact k1
              have HK2 : Hid (t = shufS s (k : Int)) := by show _ = _; rw [HE.out.2]; exact k2
              clear k1 k2 hz h0
              go_wp2_with fail
              go_ret2
              refine ⟨some ⟨w.heap.size, 0, none⟩, k, p, ?_, HK1, ?_, HB.out⟩
              · rw [HL.out, ← HK2.out]; rfl
              · have h := HBk.reads (by rw [HL.out]; omega)
                rw [HL.out] at h
                exact h

end Go.Proofs.Ytcjpobnkapfccaa.M
