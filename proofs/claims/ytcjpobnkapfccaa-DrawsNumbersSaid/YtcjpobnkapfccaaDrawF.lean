/- Permutations of the reference. -/
import Derived.Test.YtcjpobnkapfccaaDrawE
import Derived.Test.YtcjpobnkapfccaaOwn
namespace Go.Proofs.Ytcjpobnkapfccaa.M
open Go.RowKit
set_option linter.unusedVariables false
set_option linter.unusedSimpArgs false
/-- A block that begins with these numbers. -/
def Bx (w : World) (g e : Nat) (k : IntKind) (l : List Int) (rest : List Value) : Prop := w.heap[g]? = some (.cells (l.map (Value.int k) ++ rest).toArray e (0, 0))
theorem Bx.cell {w : World} {g e : Nat} {k : IntKind} {l : List Int} {rest : List Value} (h : Bx w g e k l rest) {j : Nat} (hj : j < l.length) : w.cell? ⟨g, j, none⟩ = some (.int k (dg l j)) ∧ w.frozen? ⟨g, j, none⟩ = false := by
  unfold Bx at h
  constructor
  · simp only [World.cell?, h]
    simp [dg_get hj]
    rw [List.getElem?_append_left (by simpa using hj)]
    simp [hj]
  · simp [World.frozen?, h]
theorem Bx.set {w : World} {g e : Nat} {k : IntKind} {l : List Int} {rest : List Value} (h : Bx w g e k l rest) {j : Nat} (hj : j < l.length) (x : Int) : Bx (w.setCell ⟨g, j, none⟩ (.int k x)) g e k (l.set j x) rest := by
  unfold Bx at h ⊢
  simp only [World.setCell, Array.getElem?_modify, if_true, h, Option.map_some]
  simp [hj]
theorem Bx.reads {w : World} {g e : Nat} {k : IntKind} {l : List Int} {rest : List Value} {c : Nat} (h : Bx w g e k l rest) (hc : l.length ≤ c) (hm : c ≤ 9223372036854775807) : Rk w k (some ⟨g, 0, none⟩) c l :=
  ⟨hc, hm, fun j hj => ⟨_, rfl, by rw [add_at]; exact (h.cell hj).1⟩⟩
theorem own_bx {w : World} {base e : Nat} {k : IntKind} {l : List Int} {A : Option Addr} {n c : Nat} (h : OwnI w base e k (.slice A n c) l) (h0 : 0 < l.length) : ∃ g rest, A = some ⟨g, 0, none⟩ ∧ base ≤ g ∧ Bx w g e k l rest := by
  rcases h.2 with ⟨h1, h2⟩ | ⟨g, cap, cur, h1, hb, hh, hnc, hcm, hcs, htk⟩
  · omega
  · injection h1 with h1 h2 h3
    refine ⟨g, cur.toList.drop l.length, h1, hb, ?_⟩
    unfold Bx
    rw [hh, Nat.mul_one] at *
    rw [← htk, List.take_append_drop]

set_option maxHeartbeats 1600000 in
theorem rdshuffle_ok (w : World) (s n : Int) (hn0 : -9223372036854775808 ≤ n) (hn1 : n ≤ 9223372036854775807) :
    Calls Try.prog 16 #[.int .u64 s, .int .i64 n] w (RetL (shuf s n) (shufS s n) w) := by
  go_enter Try.func16, Try.ntmps16
  have hsh : Hid ((n < 0 ∨ 1024 < n) → shuf s n = [] ∧ shufS s n = s) := fun h => by
    unfold shuf shufS
    rw [if_pos h, if_pos h]
    exact ⟨rfl, rfl⟩
  obtain ⟨i0, hi, hz0, hz1, hz2⟩ := info_parts' info_int
  by_cases h1 : n < 0
  · have e1 : decide (n < 0) = true := decide_eq_true h1
    have HE := Lib.hid (hsh.out (.inl h1))
    clear h1
    go_wp2_with fail
    go_ret2
    rw [HE.out.2]
    exact ⟨none, 0, [], rfl, HE.out.1.symm, Rk.nil _ _, Below.refl _ _⟩
  · have e1 : decide (n < 0) = false := decide_eq_false h1
    by_cases h2 : 1024 < n
    · have e2 : decide (1024 < n) = true := decide_eq_true h2
      have HE := Lib.hid (hsh.out (.inr h2))
      clear h1 h2
      go_wp2_with fail
      go_ret2
      rw [HE.out.2]
      exact ⟨none, 0, [], rfl, HE.out.1.symm, Rk.nil _ _, Below.refl _ _⟩
    · have e2 : decide (1024 < n) = false := decide_eq_false h2
      have HE : Hid (shuf s n = shufs (n.toNat - 1) s (iota n.toNat) ∧ shufS s n = skips s (n.toNat - 1)) := by
        show _ ∧ _
        unfold shuf shufS
        rw [if_neg (by omega), if_neg (by omega)]
        exact ⟨rfl, rfl⟩
      obtain ⟨m, rfl⟩ : ∃ m : Nat, n = (m : Int) := ⟨n.toNat, by omega⟩
      have hm : m ≤ 1024 := by omega
      clear h1 h2 hsh
      go_wp2_with fail
      go_loopw [6, 7] (fun lv iv wr => ∃ (k : Nat) (l : List Int), iv = .int .i64 (k : Int) ∧ k ≤ m ∧ Hid (l.length = k) ∧ Hid (∀ j, j < k → dg l j = (j : Int)) ∧ OwnI wr w.heap.size 3 .i64 lv l ∧ Hid (Below w.heap.size w wr)) (fun _ iv _ => m - (intOf iv).toNat)
      case atStart => exact ⟨0, [], rfl, Nat.zero_le _, rfl, fun j hj => by omega, World.ownsRow_nil _ _ _ 1, Below.refl _ _⟩
      case round =>
        obtain ⟨k, l, rfl, hk, HL, HI, HO, HB⟩ := hrel
        by_cases hlt : k < m
        · obtain ⟨A6, c6, rfl, hr6⟩ := own_rk HO
          have HBw := HB.out
          clear hr6
          have hl1024 : l.length ≤ 1024 := by have := HL.out; omega
          go_wp2_with (at_builtin; refine wpList_append2 rfl _ _ 36 rfl Try.underlying36 hi hz0 hz1 hz2 rfl rfl HO HBw HBw.size ?_ ?_; (omega))
          intro v1 w6 HO6 HB6 HG6 HM6
          clear HO HBw HG6 HM6
          go_wp2_with fail
          go_roundw
          case rel =>
            exact ⟨k + 1, l ++ [(k : Int)], by go_num, hlt, by show _ = _; rw [List.length_append, HL.out]; rfl, fun j hj => by
              rw [dg_snoc, HL.out]
              by_cases h : j = k
              · rw [if_pos h, h]
              · rw [if_neg h]; exact HI.out j (by omega), HO6, HB6⟩
          case measure => simp [intOf]; omega
        · obtain rfl : k = m := by omega
          have HIO : Hid (l = iota k) := eq_iota HL.out HI.out
          obtain ⟨A6, c6, rfl, hr6⟩ := own_rk HO
          have hcc := hr6.1
          have hcm := hr6.2.1
          rw [HL.out] at hcc
          have HG : ∃ g, w.heap.size ≤ g ∧ Hid (0 < k → A6 = some ⟨g, 0, none⟩ ∧ ∃ rest, Bx wr g 3 .i64 l rest) := by
            by_cases h : 0 < k
            · obtain ⟨g, rest, h1, h2, h3⟩ := own_bx HO (by rw [HL.out]; exact h)
              exact ⟨g, h2, fun _ => ⟨h1, rest, h3⟩⟩
            · exact ⟨w.heap.size, Nat.le_refl _, fun h2 => absurd h2 h⟩
          obtain ⟨g, hg, HG⟩ := HG
          have hA6 : Hid (0 < k → A6 = some ⟨g, 0, none⟩) := fun h => (HG.out h).1
          have hBx : Hid (0 < k → ∃ rest, Bx wr g 3 .i64 l rest) := fun h => (HG.out h).2
          rw [HL.out]
          clear hlt hr6 HO HG
          go_wp2_with fail
          go_loopw [0, 8] (fun sv iv wr => ∃ (i t : Int) (p : List Int), iv = .int .i64 i ∧ sv = .int .u64 t ∧ -1 ≤ i ∧ i < (k : Int) ∧ Hid (p.length = k) ∧ Hid (shufs i.toNat t p = shufs (k - 1) s (iota k) ∧ skips t i.toNat = skips s (k - 1)) ∧ Hid (0 < k → ∃ rest, Bx wr g 3 .i64 p rest) ∧ Hid (Below w.heap.size w wr)) (fun _ iv _ => (intOf iv + 1).toNat)
          case atStart => exact ⟨(k : Int) - 1, s, l, rfl, rfl, by omega, by omega, HL, by
            show _ ∧ _
            rw [show ((k : Int) - 1).toNat = k - 1 by omega, HIO.out]
            exact ⟨rfl, rfl⟩, hBx, HB⟩
          case round =>
            clear hBx HB HI HIO HL
            obtain ⟨i, t, p, rfl, rfl, hi0, hi1, HL, HS, HBx, HB⟩ := hrel
            by_cases h0 : 1 ≤ i
            · obtain ⟨j, rfl⟩ : ∃ j : Nat, i = ((j + 1 : Nat) : Int) := ⟨(i - 1).toNat, by omega⟩
              obtain ⟨a, ha⟩ : ∃ a, a = j + 1 := ⟨_, rfl⟩
              rw [← ha] at h0 hi0 hi1 HS ⊢
              have HA := Lib.hid ha
              have hb := below_bound (s := t) (n := (a : Int) + 1) (by omega)
              obtain ⟨q, hq⟩ : ∃ q : Nat, below t ((a : Int) + 1) = (q : Int) := ⟨(below t ((a : Int) + 1)).toNat, by omega⟩
              rw [hq] at hb
              have hqa : q ≤ a := by omega
              have hak : a < k := by omega
              have HQ := Lib.hid hq
              have hbs : belowS t ((a : Int) + 1) = lcg t := by unfold belowS; rw [if_neg (by omega)]
              have HBS := Lib.hid hbs
              obtain rfl := hA6.out (by omega)
              obtain ⟨rest, hbx⟩ := HBx.out (by omega)
              clear ha hq hbs
              go_wp2_with fail
              refine (rdbelow_ok wr t ((a : Int) + 1) (by omega) (by omega)).mono ?_
              rw [HQ.out, HBS.out]
              rintro e w1 ⟨rfl, rfl⟩
              obtain ⟨hca, hfa⟩ := hbx.cell (j := a) (by rw [HL.out]; exact hak)
              obtain ⟨hcq, hfq⟩ := hbx.cell (j := q) (by rw [HL.out]; omega)
              have hqk : q < k := by omega
              have ej : (a : Int) - 1 = (j : Int) := by have := HA.out; omega
              have HSW : Hid (shufs (j : Int).toNat (lcg t) (swap p a q) = shufs (k - 1) s (iota k) ∧ skips (lcg t) (j : Int).toNat = skips s (k - 1)) := by
                obtain ⟨k1, k2⟩ := HS.out
                have hq' : (below t ((j + 2 : Nat) : Int)).toNat = q := by
                  rw [show ((j + 2 : Nat) : Int) = (a : Int) + 1 by have := HA.out; omega, HQ.out]
                  rfl
                rw [show (a : Int).toNat = j + 1 by have := HA.out; omega] at k1 k2
                show _ ∧ _
                rw [← k1, ← k2, skips_succ]
                refine ⟨?_, rfl⟩
                show shufs j (lcg t) (swap p a q) = shufs j (lcg t) (swap p (j + 1) (below t ((j + 2 : Nat) : Int)).toNat)
                rw [hq', HA.out]
              have HBX := Lib.hid hbx
              clear hbx
              have HPL : Hid (a < p.length ∧ q < p.length) := by show _ ∧ _; rw [HL.out]; exact ⟨hak, hqk⟩
              by_cases hqe : q = a
              · subst hqe
                go_wp2_with fail
                go_roundw
                case rel => exact ⟨(j : Int), lcg t, swap p q q, by go_num, rfl, by omega, by omega, by show _ = _; rw [swap_len]; exact HL.out, HSW.out, fun _ => ⟨rest, (HBX.out.set HPL.out.1 _).set (by rw [List.length_set]; exact HPL.out.2) _⟩, below_set (below_set HB.out hg _) hg _⟩
                case measure => simp [intOf]; omega
              · go_wp2_with fail
                go_roundw
                case rel => exact ⟨(j : Int), lcg t, swap p a q, by go_num, rfl, by omega, by omega, by show _ = _; rw [swap_len]; exact HL.out, HSW.out, fun _ => ⟨rest, (HBX.out.set HPL.out.1 _).set (by rw [List.length_set]; exact HPL.out.2) _⟩, below_set (below_set HB.out hg _) hg _⟩
                case measure => simp [intOf]; omega
            · have hz : i.toNat = 0 := by omega
              have hd : decide (1 ≤ i) = false := decide_eq_false h0
              obtain ⟨k1, k2⟩ := HS.out
              rw [hz] at k1 k2
              have HK1 : Hid (p = shuf s (k : Int)) := by show _ = _; rw [HE.out.1]; exact k1
              have HK2 : Hid (t = shufS s (k : Int)) := by show _ = _; rw [HE.out.2]; exact k2
              clear k1 k2 hz h0
              go_wp2_with fail
              go_ret2
              refine ⟨A6, c6, p, ?_, HK1, ?_, HB.out⟩
              · rw [HL.out, ← HK2.out]; rfl
              · by_cases hk0 : 0 < k
                · obtain ⟨rest, hbx⟩ := HBx.out hk0
                  rw [hA6.out hk0]
                  exact hbx.reads (by rw [HL.out]; exact hcc) hcm
                · exact ⟨by rw [HL.out]; exact hcc, hcm, fun j hj => by rw [HL.out] at hj; omega⟩

end Go.Proofs.Ytcjpobnkapfccaa.M
