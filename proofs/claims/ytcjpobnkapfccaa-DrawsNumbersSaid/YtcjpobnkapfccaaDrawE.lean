/- Picks by weights: the program's and the reference's. -/
import Derived.Test.YtcjpobnkapfccaaDrawD
namespace Go.Proofs.Ytcjpobnkapfccaa.M
open Go.RowKit
set_option linter.unusedVariables false
set_option linter.unusedSimpArgs false
theorem badW_at {ws : List Int} {k : Nat} (hk : k < ws.length) (h : dg ws k < 0 ∨ 1000000 < dg ws k) : badW ws := ⟨_, List.getElem_mem hk, by rw [← dg_get hk]; exact h⟩
theorem not_badW {ws : List Int} (h : ∀ j, j < ws.length → 0 ≤ dg ws j ∧ dg ws j ≤ 1000000) : ¬badW ws := by
  rintro ⟨w, hw, hb⟩
  obtain ⟨j, hj, rfl⟩ := List.mem_iff_getElem.1 hw
  have := h j hj
  rw [dg_get hj] at this
  omega
theorem pick_none {s : Int} {ws : List Int} (h : 1024 < ws.length ∨ badW ws ∨ ws.sum = 0) : pickI s ws = -1 ∧ pickS s ws = s := by
  unfold pickI pickS
  rw [if_pos h, if_pos h]
  exact ⟨rfl, rfl⟩
theorem pick_some {s : Int} {ws : List Int} (h : ¬(1024 < ws.length ∨ badW ws ∨ ws.sum = 0)) : pickI s ws = pickAt (below s ws.sum) ws 0 ∧ pickS s ws = lcg s := by
  unfold pickI pickS
  rw [if_neg h, if_neg h]
  exact ⟨rfl, rfl⟩

set_option maxHeartbeats 1600000 in
theorem dpick_ok (w : World) (s : Int) (A : Option Addr) (c : Nat) (ws : List Int) (hw : Rk w .i64 A c ws) :
    Calls Try.prog 18 #[.int .u64 s, .slice A ws.length c] w (fun e w' => e = .returned (.tuple #[.int .i64 (pickI s ws), .int .u64 (pickS s ws)]) ∧ w' = w) := by
  have HX := Lib.hid hw
  have hcl := hw.1
  have hcm := hw.2.1
  clear hw
  go_enter Try.func18, Try.ntmps18
  by_cases hlen : 1024 < ws.length
  · have e1 : decide (1024 < ws.length) = true := decide_eq_true hlen
    have e1' : decide ((1024 : Int) < (ws.length : Int)) = true := decide_eq_true (by omega)
    have HE := Lib.hid (pick_none (s := s) (ws := ws) (.inl hlen))
    clear hlen
    go_wp2_with fail
    go_ret2
    rw [HE.out.1, HE.out.2]
    exact ⟨rfl, rfl⟩
  have e1 : decide (1024 < ws.length) = false := decide_eq_false hlen
  have e1' : decide ((1024 : Int) < (ws.length : Int)) = false := decide_eq_false (by omega)
  have hln : ws.length ≤ 1024 := by omega
  clear hlen
  go_wp2_with fail
  go_loopw [6, 19] (fun sv iv wr => ∃ (k : Nat) (sm : Int), iv = .int .i64 (k : Int) ∧ sv = .int .i64 sm ∧ k ≤ ws.length ∧ 0 ≤ sm ∧ sm ≤ 1000000 * (k : Int) ∧ Hid (sm = (ws.take k).sum) ∧ Hid (∀ j, j < k → 0 ≤ dg ws j ∧ dg ws j ≤ 1000000) ∧ wr = w) (fun _ iv _ => ws.length - (intOf iv).toNat)
  case atStart => exact ⟨0, 0, rfl, rfl, Nat.zero_le _, by omega, by omega, rfl, fun j hj => by omega, rfl⟩
  case round =>
    obtain ⟨k, sm, rfl, rfl, hk, hs0, hs1, HS, HJ, rfl⟩ := hrel
    by_cases hlt : k < ws.length
    · obtain ⟨ad, rfl, hc⟩ := HX.out.2.2 k hlt
      obtain ⟨x, hx⟩ : ∃ x, dg ws k = x := ⟨_, rfl⟩
      rw [hx] at hc
      have HXK := Lib.hid hx
      clear hx
      by_cases h1 : x < 0
      · have d1 : decide (x < 0) = true := decide_eq_true h1
        have HE := Lib.hid (pick_none (s := s) (ws := ws) (.inr (.inl (badW_at hlt (.inl (by rw [HXK.out]; exact h1))))))
        clear h1
        go_wp2_with fail
        go_ret2
        rw [HE.out.1, HE.out.2]
        exact ⟨rfl, rfl⟩
      have d1 : decide (x < 0) = false := decide_eq_false h1
      by_cases h2 : 1000000 < x
      · have d2 : decide (1000000 < x) = true := decide_eq_true h2
        have HE := Lib.hid (pick_none (s := s) (ws := ws) (.inr (.inl (badW_at hlt (.inr (by rw [HXK.out]; exact h2))))))
        clear h1 h2
        go_wp2_with fail
        go_ret2
        rw [HE.out.1, HE.out.2]
        exact ⟨rfl, rfl⟩
      have d2 : decide (1000000 < x) = false := decide_eq_false h2
      have hx0 : 0 ≤ x := by omega
      have hx1 : x ≤ 1000000 := by omega
      have HSM : Hid (sm + x = (ws.take (k + 1)).sum) := by show _ = _; rw [take_sum hlt, ← HS.out, HXK.out]
      clear h1 h2
      go_wp2_with fail
      go_roundw
      case rel => exact ⟨k + 1, sm + x, by go_num, rfl, hlt, by omega, by omega, HSM, fun j hj => by
        by_cases h : j = k
        · rw [h, HXK.out]; exact ⟨hx0, hx1⟩
        · exact HJ.out j (by omega), by first | trivial | rfl⟩
      case measure => simp [intOf]; omega
    · obtain rfl : k = ws.length := by omega
      have HSU : Hid (sm = ws.sum) := by
        have h := HS.out
        rw [List.take_length] at h
        exact h
      have HNB := Lib.hid (not_badW HJ.out)
      clear hlt
      by_cases hz : sm = 0
      · have d3 : (sm == 0) = true := beq_iff_eq.2 hz
        have HE := Lib.hid (pick_none (s := s) (ws := ws) (.inr (.inr (by rw [← HSU.out]; exact hz))))
        subst hz
        go_wp2_with fail
        go_ret2
        rw [HE.out.1, HE.out.2]
        exact ⟨rfl, rfl⟩
      have d3 : (sm == 0) = false := beq_eq_false_iff_ne.2 hz
      have hs2 : 1 ≤ sm := by omega
      have HE := Lib.hid (pick_some (s := s) (ws := ws) (by rw [← HSU.out]; intro h; exact h.elim (fun h => absurd h (by omega)) (fun h => h.elim HNB.out hz)))
      have hb := below_bound (s := s) (n := sm) hs2
      obtain ⟨x0, hx0⟩ : ∃ x0, below s sm = x0 := ⟨_, rfl⟩
      rw [hx0] at hb
      obtain ⟨hb0, hb1⟩ := hb
      have HX0 := Lib.hid hx0
      have HBS : Hid (belowS s sm = lcg s) := by show _ = _; unfold belowS; rw [if_neg (by omega)]
      have HPF := Lib.hid (pickAt_found (ws := ws) (fun j hj => (HJ.out j hj).1) x0 0 hb0 (by rw [← HSU.out]; exact hb1) (by omega))
      clear hz hx0
      go_wp2_with fail
      refine (dbelow_ok wr s sm (by omega) (by omega)).mono ?_
      rw [HX0.out, HBS.out]
      rintro e w1 ⟨rfl, rfl⟩
      go_wp2_with fail
      go_loopw [9, 45] (fun xv iv wr => ∃ (k : Nat) (x : Int), iv = .int .i64 (k : Int) ∧ xv = .int .i64 x ∧ k ≤ ws.length ∧ 0 ≤ x ∧ x ≤ x0 ∧ Hid (pickAt x (ws.drop k) (k : Int) = pickAt x0 ws 0) ∧ wr = w1) (fun _ iv _ => ws.length - (intOf iv).toNat)
      case atStart => exact ⟨0, x0, rfl, rfl, Nat.zero_le _, by omega, by omega, rfl, rfl⟩
      case round =>
        have HXB := HX0
        clear HS HBS HX0
        obtain ⟨k, x, rfl, rfl, hk, hx0, hx1, HP, rfl⟩ := hrel
        by_cases hlt : k < ws.length
        · obtain ⟨ad, rfl, hc⟩ := HX.out.2.2 k hlt
          obtain ⟨y, hy⟩ : ∃ y, dg ws k = y := ⟨_, rfl⟩
          have hyb := HJ.out k hlt
          rw [hy] at hyb hc
          obtain ⟨hy0, hy1⟩ := hyb
          have HD : Hid (pickAt (x) (ws.drop k) (k : Int) = if x - y < 0 then (k : Int) else pickAt (x - y) (ws.drop (k + 1)) ((k : Int) + 1)) := by
            show _ = _
            rw [drop_dg hlt, hy]
            rfl
          clear hy
          by_cases hneg : x - y < 0
          · have dn : decide (x - y < 0) = true := decide_eq_true (by omega)
            have HK : Hid (pickAt x0 ws 0 = (k : Int)) := by
              show _ = _
              rw [← HP.out, HD.out, if_pos hneg]
            clear hneg
            go_wp2_with fail
            go_ret2
            rw [HE.out.1, HE.out.2, ← HSU.out, HXB.out, HK.out]
            exact ⟨rfl, rfl⟩
          · have dn : decide (x - y < 0) = false := decide_eq_false (by omega)
            have HK : Hid (pickAt (x - y) (ws.drop (k + 1)) ((k + 1 : Nat) : Int) = pickAt x0 ws 0) := by
              show _ = _
              rw [← HP.out, HD.out, if_neg hneg]
              rfl
            have hxn : 0 ≤ x - y := by omega
            clear hneg
            go_wp2_with fail
            go_roundw
            case rel => exact ⟨k + 1, x - y, by go_num, rfl, hlt, by omega, by omega, HK, by first | trivial | rfl⟩
            case measure => simp [intOf]; omega
        · exfalso
          obtain rfl : k = ws.length := by omega
          have h := HP.out
          rw [List.drop_length] at h
          have h2 := HPF.out.1
          rw [← h] at h2
          have h3 : pickAt (x) [] (ws.length : Int) = -1 := rfl
          omega

set_option maxHeartbeats 1600000 in
theorem rdpick_ok (w : World) (s : Int) (A : Option Addr) (c : Nat) (ws : List Int) (hw : Rk w .i64 A c ws) :
    Calls Try.prog 19 #[.int .u64 s, .slice A ws.length c] w (fun e w' => e = .returned (.tuple #[.int .i64 (pickI s ws), .int .u64 (pickS s ws)]) ∧ w' = w) := by
  have HX := Lib.hid hw
  have hcl := hw.1
  have hcm := hw.2.1
  clear hw
  go_enter Try.func19, Try.ntmps19
  by_cases hl0 : ws.length = 0
  · have e0 : decide (ws.length < 1) = true := decide_eq_true (by omega)
    have e0' : decide ((ws.length : Int) < 1) = true := decide_eq_true (by omega)
    have HE := Lib.hid (pick_none (s := s) (ws := ws) (.inr (.inr (by rw [List.length_eq_zero_iff.1 hl0]; rfl))))
    clear hl0
    go_wp2_with fail
    go_ret2
    rw [HE.out.1, HE.out.2]
    exact ⟨rfl, rfl⟩
  have e0 : decide (ws.length < 1) = false := decide_eq_false (by omega)
  have e0' : decide ((ws.length : Int) < 1) = false := decide_eq_false (by omega)
  clear hl0
  by_cases hlen : 1024 < ws.length
  · have e1 : decide (1024 < ws.length) = true := decide_eq_true hlen
    have e1' : decide ((1024 : Int) < (ws.length : Int)) = true := decide_eq_true (by omega)
    have HE := Lib.hid (pick_none (s := s) (ws := ws) (.inl hlen))
    clear hlen
    go_wp2_with fail
    go_ret2
    rw [HE.out.1, HE.out.2]
    exact ⟨rfl, rfl⟩
  have e1 : decide (1024 < ws.length) = false := decide_eq_false hlen
  have e1' : decide ((1024 : Int) < (ws.length : Int)) = false := decide_eq_false (by omega)
  have hln : ws.length ≤ 1024 := by omega
  clear hlen
  go_wp2_with fail
  go_loopw [6, 25] (fun sv iv wr => ∃ (k : Nat) (sm : Int), iv = .int .i64 (k : Int) ∧ sv = .int .i64 sm ∧ k ≤ ws.length ∧ 0 ≤ sm ∧ sm ≤ 1000000 * (k : Int) ∧ Hid (sm = (ws.take k).sum) ∧ Hid (∀ j, j < k → 0 ≤ dg ws j ∧ dg ws j ≤ 1000000) ∧ wr = w) (fun _ iv _ => ws.length - (intOf iv).toNat)
  case atStart => exact ⟨0, 0, rfl, rfl, Nat.zero_le _, by omega, by omega, rfl, fun j hj => by omega, rfl⟩
  case round =>
    obtain ⟨k, sm, rfl, rfl, hk, hs0, hs1, HS, HJ, rfl⟩ := hrel
    by_cases hlt : k < ws.length
    · obtain ⟨ad, rfl, hc⟩ := HX.out.2.2 k hlt
      obtain ⟨x, hx⟩ : ∃ x, dg ws k = x := ⟨_, rfl⟩
      rw [hx] at hc
      have HXK := Lib.hid hx
      clear hx
      by_cases h1 : x < 0
      · have d1 : decide (x < 0) = true := decide_eq_true h1
        have HE := Lib.hid (pick_none (s := s) (ws := ws) (.inr (.inl (badW_at hlt (.inl (by rw [HXK.out]; exact h1))))))
        clear h1
        go_wp2_with fail
        go_ret2
        rw [HE.out.1, HE.out.2]
        exact ⟨rfl, rfl⟩
      have d1 : decide (x < 0) = false := decide_eq_false h1
      by_cases h2 : 1000000 < x
      · have d2 : decide (1000000 < x) = true := decide_eq_true h2
        have HE := Lib.hid (pick_none (s := s) (ws := ws) (.inr (.inl (badW_at hlt (.inr (by rw [HXK.out]; exact h2))))))
        clear h1 h2
        go_wp2_with fail
        go_ret2
        rw [HE.out.1, HE.out.2]
        exact ⟨rfl, rfl⟩
      have d2 : decide (1000000 < x) = false := decide_eq_false h2
      have hx0 : 0 ≤ x := by omega
      have hx1 : x ≤ 1000000 := by omega
      have HSM : Hid (sm + x = (ws.take (k + 1)).sum) := by show _ = _; rw [take_sum hlt, ← HS.out, HXK.out]
      clear h1 h2
      go_wp2_with fail
      go_roundw
      case rel => exact ⟨k + 1, sm + x, by go_num, rfl, hlt, by omega, by omega, HSM, fun j hj => by
        by_cases h : j = k
        · rw [h, HXK.out]; exact ⟨hx0, hx1⟩
        · exact HJ.out j (by omega), by first | trivial | rfl⟩
      case measure => simp [intOf]; omega
    · obtain rfl : k = ws.length := by omega
      have HSU : Hid (sm = ws.sum) := by
        have h := HS.out
        rw [List.take_length] at h
        exact h
      have HNB := Lib.hid (not_badW HJ.out)
      clear hlt
      by_cases hz : sm = 0
      · have d3 : (sm == 0) = true := beq_iff_eq.2 hz
        have HE := Lib.hid (pick_none (s := s) (ws := ws) (.inr (.inr (by rw [← HSU.out]; exact hz))))
        subst hz
        go_wp2_with fail
        go_ret2
        rw [HE.out.1, HE.out.2]
        exact ⟨rfl, rfl⟩
      have d3 : (sm == 0) = false := beq_eq_false_iff_ne.2 hz
      have hs2 : 1 ≤ sm := by omega
      have HE := Lib.hid (pick_some (s := s) (ws := ws) (by rw [← HSU.out]; intro h; exact h.elim (fun h => absurd h (by omega)) (fun h => h.elim HNB.out hz)))
      have hb := below_bound (s := s) (n := sm) hs2
      obtain ⟨x0, hx0⟩ : ∃ x0, below s sm = x0 := ⟨_, rfl⟩
      rw [hx0] at hb
      obtain ⟨hb0, hb1⟩ := hb
      have HX0 := Lib.hid hx0
      have HBS : Hid (belowS s sm = lcg s) := by show _ = _; unfold belowS; rw [if_neg (by omega)]
      have HPF := Lib.hid (pickAt_found (ws := ws) (fun j hj => (HJ.out j hj).1) x0 0 hb0 (by rw [← HSU.out]; exact hb1) (by omega))
      clear hz hx0
      go_wp2_with fail
      refine (rdbelow_ok wr s sm (by omega) (by omega)).mono ?_
      rw [HX0.out, HBS.out]
      rintro e w1 ⟨rfl, rfl⟩
      go_wp2_with fail
      go_loopw [11, 51] (fun xv iv wr => ∃ (k : Nat) (x : Int), iv = .int .i64 (k : Int) ∧ xv = .int .i64 x ∧ k ≤ ws.length ∧ 0 ≤ x ∧ x ≤ x0 ∧ Hid (pickAt (x0 - x) (ws.drop k) (k : Int) = pickAt x0 ws 0) ∧ wr = w1) (fun _ iv _ => ws.length - (intOf iv).toNat)
      case atStart => exact ⟨0, 0, rfl, rfl, Nat.zero_le _, by omega, by omega, by show _ = _; rw [Int.sub_zero]; rfl, rfl⟩
      case round =>
        have HXB := HX0
        clear HS HBS HX0
        obtain ⟨k, x, rfl, rfl, hk, hx0, hx1, HP, rfl⟩ := hrel
        by_cases hlt : k < ws.length
        · obtain ⟨ad, rfl, hc⟩ := HX.out.2.2 k hlt
          obtain ⟨y, hy⟩ : ∃ y, dg ws k = y := ⟨_, rfl⟩
          have hyb := HJ.out k hlt
          rw [hy] at hyb hc
          obtain ⟨hy0, hy1⟩ := hyb
          have HD : Hid (pickAt (x0 - x) (ws.drop k) (k : Int) = if x0 - x - y < 0 then (k : Int) else pickAt (x0 - x - y) (ws.drop (k + 1)) ((k : Int) + 1)) := by
            show _ = _
            rw [drop_dg hlt, hy]
            rfl
          clear hy
          by_cases hneg : x0 - x - y < 0
          · have dn : decide (x0 < x + y) = true := decide_eq_true (by omega)
            have HK : Hid (pickAt x0 ws 0 = (k : Int)) := by
              show _ = _
              rw [← HP.out, HD.out, if_pos hneg]
            clear hneg
            go_wp2_with fail
            go_ret2
            rw [HE.out.1, HE.out.2, ← HSU.out, HXB.out, HK.out]
            exact ⟨rfl, rfl⟩
          · have dn : decide (x0 < x + y) = false := decide_eq_false (by omega)
            have HK : Hid (pickAt (x0 - (x + y)) (ws.drop (k + 1)) ((k + 1 : Nat) : Int) = pickAt x0 ws 0) := by
              show _ = _
              rw [← HP.out, HD.out, if_neg hneg, Int.sub_sub]
              rfl
            have hxn : 0 ≤ x0 - x - y := by omega
            clear hneg
            go_wp2_with fail
            go_roundw
            case rel => exact ⟨k + 1, x + y, by go_num, rfl, hlt, by omega, by omega, HK, by first | trivial | rfl⟩
            case measure => simp [intOf]; omega
        · exfalso
          obtain rfl : k = ws.length := by omega
          have h := HP.out
          rw [List.drop_length] at h
          have h2 := HPF.out.1
          rw [← h] at h2
          have h3 : pickAt (x0 - x) [] (ws.length : Int) = -1 := rfl
          omega

end Go.Proofs.Ytcjpobnkapfccaa.M
