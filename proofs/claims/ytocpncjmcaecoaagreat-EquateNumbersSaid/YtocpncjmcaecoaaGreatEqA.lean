/- Frequencies by the program: whole numbers as ratios, totals, the rules of a table. -/
import Derived.Test.YtocpncjmcaecoaaGreatRatE
namespace Go.Proofs.YtocpncjmcaecoaaGreat.M
set_option maxRecDepth 10000
open Go.RowKit
set_option linter.unusedVariables false
set_option linter.unusedSimpArgs false
/-- The sum of the first k numbers. -/
def tot (f : List Int) : Nat → Int
  | 0 => 0
  | k + 1 => tot f k + dg f k
theorem tot_succ (f : List Int) (k : Nat) : tot f (k + 1) = tot f k + dg f k := rfl
theorem tot_zero (f : List Int) : tot f 0 = 0 := rfl
/-- Every number is from 0 to 1000000. -/
def freq (f : List Int) : Prop := ∀ i, i < f.length → 0 ≤ dg f i ∧ dg f i ≤ 1000000
theorem freq.take {f : List Int} (h : freq f) (m : Nat) : freq (f.take m) := fun i hi => by
  rw [List.length_take] at hi
  rw [dg_take, if_pos (by omega)]
  exact h i (by omega)
theorem tot_bound {f : List Int} (h : freq f) : ∀ k, k ≤ f.length → 0 ≤ tot f k ∧ tot f k ≤ 1000000 * (k : Int)
  | 0, _ => ⟨by rw [tot_zero]; omega, by rw [tot_zero]; omega⟩
  | k + 1, hk => by
    have h1 := tot_bound h k (by omega)
    have h2 := h k (by omega)
    rw [tot_succ]
    omega
theorem tot_take (f : List Int) (m : Nat) : ∀ k, k ≤ m → tot (f.take m) k = tot f k
  | 0, _ => rfl
  | k + 1, hk => by rw [tot_succ, tot_succ, tot_take f m k (by omega), dg_take, if_pos (by omega)]
open Classical in
/-- The first rule that a table of frequencies violates. -/
noncomputable def validE (f : List Int) : Int := if 61 < f.length then 5 else if ¬ freq f then 3 else if tot f f.length = 0 then 20 else 0
theorem validE_long {f : List Int} (h : 61 < f.length) : validE f = 5 := by unfold validE; rw [if_pos h]
theorem validE_range {f : List Int} (h : ¬ 61 < f.length) (h2 : ¬ freq f) : validE f = 3 := by unfold validE; rw [if_neg h, if_pos h2]
theorem validE_empty {f : List Int} (h : ¬ 61 < f.length) (h2 : freq f) (h3 : tot f f.length = 0) : validE f = 20 := by unfold validE; rw [if_neg h, if_neg (fun h => h h2), if_pos h3]
theorem validE_ok {f : List Int} (h : ¬ 61 < f.length) (h2 : freq f) (h3 : tot f f.length ≠ 0) : validE f = 0 := by unfold validE; rw [if_neg h, if_neg (fun h => h h2), if_neg h3]
theorem valid_parts {f : List Int} (h : validE f = 0) : f.length ≤ 61 ∧ freq f ∧ 0 < tot f f.length := by
  unfold validE at h
  split at h
  · cases h
  · split at h
    · cases h
    · split at h
      · cases h
      · rename_i h1 h2 h3
        have h4 : freq f := Classical.not_not.1 h2
        have := (tot_bound h4 f.length (Nat.le_refl _)).1
        exact ⟨by omega, h4, by omega⟩
/-- A whole number as a fraction. -/
theorem mkRat_int (n : Int) : mkRat n 1 = ((n : Int) : Rat) := Rat.mkRat_one n
/-- A ratio in normal form with an error number. -/
def RetQE (q : Rat) (e0 : Int) (w : World) (e : Ending) (w' : World) : Prop :=
  ∃ b A c xs B d ys, e = .returned (.tuple #[.agg #[.bool b, .slice A xs.length c, .slice B ys.length d], .int .i64 e0]) ∧ Hid (b = decide (q.num < 0)) ∧ Hid (xs = limbs q.num.natAbs) ∧ Hid (ys = limbs q.den) ∧ RN w' A c xs ∧ RN w' B d ys ∧ Below w.heap.size w w'
/-- What a ratio's cells in normal form are worth. -/
theorem qv_nf {b : Bool} {x y : List Int} {q : Rat} (h1 : b = decide (q.num < 0)) (h2 : x = limbs q.num.natAbs) (h3 : y = limbs q.den) : qv b x y = q := by rw [h1, h2, h3]; exact qv_norm q

set_option maxHeartbeats 800000 in
theorem fraction_ok (w : World) (n d : Int) (hn0 : -9223372036854775808 ≤ n) (hn1 : n ≤ 9223372036854775807) (hd0 : 0 < d) (hd1 : d ≤ 9223372036854775807) :
    Calls Tryz.prog 25 #[.int .i64 n, .int .i64 d] w (RetQ (mkRat n d.toNat) w) := by
  go_enter Tryz.func25, Tryz.ntmps25
  go_upto_region 1 with fail
  obtain ⟨W, hW⟩ : ∃ W, W = (w.alloc (.cells #[.bool false, .slice none 0 0, .slice none 0 0] 28)) := ⟨_, rfl⟩
  rw [← hW]
  have H_W : Mo w W [(w.heap.size, 28, #[.bool false, .slice none 0 0, .slice none 0 0])] [] := by
    rw [hW]
    have h := ((Mo.start w).alloc (t := 28) (cs := #[.bool false, .slice none 0 0, .slice none 0 0]) (nd_rat _ _ _ _ _ _ _))
    simp only [size_alloc, List.nil_append, List.cons_append] at h
    exact h
  clear hW
  have H_W := Lib.hid H_W
  go_wp2_with fail
  refine (qof_ok W n d hn0 hn1 hd0 hd1).mono ?_
  rintro e_ w1 ⟨b1, A1, c1, x, B1, d1, y, rfl, HQ1, HQ2, HQ3, hx1, hy1, hB⟩
  have H_w1 := Lib.hid (Mo.num (Mo.num (Mo.call H_W.out hB) hx1) hy1)
  clear hB hx1 hy1
  go_upto_region 2 with fail
  obtain ⟨T, hT⟩ : ∃ T, T = w1.alloc (.cells #[.bool b1, .slice A1 x.length c1, .slice B1 y.length d1] 28) := ⟨_, rfl⟩
  rw [← hT]
  have H_T : Hid (Mo w T _ _) := Lib.hid (by rw [hT]; exact H_w1.out.alloc (t := 28) (cs := #[.bool b1, .slice A1 x.length c1, .slice B1 y.length d1]) (nd_rat _ _ _ _ _ _ _))
  clear hT
  have k1Tc0 := ((H_T.out.var 1 rfl)).cell 0 rfl
  have k1Tc1 := ((H_T.out.var 1 rfl)).cell 1 rfl
  have k1Tc2 := ((H_T.out.var 1 rfl)).cell 2 rfl
  have k0Tc0 := ((H_T.out.var 0 rfl)).cell 0 rfl
  have k0Tc1 := ((H_T.out.var 0 rfl)).cell 1 rfl
  have k0Tc2 := ((H_T.out.var 0 rfl)).cell 2 rfl
  have k0Tf0 := ((H_T.out.var 0 rfl)).thaw 0
  have k0Tf1 := ((H_T.out.var 0 rfl)).thaw 1
  have k0Tf2 := ((H_T.out.var 0 rfl)).thaw 2
  go_wp2_with fail
  have hr0 := (H_T.out).set 0 (j := 0) (v := .bool b1) (cs' := #[.bool b1, .slice none 0 0, .slice none 0 0]) rfl rfl (nd_rat _ _ _ _ _ _ _)
  have hr1 := (hr0).set 0 (j := 1) (v := .slice A1 x.length c1) (cs' := #[.bool b1, .slice A1 x.length c1, .slice none 0 0]) rfl rfl (nd_rat _ _ _ _ _ _ _)
  have hr2 := (hr1).set 0 (j := 2) (v := .slice B1 y.length d1) (cs' := #[.bool b1, .slice A1 x.length c1, .slice B1 y.length d1]) rfl rfl (nd_rat _ _ _ _ _ _ _)
  have v3 : Vr (((T.setCell ⟨w.heap.size, 0, none⟩ (.bool b1)).setCell ⟨w.heap.size, 1, none⟩ (.slice A1 x.length c1)).setCell ⟨w.heap.size, 2, none⟩ (.slice B1 y.length d1)) w.heap.size 28 #[.bool b1, .slice A1 x.length c1, .slice B1 y.length d1] := hr2.var 0 rfl
  refine bodyPost_ret (v := .agg #[.bool b1, .slice A1 x.length c1, .slice B1 y.length d1]) (by simp [results, Tryz.results25, go_sem, v3.cell 0 rfl, v3.cell 1 rfl, v3.cell 2 rfl]) rfl ?_
  exact ⟨b1, A1, c1, x, B1, d1, y, rfl, HQ1, HQ2, HQ3, hr2.rn 0 rfl, hr2.rn 1 rfl, hr2.below⟩
set_option maxHeartbeats 800000 in
theorem part_ok (w : World) (n d : Int) (hn0 : -9223372036854775808 ≤ n) (hn1 : n ≤ 9223372036854775807) (hd0 : 0 < d) (hd1 : d ≤ 9223372036854775807) :
    Calls Tryz.prog 42 #[.int .i64 n, .int .i64 d] w (RetQ (mkRat n d.toNat) w) := by
  go_enter Tryz.func42, Tryz.ntmps42
  go_upto_region 1 with fail
  obtain ⟨W, hW⟩ : ∃ W, W = (w.alloc (.cells #[.bool false, .slice none 0 0, .slice none 0 0] 28)) := ⟨_, rfl⟩
  rw [← hW]
  have H_W : Mo w W [(w.heap.size, 28, #[.bool false, .slice none 0 0, .slice none 0 0])] [] := by
    rw [hW]
    have h := ((Mo.start w).alloc (t := 28) (cs := #[.bool false, .slice none 0 0, .slice none 0 0]) (nd_rat _ _ _ _ _ _ _))
    simp only [size_alloc, List.nil_append, List.cons_append] at h
    exact h
  clear hW
  have H_W := Lib.hid H_W
  go_wp2_with fail
  refine (qof_ok W n d hn0 hn1 hd0 hd1).mono ?_
  rintro e_ w1 ⟨b1, A1, c1, x, B1, d1, y, rfl, HQ1, HQ2, HQ3, hx1, hy1, hB⟩
  have H_w1 := Lib.hid (Mo.num (Mo.num (Mo.call H_W.out hB) hx1) hy1)
  clear hB hx1 hy1
  go_upto_region 2 with fail
  obtain ⟨T, hT⟩ : ∃ T, T = w1.alloc (.cells #[.bool b1, .slice A1 x.length c1, .slice B1 y.length d1] 28) := ⟨_, rfl⟩
  rw [← hT]
  have H_T : Hid (Mo w T _ _) := Lib.hid (by rw [hT]; exact H_w1.out.alloc (t := 28) (cs := #[.bool b1, .slice A1 x.length c1, .slice B1 y.length d1]) (nd_rat _ _ _ _ _ _ _))
  clear hT
  have k1Tc0 := ((H_T.out.var 1 rfl)).cell 0 rfl
  have k1Tc1 := ((H_T.out.var 1 rfl)).cell 1 rfl
  have k1Tc2 := ((H_T.out.var 1 rfl)).cell 2 rfl
  have k0Tc0 := ((H_T.out.var 0 rfl)).cell 0 rfl
  have k0Tc1 := ((H_T.out.var 0 rfl)).cell 1 rfl
  have k0Tc2 := ((H_T.out.var 0 rfl)).cell 2 rfl
  have k0Tf0 := ((H_T.out.var 0 rfl)).thaw 0
  have k0Tf1 := ((H_T.out.var 0 rfl)).thaw 1
  have k0Tf2 := ((H_T.out.var 0 rfl)).thaw 2
  go_wp2_with fail
  have hr0 := (H_T.out).set 0 (j := 0) (v := .bool b1) (cs' := #[.bool b1, .slice none 0 0, .slice none 0 0]) rfl rfl (nd_rat _ _ _ _ _ _ _)
  have hr1 := (hr0).set 0 (j := 1) (v := .slice A1 x.length c1) (cs' := #[.bool b1, .slice A1 x.length c1, .slice none 0 0]) rfl rfl (nd_rat _ _ _ _ _ _ _)
  have hr2 := (hr1).set 0 (j := 2) (v := .slice B1 y.length d1) (cs' := #[.bool b1, .slice A1 x.length c1, .slice B1 y.length d1]) rfl rfl (nd_rat _ _ _ _ _ _ _)
  have v3 : Vr (((T.setCell ⟨w.heap.size, 0, none⟩ (.bool b1)).setCell ⟨w.heap.size, 1, none⟩ (.slice A1 x.length c1)).setCell ⟨w.heap.size, 2, none⟩ (.slice B1 y.length d1)) w.heap.size 28 #[.bool b1, .slice A1 x.length c1, .slice B1 y.length d1] := hr2.var 0 rfl
  refine bodyPost_ret (v := .agg #[.bool b1, .slice A1 x.length c1, .slice B1 y.length d1]) (by simp [results, Tryz.results42, go_sem, v3.cell 0 rfl, v3.cell 1 rfl, v3.cell 2 rfl]) rfl ?_
  exact ⟨b1, A1, c1, x, B1, d1, y, rfl, HQ1, HQ2, HQ3, hr2.rn 0 rfl, hr2.rn 1 rfl, hr2.below⟩

set_option maxHeartbeats 800000 in
theorem ewhole_ok (w : World) (n : Int) (hn0 : -9223372036854775808 ≤ n) (hn1 : n ≤ 9223372036854775807) :
    Calls Tryz.prog 23 #[.int .i64 n] w (RetQ ((n : Int) : Rat) w) := by
  go_enter Tryz.func23, Tryz.ntmps23
  go_upto_region 1 with fail
  obtain ⟨W, hW⟩ : ∃ W, W = (w.alloc (.cells #[.bool false, .slice none 0 0, .slice none 0 0] 28)) := ⟨_, rfl⟩
  rw [← hW]
  have H_W : Mo w W [(w.heap.size, 28, #[.bool false, .slice none 0 0, .slice none 0 0])] [] := by
    rw [hW]
    have h := ((Mo.start w).alloc (t := 28) (cs := #[.bool false, .slice none 0 0, .slice none 0 0]) (nd_rat _ _ _ _ _ _ _))
    simp only [size_alloc, List.nil_append, List.cons_append] at h
    exact h
  clear hW
  have H_W := Lib.hid H_W
  go_wp2_with fail
  refine (fraction_ok W n 1 hn0 hn1 (by omega) (by omega)).mono ?_
  rw [show (1 : Int).toNat = 1 from rfl, mkRat_int]
  rintro e_ w1 ⟨b1, A1, c1, x, B1, d1, y, rfl, HQ1, HQ2, HQ3, hx1, hy1, hB⟩
  have H_w1 := Lib.hid (Mo.num (Mo.num (Mo.call H_W.out hB) hx1) hy1)
  have k0w1c0 := ((H_w1.out.var 0 rfl)).cell 0 rfl
  have k0w1c1 := ((H_w1.out.var 0 rfl)).cell 1 rfl
  have k0w1c2 := ((H_w1.out.var 0 rfl)).cell 2 rfl
  have k0w1f0 := ((H_w1.out.var 0 rfl)).thaw 0
  have k0w1f1 := ((H_w1.out.var 0 rfl)).thaw 1
  have k0w1f2 := ((H_w1.out.var 0 rfl)).thaw 2
  clear hB hx1 hy1
  go_wp2_with fail
  have hr0 := (H_w1.out).set 0 (j := 0) (v := .bool b1) (cs' := #[.bool b1, .slice none 0 0, .slice none 0 0]) rfl rfl (nd_rat _ _ _ _ _ _ _)
  have hr1 := (hr0).set 0 (j := 1) (v := .slice A1 x.length c1) (cs' := #[.bool b1, .slice A1 x.length c1, .slice none 0 0]) rfl rfl (nd_rat _ _ _ _ _ _ _)
  have hr2 := (hr1).set 0 (j := 2) (v := .slice B1 y.length d1) (cs' := #[.bool b1, .slice A1 x.length c1, .slice B1 y.length d1]) rfl rfl (nd_rat _ _ _ _ _ _ _)
  have v3 : Vr (((w1.setCell ⟨w.heap.size, 0, none⟩ (.bool b1)).setCell ⟨w.heap.size, 1, none⟩ (.slice A1 x.length c1)).setCell ⟨w.heap.size, 2, none⟩ (.slice B1 y.length d1)) w.heap.size 28 #[.bool b1, .slice A1 x.length c1, .slice B1 y.length d1] := hr2.var 0 rfl
  refine bodyPost_ret (v := .agg #[.bool b1, .slice A1 x.length c1, .slice B1 y.length d1]) (by simp [results, Tryz.results23, go_sem, v3.cell 0 rfl, v3.cell 1 rfl, v3.cell 2 rfl]) rfl ?_
  exact ⟨b1, A1, c1, x, B1, d1, y, rfl, HQ1, HQ2, HQ3, hr2.rn 0 rfl, hr2.rn 1 rfl, hr2.below⟩

set_option maxHeartbeats 1600000 in
theorem total_ok (w : World) (FA : Option Addr) (fc : Nat) (f : List Int) (hf : Rk w .i64 FA fc f) (hl : f.length ≤ 61) (hq : freq f) :
    Calls Tryz.prog 33 #[.slice FA f.length fc] w (fun e w' => e = .returned (.int .i64 (tot f f.length)) ∧ w' = w) := by
  have HR := Lib.hid hf
  have HF := Lib.hid hq
  have hcl := hf.1
  have hcm := hf.2.1
  clear hf hq
  go_enter Tryz.func33, Tryz.ntmps33
  go_wp2_with fail
  go_loopw [3, 5, 8] (fun nv xv iv wr => ∃ (k : Nat), iv = .int .i64 (k : Int) ∧ k ≤ f.length ∧ nv = .int .i64 (tot f k) ∧ wr = w) (fun _ _ iv _ => f.length - (intOf iv).toNat)
  case atStart => exact ⟨0, rfl, Nat.zero_le _, rfl, rfl⟩
  case round =>
    obtain ⟨k, rfl, hk, rfl, rfl⟩ := hrel
    obtain ⟨s, hs⟩ : ∃ s, tot f k = s := ⟨_, rfl⟩
    have hb := tot_bound HF.out k hk
    rw [hs] at hb ⊢
    have HS := Lib.hid hs
    clear hs
    by_cases hlt : k < f.length
    · have d1 : decide ((k : Int) < (f.length : Int)) = true := decide_eq_true (by omega)
      obtain ⟨ad, rfl, hc⟩ := HR.out.2.2 k hlt
      have hx := HF.out k hlt
      obtain ⟨x, hxe⟩ : ∃ x, dg f k = x := ⟨_, rfl⟩
      rw [hxe] at hc hx
      have HX := Lib.hid hxe
      have e1 : IntKind.i64.wrap (s + x) = s + x := IntWalk.i64_in _ (by omega)
      clear hxe
      go_wp2_with fail
      go_roundw
      case rel => exact ⟨k + 1, by go_num, hlt, by rw [tot_succ, HS.out, HX.out] <;> first | rfl | simp [e1], by first | rfl | trivial⟩
      case measure => simp [intOf]; omega
    · have d1 : decide ((k : Int) < (f.length : Int)) = false := decide_eq_false (by omega)
      have d2 : decide (k < f.length) = false := decide_eq_false hlt
      have HE : Hid (tot f f.length = s) := by show _ = _; rw [← HS.out, show k = f.length by omega]
      clear hlt
      go_wp2_with fail
      go_ret
      exact ⟨by rw [HE.out]; rfl, rfl⟩

set_option maxHeartbeats 1600000 in
theorem evalid_ok (w : World) (FA : Option Addr) (fc : Nat) (f : List Int) (hf : Rk w .i64 FA fc f) :
    Calls Tryz.prog 10 #[.slice FA f.length fc] w (fun e w' => e = .returned (.int .i64 (validE f)) ∧ w' = w) := by
  have HR := Lib.hid hf
  have hcl := hf.1
  have hcm := hf.2.1
  clear hf
  go_enter Tryz.func10, Tryz.ntmps10
  by_cases h61 : 61 < f.length
  · have d1 : decide ((61 : Int) < (f.length : Int)) = true := decide_eq_true (by omega)
    have d2 : decide (61 < f.length) = true := decide_eq_true h61
    have HE : Hid (validE f = 5) := validE_long h61
    clear h61
    go_wp2_with fail
    go_ret
    exact ⟨by rw [HE.out]; rfl, rfl⟩
  have d1 : decide ((61 : Int) < (f.length : Int)) = false := decide_eq_false (by omega)
  have d2 : decide (61 < f.length) = false := decide_eq_false h61
  have hl : f.length ≤ 61 := by omega
  have H61 : Hid (¬ 61 < f.length) := h61
  clear h61
  go_wp2_with fail
  go_loopw [4, 10] (fun xv iv wr => ∃ (k : Nat), iv = .int .i64 (k : Int) ∧ k ≤ f.length ∧ Hid (∀ i, i < k → 0 ≤ dg f i ∧ dg f i ≤ 1000000) ∧ wr = w) (fun _ iv _ => f.length - (intOf iv).toNat)
  case atStart => exact ⟨0, rfl, Nat.zero_le _, fun i hi => by omega, rfl⟩
  case round =>
    clear d1 d2
    obtain ⟨k, rfl, hk, HK, rfl⟩ := hrel
    by_cases hlt : k < f.length
    · have d1 : decide ((k : Int) < (f.length : Int)) = true := decide_eq_true (by omega)
      obtain ⟨ad, rfl, hc⟩ := HR.out.2.2 k hlt
      obtain ⟨x, hxe⟩ : ∃ x, dg f k = x := ⟨_, rfl⟩
      rw [hxe] at hc
      have HX := Lib.hid hxe
      clear hxe
      by_cases h0 : x < 0
      · have e1 : decide (x < 0) = true := decide_eq_true h0
        have HE : Hid (validE f = 3) := validE_range H61.out (fun h => by have := (h k hlt).1; rw [HX.out] at this; omega)
        go_wp2_with fail
        go_ret
        exact ⟨by rw [HE.out]; rfl, rfl⟩
      · have e1 : decide (x < 0) = false := decide_eq_false h0
        have hx0 : 0 ≤ x := by omega
        by_cases h1 : 1000000 < x
        · have e2 : decide (1000000 < x) = true := decide_eq_true h1
          have HE : Hid (validE f = 3) := validE_range H61.out (fun h => by have := (h k hlt).2; rw [HX.out] at this; omega)
          go_wp2_with fail
          go_ret
          exact ⟨by rw [HE.out]; rfl, rfl⟩
        · have e2 : decide (1000000 < x) = false := decide_eq_false h1
          have HKK : Hid (∀ i, i < k + 1 → 0 ≤ dg f i ∧ dg f i ≤ 1000000) := fun i hi => by
            rcases Nat.lt_or_ge i k with h | h
            · exact HK.out i h
            · obtain rfl : i = k := by omega
              rw [HX.out]
              omega
          have hx1 : x ≤ 1000000 := by omega
          clear h0 h1 HK
          go_wp2_with fail
          go_roundw
          case rel => exact ⟨k + 1, by go_num, hlt, HKK, by first | rfl | trivial⟩
          case measure => simp [intOf]; omega
    · have d1 : decide ((k : Int) < (f.length : Int)) = false := decide_eq_false (by omega)
      have d2 : decide (k < f.length) = false := decide_eq_false hlt
      have HQ : Hid (freq f) := fun i hi => HK.out i (by omega)
      clear hlt HK
      go_wp2_with fail
      refine (total_ok wr FA fc f HR.out hl HQ.out).mono ?_
      rintro e_ w9 ⟨rfl, rfl⟩
      obtain ⟨s, hs⟩ : ∃ s, tot f f.length = s := ⟨_, rfl⟩
      rw [hs]
      have HS := Lib.hid hs
      clear hs
      by_cases h0 : s = 0
      · have HE : Hid (validE f = 20) := validE_empty H61.out HQ.out (HS.out.trans h0)
        have e1 : (s == 0) = true := beq_iff_eq.2 h0
        clear h0
        go_wp2_with fail
        go_ret
        exact ⟨by rw [HE.out]; rfl, rfl⟩
      · have HE : Hid (validE f = 0) := validE_ok H61.out HQ.out (fun h => h0 (HS.out.symm.trans h))
        have e1 : (s == 0) = false := beq_eq_false_iff_ne.2 h0
        clear h0
        go_wp2_with fail
        go_ret
        exact ⟨by rw [HE.out]; rfl, rfl⟩

end Go.Proofs.YtocpncjmcaecoaaGreat.M
