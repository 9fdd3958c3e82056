/- Frequencies by the reference: whole numbers as ratios, totals, the rules of a table. -/
import Derived.Test.YtocpncjmcaecoaaGreatEqF
import Derived.Test.YtocpncjmcaecoaaGreatRefSub
namespace Go.Proofs.YtocpncjmcaecoaaGreat.M
set_option maxRecDepth 10000
open Go.RowKit
set_option linter.unusedVariables false
set_option linter.unusedSimpArgs false
set_option maxHeartbeats 800000 in
theorem rfraction_ok (w : World) (n d : Int) (hn0 : -9223372036854775808 ≤ n) (hn1 : n ≤ 9223372036854775807) (hd0 : 0 < d) (hd1 : d ≤ 9223372036854775807) :
    Calls Tryz.prog 34 #[.int .i64 n, .int .i64 d] w (RetQ (mkRat n d.toNat) w) := by
  go_enter Tryz.func34, Tryz.ntmps34
  go_upto_region 1 with fail
  obtain ⟨W, hW⟩ : ∃ W, W = (w.alloc (.cells #[.bool false, .slice none 0 0, .slice none 0 0] 28)) := ⟨_, rfl⟩
  rw [← hW]
  have H_W : Mo w W [(w.heap.size, 28, #[.bool false, .slice none 0 0, .slice none 0 0])] [] := by
    rw [hW]
    have h := ((Mo.start w).alloc (t := 28) (cs := #[.bool false, .slice none 0 0, .slice none 0 0]) (nd_rat _ _ _ _ _ _ _))
    simp only [size_alloc, List.nil_append, List.cons_append] at h
    exact h
  clear hW
  have H_W := Lib.hid H_W
  go_wp2_with fail
  refine (rqof_ok W n d hn0 hn1 hd0 hd1).mono ?_
  rintro e_ w1 ⟨b1, A1, c1, x, B1, d1, y, rfl, HQ1, HQ2, HQ3, hx1, hy1, hB⟩
  have H_w1 := Lib.hid (Mo.num (Mo.num (Mo.call H_W.out hB) hx1) hy1)
  clear hB hx1 hy1
  go_upto_region 2 with fail
  obtain ⟨T, hT⟩ : ∃ T, T = w1.alloc (.cells #[.bool b1, .slice A1 x.length c1, .slice B1 y.length d1] 28) := ⟨_, rfl⟩
  rw [← hT]
  have H_T : Hid (Mo w T _ _) := Lib.hid (by rw [hT]; exact H_w1.out.alloc (t := 28) (cs := #[.bool b1, .slice A1 x.length c1, .slice B1 y.length d1]) (nd_rat _ _ _ _ _ _ _))
  clear hT
  have k1Tc0 := ((H_T.out.var 1 rfl)).cell 0 rfl
  have k1Tc1 := ((H_T.out.var 1 rfl)).cell 1 rfl
  have k1Tc2 := ((H_T.out.var 1 rfl)).cell 2 rfl
  have k0Tc0 := ((H_T.out.var 0 rfl)).cell 0 rfl
  have k0Tc1 := ((H_T.out.var 0 rfl)).cell 1 rfl
  have k0Tc2 := ((H_T.out.var 0 rfl)).cell 2 rfl
  have k0Tf0 := ((H_T.out.var 0 rfl)).thaw 0
  have k0Tf1 := ((H_T.out.var 0 rfl)).thaw 1
  have k0Tf2 := ((H_T.out.var 0 rfl)).thaw 2
  go_wp2_with fail
  have hr0 := (H_T.out).set 0 (j := 0) (v := .bool b1) (cs' := #[.bool b1, .slice none 0 0, .slice none 0 0]) rfl rfl (nd_rat _ _ _ _ _ _ _)
  have hr1 := (hr0).set 0 (j := 1) (v := .slice A1 x.length c1) (cs' := #[.bool b1, .slice A1 x.length c1, .slice none 0 0]) rfl rfl (nd_rat _ _ _ _ _ _ _)
  have hr2 := (hr1).set 0 (j := 2) (v := .slice B1 y.length d1) (cs' := #[.bool b1, .slice A1 x.length c1, .slice B1 y.length d1]) rfl rfl (nd_rat _ _ _ _ _ _ _)
  have v3 : Vr (((T.setCell ⟨w.heap.size, 0, none⟩ (.bool b1)).setCell ⟨w.heap.size, 1, none⟩ (.slice A1 x.length c1)).setCell ⟨w.heap.size, 2, none⟩ (.slice B1 y.length d1)) w.heap.size 28 #[.bool b1, .slice A1 x.length c1, .slice B1 y.length d1] := hr2.var 0 rfl
  refine bodyPost_ret (v := .agg #[.bool b1, .slice A1 x.length c1, .slice B1 y.length d1]) (by simp [results, Tryz.results34, go_sem, v3.cell 0 rfl, v3.cell 1 rfl, v3.cell 2 rfl]) rfl ?_
  exact ⟨b1, A1, c1, x, B1, d1, y, rfl, HQ1, HQ2, HQ3, hr2.rn 0 rfl, hr2.rn 1 rfl, hr2.below⟩

set_option maxHeartbeats 1600000 in
theorem rbelow_f (w : World) (FA : Option Addr) (fc : Nat) (f : List Int) (hf : Rk w .i64 FA fc f) (hl : f.length ≤ 61) (hq : freq f) (m : Nat) (hm : m ≤ f.length) :
    Calls Tryz.prog 35 #[.slice FA f.length fc, .int .i64 (m : Int)] w (fun e w' => e = .returned (.int .i64 (tot f m)) ∧ w' = w) := by
  have HR := Lib.hid hf
  have HF := Lib.hid hq
  have hcl := hf.1
  have hcm := hf.2.1
  clear hf hq
  go_enter Tryz.func35, Tryz.ntmps35
  go_wp2_with fail
  go_loopw [5, 6] (fun nv iv wr => ∃ (k : Nat), iv = .int .i64 (k : Int) ∧ k ≤ m ∧ nv = .int .i64 (tot f k) ∧ wr = w) (fun _ iv _ => m - (intOf iv).toNat)
  case atStart => exact ⟨0, rfl, Nat.zero_le _, rfl, rfl⟩
  case round =>
    obtain ⟨k, rfl, hk, rfl, rfl⟩ := hrel
    obtain ⟨s, hs⟩ : ∃ s, tot f k = s := ⟨_, rfl⟩
    have hb := tot_bound HF.out k (by omega)
    rw [hs] at hb ⊢
    have HS := Lib.hid hs
    clear hs
    by_cases hlt : k < m
    · have d1 : decide ((k : Int) < (m : Int)) = true := decide_eq_true (by omega)
      have hkf : k < f.length := by omega
      have bk1 : (0 : Int) ≤ (k : Int) := by omega
      have bk2 : (k : Int) < (f.length : Int) := by omega
      obtain ⟨ad, rfl, hc⟩ := HR.out.2.2 k hkf
      have hx := HF.out k hkf
      obtain ⟨x, hxe⟩ : ∃ x, dg f k = x := ⟨_, rfl⟩
      rw [hxe] at hc hx
      have HX := Lib.hid hxe
      have e1 : IntKind.i64.wrap (s + x) = s + x := IntWalk.i64_in _ (by omega)
      clear hxe
      go_wp2_with fail
      go_roundw
      case rel => exact ⟨k + 1, by go_num, hlt, by rw [tot_succ, HS.out, HX.out] <;> first | rfl | simp [e1], by first | rfl | trivial⟩
      case measure => simp [intOf]; omega
    · have d1 : decide ((k : Int) < (m : Int)) = false := decide_eq_false (by omega)
      have d2 : decide (k < m) = false := decide_eq_false hlt
      have HE : Hid (tot f m = s) := by show _ = _; rw [← HS.out, show k = m by omega]
      clear hlt
      go_wp2_with fail
      go_ret
      exact ⟨by rw [HE.out]; rfl, rfl⟩
/-- A total, its value told apart. -/
theorem rbelow_ok (w : World) (FA : Option Addr) (fc : Nat) (f : List Int) (hf : Rk w .i64 FA fc f) (hl : f.length ≤ 61) (hq : freq f) (m : Nat) (hm : m ≤ f.length) {s : Int} (hs : tot f m = s) :
    Calls Tryz.prog 35 #[.slice FA f.length fc, .int .i64 (m : Int)] w (fun e w' => e = .returned (.int .i64 s) ∧ Below w.heap.size w w') := by
  refine (rbelow_f w FA fc f hf hl hq m hm).mono ?_
  rintro e_ w1 ⟨rfl, rfl⟩
  exact ⟨by rw [hs], Below.refl _ _⟩
set_option maxHeartbeats 1600000 in
theorem rvalid_ok (w : World) (FA : Option Addr) (fc : Nat) (f : List Int) (hf : Rk w .i64 FA fc f) :
    Calls Tryz.prog 11 #[.slice FA f.length fc] w (fun e w' => e = .returned (.int .i64 (validE f)) ∧ w' = w) := by
  have HR := Lib.hid hf
  have hcl := hf.1
  have hcm := hf.2.1
  clear hf
  go_enter Tryz.func11, Tryz.ntmps11
  by_cases h61 : 61 < f.length
  · have d1 : decide ((61 : Int) < (f.length : Int)) = true := decide_eq_true (by omega)
    have d2 : decide (61 < f.length) = true := decide_eq_true h61
    have HE : Hid (validE f = 5) := validE_long h61
    clear h61
    go_wp2_with fail
    go_ret
    exact ⟨by rw [HE.out]; rfl, rfl⟩
  have d1 : decide ((61 : Int) < (f.length : Int)) = false := decide_eq_false (by omega)
  have d2 : decide (61 < f.length) = false := decide_eq_false h61
  have hl : f.length ≤ 61 := by omega
  have H61 : Hid (¬ 61 < f.length) := h61
  clear h61
  go_wp2_with fail
  go_loopw [4, 10] (fun xv iv wr => ∃ (k : Nat), iv = .int .i64 (k : Int) ∧ k ≤ f.length ∧ Hid (∀ i, i < k → 0 ≤ dg f i ∧ dg f i ≤ 1000000) ∧ wr = w) (fun _ iv _ => f.length - (intOf iv).toNat)
  case atStart => exact ⟨0, rfl, Nat.zero_le _, fun i hi => by omega, rfl⟩
  case round =>
    clear d1 d2
    obtain ⟨k, rfl, hk, HK, rfl⟩ := hrel
    by_cases hlt : k < f.length
    · have d1 : decide ((k : Int) < (f.length : Int)) = true := decide_eq_true (by omega)
      obtain ⟨ad, rfl, hc⟩ := HR.out.2.2 k hlt
      obtain ⟨x, hxe⟩ : ∃ x, dg f k = x := ⟨_, rfl⟩
      rw [hxe] at hc
      have HX := Lib.hid hxe
      clear hxe
      by_cases h0 : x < 0
      · have e1 : decide (x < 0) = true := decide_eq_true h0
        have HE : Hid (validE f = 3) := validE_range H61.out (fun h => by have := (h k hlt).1; rw [HX.out] at this; omega)
        go_wp2_with fail
        go_ret
        exact ⟨by rw [HE.out]; rfl, rfl⟩
      · have e1 : decide (x < 0) = false := decide_eq_false h0
        have hx0 : 0 ≤ x := by omega
        by_cases h1 : 1000000 < x
        · have e2 : decide (1000000 < x) = true := decide_eq_true h1
          have HE : Hid (validE f = 3) := validE_range H61.out (fun h => by have := (h k hlt).2; rw [HX.out] at this; omega)
          go_wp2_with fail
          go_ret
          exact ⟨by rw [HE.out]; rfl, rfl⟩
        · have e2 : decide (1000000 < x) = false := decide_eq_false h1
          have HKK : Hid (∀ i, i < k + 1 → 0 ≤ dg f i ∧ dg f i ≤ 1000000) := fun i hi => by
            rcases Nat.lt_or_ge i k with h | h
            · exact HK.out i h
            · obtain rfl : i = k := by omega
              rw [HX.out]
              omega
          have hx1 : x ≤ 1000000 := by omega
          clear h0 h1 HK
          go_wp2_with fail
          go_roundw
          case rel => exact ⟨k + 1, by go_num, hlt, HKK, by first | rfl | trivial⟩
          case measure => simp [intOf]; omega
    · have d1 : decide ((k : Int) < (f.length : Int)) = false := decide_eq_false (by omega)
      have d2 : decide (k < f.length) = false := decide_eq_false hlt
      have HQ : Hid (freq f) := fun i hi => HK.out i (by omega)
      clear hlt HK
      go_wp2_with fail
      refine (rbelow_f wr FA fc f HR.out hl HQ.out f.length (Nat.le_refl _)).mono ?_
      rintro e_ w9 ⟨rfl, rfl⟩
      obtain ⟨s, hs⟩ : ∃ s, tot f f.length = s := ⟨_, rfl⟩
      rw [hs]
      have HS := Lib.hid hs
      clear hs
      by_cases h0 : s = 0
      · have HE : Hid (validE f = 20) := validE_empty H61.out HQ.out (HS.out.trans h0)
        have e1 : (s == 0) = true := beq_iff_eq.2 h0
        clear h0
        go_wp2_with fail
        go_ret
        exact ⟨by rw [HE.out]; rfl, rfl⟩
      · have HE : Hid (validE f = 0) := validE_ok H61.out HQ.out (fun h => h0 (HS.out.symm.trans h))
        have e1 : (s == 0) = false := beq_eq_false_iff_ne.2 h0
        clear h0
        go_wp2_with fail
        go_ret
        exact ⟨by rw [HE.out]; rfl, rfl⟩

end Go.Proofs.YtocpncjmcaecoaaGreat.M
