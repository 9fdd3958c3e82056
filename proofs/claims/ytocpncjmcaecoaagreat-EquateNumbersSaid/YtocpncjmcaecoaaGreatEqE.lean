/- Rounded tables by the program. -/
import Derived.Test.YtocpncjmcaecoaaGreatEqD
import Derived.Test.YtocpncjmcaecoaaGreatDint
namespace Go.Proofs.YtocpncjmcaecoaaGreat.M
set_option maxRecDepth 10000
open Go.RowKit
set_option linter.unusedVariables false
set_option linter.unusedSimpArgs false
def limI (K lo hi : Int) : Int := if K < lo then lo else if hi < K then hi else K
/-- The first error of Rounded. -/
def roundE (n : Nat) (mode lo hi : Int) : Int := if 61 < n then 5 else if mode < 1 ∨ 7 < mode then 1 else if lo < -1000000 ∨ 1000000 < lo ∨ hi < -1000000 ∨ 1000000 < hi then 3 else if hi < lo then 23 else 0
def roundL (rs : List Rt) (mode lo hi : Int) : List Int := rs.map fun r => limI (rnd r.q mode) lo hi
def roundV (rs : List Rt) (mode lo hi : Int) : List Int := if roundE rs.length mode lo hi = 0 then roundL rs mode lo hi else []
def RetLs (l : List Int) (e0 : Int) (w : World) (e : Ending) (w' : World) : Prop := ∃ A c xs, e = .returned (.tuple #[.slice A xs.length c, .int .i64 e0]) ∧ Hid (xs = l) ∧ Rk w' .i64 A c xs ∧ Below w.heap.size w w'
theorem roundL_next {rs : List Rt} {mode lo hi : Int} {k : Nat} {r : Rt} (h : rs[k]? = some r) : roundL (rs.take (k + 1)) mode lo hi = roundL (rs.take k) mode lo hi ++ [limI (rnd r.q mode) lo hi] := by
  unfold roundL
  rw [List.take_add_one, h, List.map_append]
  rfl
theorem info_intE : (Tryz.prog.info? 3).map (fun i => (i.zero, i.size, i.bytes)) = some (some (.int .i64 0), 1, 8) := by kernel_rfl
theorem rnd_lenE (q : Rat) (mode : Int) {n : Nat} (h : (limbs q.num.natAbs).length ≤ n) : (limbs (rnd q mode).natAbs).length ≤ n + 2 := by
  have h1 : (rnd q mode).natAbs ≤ q.num.natAbs + 1 := by
    have h2 : (q.num / (q.den : Int)).natAbs ≤ q.num.natAbs := Int.natAbs_ediv_le_natAbs _ _
    unfold rnd
    split
    · omega
    · split <;> omega
  have h3 := nat_le_len h1
  have h4 := nat_add_max q.num.natAbs 1
  have h5 : (limbs 1).length ≤ 1 := limbs_len (m := 1) (by decide)
  omega

set_option maxHeartbeats 3200000 in
theorem limit_ok (w : World) (b : Bool) (A : Option Addr) (c : Nat) (xs : List Int) (lo hi : Int) (hx : RN w A c xs) (hs : xs.length ≤ 70368744177664) (hlo : -1000000 ≤ lo ∧ lo ≤ 1000000) (hhi : -1000000 ≤ hi ∧ hi ≤ 1000000) :
    Calls Tryz.prog 45 #[.agg #[.bool b, .slice A xs.length c], .int .i64 lo, .int .i64 hi] w (fun e w' => e = .returned (.int .i64 (limI (zv b xs) lo hi)) ∧ Below w.heap.size w w') := by
  have HX := Lib.hid hx
  clear hx
  go_enter Tryz.func45, Tryz.ntmps45
  obtain ⟨K, hK⟩ : ∃ K, zv b xs = K := ⟨_, rfl⟩
  have HK := Lib.hid hK
  rw [hK]
  clear hK
  go_upto_region 1 with fail
  obtain ⟨W, hW⟩ : ∃ W, W = (w.alloc (.cells #[.bool b, .slice A xs.length c] 26)) := ⟨_, rfl⟩
  rw [← hW]
  have H_W : Mo w W [(w.heap.size, 26, #[.bool b, .slice A xs.length c])] [] := by
    rw [hW]
    have h := ((Mo.start w).alloc (t := 26) (cs := #[.bool b, .slice A xs.length c]) (nd_int _ _ _ _))
    simp only [size_alloc, List.nil_append, List.cons_append] at h
    exact h
  clear hW
  have H_W := Lib.hid H_W
  have k0Wc0 := ((H_W.out.var 0 rfl)).cell 0 rfl
  have k0Wc1 := ((H_W.out.var 0 rfl)).cell 1 rfl
  have H_Wd := Lib.hid H_W.out.drew
  first
  | go_region_held3 (fun w' => w'.cell? ⟨w.heap.size, 0, none⟩ = some (.bool b) ∧ w'.cell? ⟨w.heap.size, 1, none⟩ = some (.slice A xs.length c)) (go_keep)
     (first
      | (go_at_call 74
         refine (iof_ok _ lo (by omega) (by omega)).mono ?_
         rintro e_ w8 ⟨b8, A8, c8, z8, rfl, HB8, HZ8, hz8, hB⟩
         have H_w8 := Lib.hid (Mo.num (Mo.call H_Wd.out hB) hz8)
         have k0w8c0 := ((H_w8.out.var 0 rfl)).cell 0 rfl
         have k0w8c1 := ((H_w8.out.var 0 rfl)).cell 1 rfl
         have HLO8 : Hid (z8.length ≤ 1) := by show _ ≤ _; rw [HZ8.out]; refine limbs_len ?_; rw [pw_succ, pw_zero]; omega
         clear hB hz8)
      | (go_at_call 57
         refine (icmp_ok w8 b b8 A A8 c c8 xs z8 (HX.out.below H_w8.out.below) (H_w8.out.rn 0 rfl) hs (by have := HLO8.out; omega)).mono ?_
         rw [HK.out, HB8.out, HZ8.out, zv_norm]
         rintro e_ v8 ⟨rfl, hB⟩
         have H_v8 := Lib.hid (Mo.call H_w8.out hB)
         have k0v8c0 := ((H_v8.out.var 0 rfl)).cell 0 rfl
         have k0v8c1 := ((H_v8.out.var 0 rfl)).cell 1 rfl
         clear hB))
  | fail
  rcases (show K < lo ∨ lo = K ∨ lo < K by omega) with h | h | h
  · have HC : Hid (limI K lo hi = lo) := by show _ = _; unfold limI; rw [if_pos h]
    rw [cmpI_lt h]
    clear h
    go_wp2_with fail
    go_ret
    exact ⟨by rw [HC.out]; rfl, H_v8.out.below⟩
  · have H1 : Hid (lo ≤ K) := by show _ ≤ _; omega
    rw [cmpI_eq h.symm]
    clear h
    go_upto_region 3 with fail
    have k0v8c0 := ((H_v8.out.var 0 rfl)).cell 0 rfl
    have k0v8c1 := ((H_v8.out.var 0 rfl)).cell 1 rfl
    have H_v8d := Lib.hid H_v8.out.drew
    first
    | go_region_held3 (fun w' => w'.cell? ⟨w.heap.size, 0, none⟩ = some (.bool b) ∧ w'.cell? ⟨w.heap.size, 1, none⟩ = some (.slice A xs.length c)) (go_keep)
       (first
        | (go_at_call 74
           refine (iof_ok _ hi (by omega) (by omega)).mono ?_
           rintro e_ w9 ⟨b9, A9, c9, z9, rfl, HB9, HZ9, hz9, hB⟩
           have H_w9 := Lib.hid (Mo.num (Mo.call H_v8d.out hB) hz9)
           have k0w9c0 := ((H_w9.out.var 0 rfl)).cell 0 rfl
           have k0w9c1 := ((H_w9.out.var 0 rfl)).cell 1 rfl
           have HLO9 : Hid (z9.length ≤ 1) := by show _ ≤ _; rw [HZ9.out]; refine limbs_len ?_; rw [pw_succ, pw_zero]; omega
           clear hB hz9)
        | (go_at_call 57
           refine (icmp_ok w9 b b9 A A9 c c9 xs z9 (HX.out.below H_w9.out.below) (H_w9.out.rn 1 rfl) hs (by have := HLO9.out; omega)).mono ?_
           rw [HK.out, HB9.out, HZ9.out, zv_norm]
           rintro e_ v9 ⟨rfl, hB⟩
           have H_v9 := Lib.hid (Mo.call H_w9.out hB)
           have k0v9c0 := ((H_v9.out.var 0 rfl)).cell 0 rfl
           have k0v9c1 := ((H_v9.out.var 0 rfl)).cell 1 rfl
           clear hB))
    | fail
    rcases (show hi < K ∨ K = hi ∨ K < hi by omega) with h | h | h
    · have HC : Hid (limI K lo hi = hi) := by show _ = _; have := H1.out; unfold limI; rw [if_neg (by omega), if_pos h]
      rw [cmpI_gt h]
      clear h
      go_wp2_with fail
      go_ret
      exact ⟨by rw [HC.out]; rfl, H_v9.out.below⟩
    · have HC : Hid (limI K lo hi = K) := by show _ = _; have := H1.out; unfold limI; rw [if_neg (by omega), if_neg (by omega)]
      rw [cmpI_eq h]
      have hv5 : V xs ≤ 4294967295 := by
        have h1 := H1.out
        have h2 := HK.out
        have h3 := zv_abs b HX.out.2
        have h4 := V_nonneg HX.out.2
        omega
      clear h
      have k0v9c0 := ((H_v9.out.var 0 rfl)).cell 0 rfl
      have k0v9c1 := ((H_v9.out.var 0 rfl)).cell 1 rfl
      go_wp2_with fail
      refine (int64_ok v9 b A c xs (HX.out.below H_v9.out.below) hv5).mono ?_
      rw [HK.out]
      rintro e_ u1 ⟨rfl, hB⟩
      have H_u1 := Lib.hid (Mo.call H_v9.out hB)
      clear hB
      go_wp2_with fail
      go_ret
      exact ⟨by rw [HC.out]; rfl, H_u1.out.below⟩
    · have HC : Hid (limI K lo hi = K) := by show _ = _; have := H1.out; unfold limI; rw [if_neg (by omega), if_neg (by omega)]
      rw [cmpI_lt h]
      have hv5 : V xs ≤ 4294967295 := by
        have h1 := H1.out
        have h2 := HK.out
        have h3 := zv_abs b HX.out.2
        have h4 := V_nonneg HX.out.2
        omega
      clear h
      have k0v9c0 := ((H_v9.out.var 0 rfl)).cell 0 rfl
      have k0v9c1 := ((H_v9.out.var 0 rfl)).cell 1 rfl
      go_wp2_with fail
      refine (int64_ok v9 b A c xs (HX.out.below H_v9.out.below) hv5).mono ?_
      rw [HK.out]
      rintro e_ u1 ⟨rfl, hB⟩
      have H_u1 := Lib.hid (Mo.call H_v9.out hB)
      clear hB
      go_wp2_with fail
      go_ret
      exact ⟨by rw [HC.out]; rfl, H_u1.out.below⟩
  · have H1 : Hid (lo ≤ K) := by show _ ≤ _; omega
    rw [cmpI_gt h]
    clear h
    go_upto_region 3 with fail
    have k0v8c0 := ((H_v8.out.var 0 rfl)).cell 0 rfl
    have k0v8c1 := ((H_v8.out.var 0 rfl)).cell 1 rfl
    have H_v8d := Lib.hid H_v8.out.drew
    first
    | go_region_held3 (fun w' => w'.cell? ⟨w.heap.size, 0, none⟩ = some (.bool b) ∧ w'.cell? ⟨w.heap.size, 1, none⟩ = some (.slice A xs.length c)) (go_keep)
       (first
        | (go_at_call 74
           refine (iof_ok _ hi (by omega) (by omega)).mono ?_
           rintro e_ w9 ⟨b9, A9, c9, z9, rfl, HB9, HZ9, hz9, hB⟩
           have H_w9 := Lib.hid (Mo.num (Mo.call H_v8d.out hB) hz9)
           have k0w9c0 := ((H_w9.out.var 0 rfl)).cell 0 rfl
           have k0w9c1 := ((H_w9.out.var 0 rfl)).cell 1 rfl
           have HLO9 : Hid (z9.length ≤ 1) := by show _ ≤ _; rw [HZ9.out]; refine limbs_len ?_; rw [pw_succ, pw_zero]; omega
           clear hB hz9)
        | (go_at_call 57
           refine (icmp_ok w9 b b9 A A9 c c9 xs z9 (HX.out.below H_w9.out.below) (H_w9.out.rn 1 rfl) hs (by have := HLO9.out; omega)).mono ?_
           rw [HK.out, HB9.out, HZ9.out, zv_norm]
           rintro e_ v9 ⟨rfl, hB⟩
           have H_v9 := Lib.hid (Mo.call H_w9.out hB)
           have k0v9c0 := ((H_v9.out.var 0 rfl)).cell 0 rfl
           have k0v9c1 := ((H_v9.out.var 0 rfl)).cell 1 rfl
           clear hB))
    | fail
    rcases (show hi < K ∨ K = hi ∨ K < hi by omega) with h | h | h
    · have HC : Hid (limI K lo hi = hi) := by show _ = _; have := H1.out; unfold limI; rw [if_neg (by omega), if_pos h]
      rw [cmpI_gt h]
      clear h
      go_wp2_with fail
      go_ret
      exact ⟨by rw [HC.out]; rfl, H_v9.out.below⟩
    · have HC : Hid (limI K lo hi = K) := by show _ = _; have := H1.out; unfold limI; rw [if_neg (by omega), if_neg (by omega)]
      rw [cmpI_eq h]
      have hv5 : V xs ≤ 4294967295 := by
        have h1 := H1.out
        have h2 := HK.out
        have h3 := zv_abs b HX.out.2
        have h4 := V_nonneg HX.out.2
        omega
      clear h
      have k0v9c0 := ((H_v9.out.var 0 rfl)).cell 0 rfl
      have k0v9c1 := ((H_v9.out.var 0 rfl)).cell 1 rfl
      go_wp2_with fail
      refine (int64_ok v9 b A c xs (HX.out.below H_v9.out.below) hv5).mono ?_
      rw [HK.out]
      rintro e_ u1 ⟨rfl, hB⟩
      have H_u1 := Lib.hid (Mo.call H_v9.out hB)
      clear hB
      go_wp2_with fail
      go_ret
      exact ⟨by rw [HC.out]; rfl, H_u1.out.below⟩
    · have HC : Hid (limI K lo hi = K) := by show _ = _; have := H1.out; unfold limI; rw [if_neg (by omega), if_neg (by omega)]
      rw [cmpI_lt h]
      have hv5 : V xs ≤ 4294967295 := by
        have h1 := H1.out
        have h2 := HK.out
        have h3 := zv_abs b HX.out.2
        have h4 := V_nonneg HX.out.2
        omega
      clear h
      have k0v9c0 := ((H_v9.out.var 0 rfl)).cell 0 rfl
      have k0v9c1 := ((H_v9.out.var 0 rfl)).cell 1 rfl
      go_wp2_with fail
      refine (int64_ok v9 b A c xs (HX.out.below H_v9.out.below) hv5).mono ?_
      rw [HK.out]
      rintro e_ u1 ⟨rfl, hB⟩
      have H_u1 := Lib.hid (Mo.call H_v9.out hB)
      clear hB
      go_wp2_with fail
      go_ret
      exact ⟨by rw [HC.out]; rfl, H_u1.out.below⟩

set_option maxHeartbeats 3200000 in
theorem rounded_ok (w : World) (S : Option Addr) (cS : Nat) (rs : List Rt) (mode lo hi : Int) (hrs : Rs w S cS rs) (hsm : ∀ (j : Nat) (r : Rt), rs[j]? = some r → r.xs.length ≤ 35184372088000 ∧ r.ys.length ≤ 35184372088000) :
    Calls Tryz.prog 19 #[.slice S rs.length cS, .int .i64 mode, .int .i64 lo, .int .i64 hi] w (RetLs (roundV rs mode lo hi) (roundE rs.length mode lo hi) w) := by
  have HRS := Lib.hid hrs
  have HSM := Lib.hid hsm
  clear hrs hsm
  go_enter Tryz.func19, Tryz.ntmps19
  have hrl : rs.length ≤ 9223372036854775807 := Nat.le_trans HRS.out.1 HRS.out.2.1
  by_cases h0 : 61 < rs.length
  · have e0 : decide (61 < rs.length) = true := decide_eq_true h0
    have e0x : decide ((61 : Int) < (rs.length : Int)) = true := decide_eq_true (by omega)
    have HE : Hid (roundE rs.length mode lo hi = 5) := by show _ = _; unfold roundE; rw [if_pos (by omega)]
    go_wp2_with fail
    go_ret2
    exact ⟨none, 0, [], by rw [HE.out]; rfl, by show _ = _; unfold roundV; rw [HE.out, if_neg (by decide)], ⟨Nat.le_refl _, by omega, fun j hj => by simp at hj⟩, Below.refl _ _⟩
  have e0 : decide (61 < rs.length) = false := decide_eq_false h0
  have e0x : decide ((61 : Int) < (rs.length : Int)) = false := decide_eq_false (by omega)
  by_cases h1 : mode < 1
  · have e1 : decide (mode < 1) = true := decide_eq_true h1
    have HE : Hid (roundE rs.length mode lo hi = 1) := by show _ = _; unfold roundE; rw [if_neg (by omega), if_pos (by omega)]
    go_wp2_with fail
    go_ret2
    exact ⟨none, 0, [], by rw [HE.out]; rfl, by show _ = _; unfold roundV; rw [HE.out, if_neg (by decide)], ⟨Nat.le_refl _, by omega, fun j hj => by simp at hj⟩, Below.refl _ _⟩
  have e1 : decide (mode < 1) = false := decide_eq_false h1
  by_cases h2 : 7 < mode
  · have e2 : decide (7 < mode) = true := decide_eq_true h2
    have HE : Hid (roundE rs.length mode lo hi = 1) := by show _ = _; unfold roundE; rw [if_neg (by omega), if_pos (by omega)]
    go_wp2_with fail
    go_ret2
    exact ⟨none, 0, [], by rw [HE.out]; rfl, by show _ = _; unfold roundV; rw [HE.out, if_neg (by decide)], ⟨Nat.le_refl _, by omega, fun j hj => by simp at hj⟩, Below.refl _ _⟩
  have e2 : decide (7 < mode) = false := decide_eq_false h2
  by_cases h3 : lo < -1000000
  · have e3 : decide (lo < -1000000) = true := decide_eq_true h3
    have HE : Hid (roundE rs.length mode lo hi = 3) := by show _ = _; unfold roundE; rw [if_neg (by omega), if_neg (by omega), if_pos (by omega)]
    go_wp2_with fail
    go_ret2
    exact ⟨none, 0, [], by rw [HE.out]; rfl, by show _ = _; unfold roundV; rw [HE.out, if_neg (by decide)], ⟨Nat.le_refl _, by omega, fun j hj => by simp at hj⟩, Below.refl _ _⟩
  have e3 : decide (lo < -1000000) = false := decide_eq_false h3
  by_cases h4 : 1000000 < lo
  · have e4 : decide (1000000 < lo) = true := decide_eq_true h4
    have HE : Hid (roundE rs.length mode lo hi = 3) := by show _ = _; unfold roundE; rw [if_neg (by omega), if_neg (by omega), if_pos (by omega)]
    go_wp2_with fail
    go_ret2
    exact ⟨none, 0, [], by rw [HE.out]; rfl, by show _ = _; unfold roundV; rw [HE.out, if_neg (by decide)], ⟨Nat.le_refl _, by omega, fun j hj => by simp at hj⟩, Below.refl _ _⟩
  have e4 : decide (1000000 < lo) = false := decide_eq_false h4
  by_cases h5 : hi < -1000000
  · have e5 : decide (hi < -1000000) = true := decide_eq_true h5
    have HE : Hid (roundE rs.length mode lo hi = 3) := by show _ = _; unfold roundE; rw [if_neg (by omega), if_neg (by omega), if_pos (by omega)]
    go_wp2_with fail
    go_ret2
    exact ⟨none, 0, [], by rw [HE.out]; rfl, by show _ = _; unfold roundV; rw [HE.out, if_neg (by decide)], ⟨Nat.le_refl _, by omega, fun j hj => by simp at hj⟩, Below.refl _ _⟩
  have e5 : decide (hi < -1000000) = false := decide_eq_false h5
  by_cases h6 : 1000000 < hi
  · have e6 : decide (1000000 < hi) = true := decide_eq_true h6
    have HE : Hid (roundE rs.length mode lo hi = 3) := by show _ = _; unfold roundE; rw [if_neg (by omega), if_neg (by omega), if_pos (by omega)]
    go_wp2_with fail
    go_ret2
    exact ⟨none, 0, [], by rw [HE.out]; rfl, by show _ = _; unfold roundV; rw [HE.out, if_neg (by decide)], ⟨Nat.le_refl _, by omega, fun j hj => by simp at hj⟩, Below.refl _ _⟩
  have e6 : decide (1000000 < hi) = false := decide_eq_false h6
  by_cases h7 : hi < lo
  · have e7 : decide (hi < lo) = true := decide_eq_true h7
    have HE : Hid (roundE rs.length mode lo hi = 23) := by show _ = _; unfold roundE; rw [if_neg (by omega), if_neg (by omega), if_neg (by omega), if_pos (by omega)]
    go_wp2_with fail
    go_ret2
    exact ⟨none, 0, [], by rw [HE.out]; rfl, by show _ = _; unfold roundV; rw [HE.out, if_neg (by decide)], ⟨Nat.le_refl _, by omega, fun j hj => by simp at hj⟩, Below.refl _ _⟩
  have e7 : decide (hi < lo) = false := decide_eq_false h7
  have HE : Hid (roundE rs.length mode lo hi = 0) := by show _ = _; unfold roundE; rw [if_neg (by omega), if_neg (by omega), if_neg (by omega), if_neg (by omega)]
  have hm : 1 ≤ mode ∧ mode ≤ 7 := by omega
  have hlo : -1000000 ≤ lo ∧ lo ≤ 1000000 := by omega
  have hhi : -1000000 ≤ hi ∧ hi ≤ 1000000 := by omega
  have hl61 : rs.length ≤ 61 := by omega
  obtain ⟨i0, hi0, hz0, hz1, hz2⟩ := info_parts info_intE
  have hmk : ∀ W : World, (Instr.makeSlice 22 (.int .i64 0) (.int .i64 (rs.length : Int))).run Tryz.prog W = .ok (.slice (some ⟨W.heap.size, 0, none⟩) 0 rs.length) (W.alloc (.cells (madeCells #[.int .i64 0] rs.length) 3)) := by
    intro W
    have h := run_make (P := Tryz.prog) W 22 3 i0 _ Tryz.underlying22 hi0 hz0 .i64 .i64 0 (rs.length : Int) (by omega) (by omega) (by rw [hz2]; omega) (by omega)
    rw [hz1, Nat.mul_one] at h
    exact h
  have hown := World.ownsRow_made (base := w.heap.size) (e := 3) (size := 1) w (madeCells #[.int .i64 0] rs.length) rs.length (Nat.le_refl _) (by simp only [maxLen]; omega) (by simp [size_madeCells])
  have HO := Lib.hid hown
  clear hown
  go_wp2_with fail
  clear hmk
  go_loopw [10, 12, 13, 14, 50] (fun ov v12 v13 v14 iv wr => ∃ (k : Nat) (l : List Int), iv = .int .i64 (k : Int) ∧ k ≤ rs.length ∧ Hid (l = roundL (rs.take k) mode lo hi) ∧ OwnI wr w.heap.size 3 .i64 ov l ∧ Hid (Below w.heap.size w wr)) (fun _ _ _ _ iv _ => rs.length - (intOf iv).toNat)
  case atStart => exact ⟨0, [], rfl, Nat.zero_le _, by simp [Hid, roundL], HO.out, (Below.refl _ w).alloc (Nat.le_refl _) _⟩
  case round =>
    clear HO e0 e0x
    obtain ⟨k, l, rfl, hk, HL, HO, HB⟩ := hrel
    obtain ⟨A10, c10, rfl, hr10⟩ := own_rk HO
    have HR10 := Lib.hid hr10
    clear hr10
    have hll : l.length ≤ 61 := by rw [HL.out]; unfold roundL; rw [List.length_map, List.length_take]; omega
    by_cases hlt : k < rs.length
    · have d1 : decide ((k : Int) < (rs.length : Int)) = true := decide_eq_true (by omega)
      have H_wr : Hid (Mo w wr [] []) := (Mo.start w).call HB.out
      obtain ⟨ad, b, A, c2, xs, B, d, ys, rfl, hr, h0_, h1_, h2_, h3_, h4_⟩ := (HRS.out.below HB.out).at hlt
      have HR := Lib.hid hr
      have H3 := Lib.hid h3_
      have H4 := Lib.hid h4_
      clear hr h3_ h4_
      have hsm : xs.length ≤ 35184372088000 ∧ ys.length ≤ 35184372088000 := HSM.out _ _ HR.out
      obtain ⟨q, hq⟩ : ∃ q, qv b xs ys = q := ⟨_, rfl⟩
      have HQ := Lib.hid hq
      have HLN : Hid (l ++ [limI (rnd q mode) lo hi] = roundL (rs.take (k + 1)) mode lo hi) := by show _ = _; rw [roundL_next HR.out, HL.out, ← hq]; rfl
      have HLQ : Hid ((limbs (rnd q mode).natAbs).length ≤ 35184372088010) := by show _ ≤ _; rw [← hq]; exact Nat.le_trans (rnd_lenE _ _ (qlen (b := b) H3.out.2 H4.out.2).1) (by have := hsm.1; omega)
      clear hq
      go_upto_region 13 with fail
      obtain ⟨T, hT⟩ : ∃ T, T = wr.alloc (.cells #[.bool b, .slice A xs.length c2, .slice B ys.length d] 28) := ⟨_, rfl⟩
      rw [← hT]
      have HBT : Hid (Below wr.heap.size wr T) := by rw [hT]; exact (Below.refl _ _).alloc (Nat.le_refl _) _
      have HOT : OwnI T w.heap.size 3 .i64 (.slice A10 l.length c10) l := by rw [hT]; exact World.ownsRow.alloc HO _
      have H_T : Hid (Mo w T _ _) := Lib.hid (by rw [hT]; exact H_wr.out.alloc (t := 28) (cs := #[.bool b, .slice A xs.length c2, .slice B ys.length d]) (nd_rat _ _ _ _ _ _ _))
      clear hT
      have k0Tc0 := ((H_T.out.var 0 rfl)).cell 0 rfl
      have k0Tc1 := ((H_T.out.var 0 rfl)).cell 1 rfl
      have k0Tc2 := ((H_T.out.var 0 rfl)).cell 2 rfl
      have HOTH := Lib.hid HOT
      clear HO HOT
      go_wp2_with fail
      refine (integer_ok T b A B c2 d xs ys mode (H3.out.below HBT.out) (H4.out.below HBT.out) (by have := hsm.1; omega) (by have := hsm.2; omega) hm).mono ?_
      rw [HQ.out]
      rintro e_ w5 ⟨b5, A5, c5, z5, rfl, HB5, HZ5, hz5, hB⟩
      have H_w5 := Lib.hid (Mo.num (Mo.call H_T.out hB) hz5)
      have HB5W := Lib.hid (below_seq HB.out (below_seq HBT.out hB))
      have HO5 := Lib.hid (HOTH.out.below hB)
      clear hB hz5
      go_upto_region 14 with fail
      obtain ⟨Y, hY⟩ : ∃ Y, Y = w5.alloc (.cells #[.bool b5, .slice A5 z5.length c5] 26) := ⟨_, rfl⟩
      rw [← hY]
      have HBY : Hid (Below w.heap.size w Y) := by rw [hY]; exact HB5W.out.alloc HB5W.out.size _
      have HOY : Hid (OwnI Y w.heap.size 3 .i64 (.slice A10 l.length c10) l) := by rw [hY]; exact World.ownsRow.alloc HO5.out _
      have H_Y : Hid (Mo w Y _ _) := Lib.hid (by rw [hY]; exact H_w5.out.alloc (t := 26) (cs := #[.bool b5, .slice A5 z5.length c5]) (nd_int _ _ _ _))
      clear hY
      have k1Yc0 := ((H_Y.out.var 1 rfl)).cell 0 rfl
      have k1Yc1 := ((H_Y.out.var 1 rfl)).cell 1 rfl
      go_wp2_with fail
      refine (limit_ok Y b5 A5 c5 z5 lo hi (H_Y.out.rn 0 rfl) (by rw [HZ5.out]; have := HLQ.out; omega) hlo hhi).mono ?_
      rw [show zv b5 z5 = rnd q mode from by rw [HB5.out, HZ5.out]; exact zv_norm _]
      rintro e_ w6 ⟨rfl, hB⟩
      have H_w6 := Lib.hid (Mo.call H_Y.out hB)
      have HB6 := below_seq HBY.out hB
      have HO6 := HOY.out.below hB
      clear hB
      obtain ⟨s, hs⟩ : ∃ s, limI (rnd q mode) lo hi = s := ⟨_, rfl⟩
      rw [hs] at HLN ⊢
      clear hs HB HB5W HO5 HBT HBY HOY HOTH
      go_wp2_with (at_builtin; refine wpList_append2 rfl _ _ 22 rfl Tryz.underlying22 hi0 hz0 hz1 hz2 rfl rfl HO6 HB6 HB6.size ?_ ?_; (omega))
      intro v1 w7 HO7 HB7 HG7 HM7
      clear HG7 HM7 HO6 HB6
      go_wp2_with fail
      go_roundw
      case rel => exact ⟨k + 1, l ++ [s], by go_num, hlt, HLN, HO7, HB7⟩
      case measure => simp [intOf]; omega
    · have d1 : decide ((k : Int) < (rs.length : Int)) = false := decide_eq_false (by omega)
      have d2 : decide (k < rs.length) = false := decide_eq_false hlt
      have HF : Hid (l = roundV rs mode lo hi) := by show _ = _; unfold roundV; rw [HE.out, if_pos rfl, HL.out, List.take_of_length_le (by omega)]
      clear HO
      go_wp2_with fail
      go_ret2
      exact ⟨A10, c10, l, by rw [HE.out]; rfl, HF, HR10.out, HB.out⟩

end Go.Proofs.YtocpncjmcaecoaaGreat.M
