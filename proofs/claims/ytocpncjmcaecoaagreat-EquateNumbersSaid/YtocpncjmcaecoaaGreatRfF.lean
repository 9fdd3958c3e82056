/- Rounded tables by the reference. -/
import Derived.Test.YtocpncjmcaecoaaGreatRfA
import Derived.Test.YtocpncjmcaecoaaGreatEqE
import Derived.Test.YtocpncjmcaecoaaGreatRefDec
namespace Go.Proofs.YtocpncjmcaecoaaGreat.M
set_option maxRecDepth 10000
open Go.RowKit
set_option linter.unusedVariables false
set_option linter.unusedSimpArgs false

set_option maxHeartbeats 6400000 in
theorem rrounded_ok (w : World) (S : Option Addr) (cS : Nat) (rs : List Rt) (mode lo hi : Int) (hrs : Rs w S cS rs) (hsm : ∀ (j : Nat) (r : Rt), rs[j]? = some r → r.xs.length ≤ 35184372088000 ∧ r.ys.length ≤ 35184372088000) :
    Calls Tryz.prog 20 #[.slice S rs.length cS, .int .i64 mode, .int .i64 lo, .int .i64 hi] w (RetLs (roundV rs mode lo hi) (roundE rs.length mode lo hi) w) := by
  have HRS := Lib.hid hrs
  have HSM := Lib.hid hsm
  clear hrs hsm
  go_enter Tryz.func20, Tryz.ntmps20
  have hrl : rs.length ≤ 9223372036854775807 := Nat.le_trans HRS.out.1 HRS.out.2.1
  by_cases h0 : 61 < rs.length
  · have e0 : decide (61 < rs.length) = true := decide_eq_true h0
    have e0x : decide ((61 : Int) < (rs.length : Int)) = true := decide_eq_true (by omega)
    have HE : Hid (roundE rs.length mode lo hi = 5) := by show _ = _; unfold roundE; rw [if_pos (by omega)]
    go_wp2_with fail
    go_ret2
    exact ⟨none, 0, [], by rw [HE.out]; rfl, by show _ = _; unfold roundV; rw [HE.out, if_neg (by decide)], ⟨Nat.le_refl _, by omega, fun j hj => by simp at hj⟩, Below.refl _ _⟩
  have e0 : decide (61 < rs.length) = false := decide_eq_false h0
  have e0x : decide ((61 : Int) < (rs.length : Int)) = false := decide_eq_false (by omega)
  by_cases h1 : mode < 1
  · have e1 : decide (mode < 1) = true := decide_eq_true h1
    have HE : Hid (roundE rs.length mode lo hi = 1) := by show _ = _; unfold roundE; rw [if_neg (by omega), if_pos (by omega)]
    go_wp2_with fail
    go_ret2
    exact ⟨none, 0, [], by rw [HE.out]; rfl, by show _ = _; unfold roundV; rw [HE.out, if_neg (by decide)], ⟨Nat.le_refl _, by omega, fun j hj => by simp at hj⟩, Below.refl _ _⟩
  have e1 : decide (mode < 1) = false := decide_eq_false h1
  by_cases h2 : 7 < mode
  · have e2 : decide (7 < mode) = true := decide_eq_true h2
    have HE : Hid (roundE rs.length mode lo hi = 1) := by show _ = _; unfold roundE; rw [if_neg (by omega), if_pos (by omega)]
    go_wp2_with fail
    go_ret2
    exact ⟨none, 0, [], by rw [HE.out]; rfl, by show _ = _; unfold roundV; rw [HE.out, if_neg (by decide)], ⟨Nat.le_refl _, by omega, fun j hj => by simp at hj⟩, Below.refl _ _⟩
  have e2 : decide (7 < mode) = false := decide_eq_false h2
  by_cases h3 : lo < -1000000
  · have e3 : decide (lo < -1000000) = true := decide_eq_true h3
    have HE : Hid (roundE rs.length mode lo hi = 3) := by show _ = _; unfold roundE; rw [if_neg (by omega), if_neg (by omega), if_pos (by omega)]
    go_wp2_with fail
    go_ret2
    exact ⟨none, 0, [], by rw [HE.out]; rfl, by show _ = _; unfold roundV; rw [HE.out, if_neg (by decide)], ⟨Nat.le_refl _, by omega, fun j hj => by simp at hj⟩, Below.refl _ _⟩
  have e3 : decide (lo < -1000000) = false := decide_eq_false h3
  by_cases h4 : 1000000 < lo
  · have e4 : decide (1000000 < lo) = true := decide_eq_true h4
    have HE : Hid (roundE rs.length mode lo hi = 3) := by show _ = _; unfold roundE; rw [if_neg (by omega), if_neg (by omega), if_pos (by omega)]
    go_wp2_with fail
    go_ret2
    exact ⟨none, 0, [], by rw [HE.out]; rfl, by show _ = _; unfold roundV; rw [HE.out, if_neg (by decide)], ⟨Nat.le_refl _, by omega, fun j hj => by simp at hj⟩, Below.refl _ _⟩
  have e4 : decide (1000000 < lo) = false := decide_eq_false h4
  by_cases h5 : hi < -1000000
  · have e5 : decide (hi < -1000000) = true := decide_eq_true h5
    have HE : Hid (roundE rs.length mode lo hi = 3) := by show _ = _; unfold roundE; rw [if_neg (by omega), if_neg (by omega), if_pos (by omega)]
    go_wp2_with fail
    go_ret2
    exact ⟨none, 0, [], by rw [HE.out]; rfl, by show _ = _; unfold roundV; rw [HE.out, if_neg (by decide)], ⟨Nat.le_refl _, by omega, fun j hj => by simp at hj⟩, Below.refl _ _⟩
  have e5 : decide (hi < -1000000) = false := decide_eq_false h5
  by_cases h6 : 1000000 < hi
  · have e6 : decide (1000000 < hi) = true := decide_eq_true h6
    have HE : Hid (roundE rs.length mode lo hi = 3) := by show _ = _; unfold roundE; rw [if_neg (by omega), if_neg (by omega), if_pos (by omega)]
    go_wp2_with fail
    go_ret2
    exact ⟨none, 0, [], by rw [HE.out]; rfl, by show _ = _; unfold roundV; rw [HE.out, if_neg (by decide)], ⟨Nat.le_refl _, by omega, fun j hj => by simp at hj⟩, Below.refl _ _⟩
  have e6 : decide (1000000 < hi) = false := decide_eq_false h6
  by_cases h7 : hi < lo
  · have e7 : decide (hi < lo) = true := decide_eq_true h7
    have HE : Hid (roundE rs.length mode lo hi = 23) := by show _ = _; unfold roundE; rw [if_neg (by omega), if_neg (by omega), if_neg (by omega), if_pos (by omega)]
    go_wp2_with fail
    go_ret2
    exact ⟨none, 0, [], by rw [HE.out]; rfl, by show _ = _; unfold roundV; rw [HE.out, if_neg (by decide)], ⟨Nat.le_refl _, by omega, fun j hj => by simp at hj⟩, Below.refl _ _⟩
  have e7 : decide (hi < lo) = false := decide_eq_false h7
  have HE : Hid (roundE rs.length mode lo hi = 0) := by show _ = _; unfold roundE; rw [if_neg (by omega), if_neg (by omega), if_neg (by omega), if_neg (by omega)]
  have hm : 1 ≤ mode ∧ mode ≤ 7 := by omega
  have hlo : -1000000 ≤ lo ∧ lo ≤ 1000000 := by omega
  have hhi : -1000000 ≤ hi ∧ hi ≤ 1000000 := by omega
  have hl61 : rs.length ≤ 61 := by omega
  obtain ⟨i0, hi0, hz0, hz1, hz2⟩ := info_parts info_intE
  go_wp2_with fail
  go_loopw [10, 12, 13, 14, 15, 16, 45] (fun ov v12 v13 v14 v15 v16 iv wr => ∃ (k : Nat) (l : List Int), iv = .int .i64 (k : Int) ∧ k ≤ rs.length ∧ Hid (l = roundL (rs.take k) mode lo hi) ∧ OwnI wr w.heap.size 3 .i64 ov l ∧ Hid (Below w.heap.size w wr)) (fun _ _ _ _ _ _ iv _ => rs.length - (intOf iv).toNat)
  case atStart => exact ⟨0, [], rfl, Nat.zero_le _, by simp [Hid, roundL], World.ownsRow_nil _ _ _ 1, Below.refl _ w⟩
  case round =>
    clear e0 e0x
    obtain ⟨k, l, rfl, hk, HL, HO, HB⟩ := hrel
    obtain ⟨A10, c10, rfl, hr10⟩ := own_rk HO
    have HR10 := Lib.hid hr10
    clear hr10
    have hll : l.length ≤ 61 := by rw [HL.out]; unfold roundL; rw [List.length_map, List.length_take]; omega
    by_cases hlt : k < rs.length
    · have d1 : decide ((k : Int) < (rs.length : Int)) = true := decide_eq_true (by omega)
      have H_wr : Hid (Mo w wr [] []) := (Mo.start w).call HB.out
      obtain ⟨ad, b, A, c2, xs, B, d, ys, rfl, hr, h0_, h1_, h2_, h3_, h4_⟩ := (HRS.out.below HB.out).at hlt
      have HR := Lib.hid hr
      have H3 := Lib.hid h3_
      have H4 := Lib.hid h4_
      clear hr h3_ h4_
      have hsm : xs.length ≤ 35184372088000 ∧ ys.length ≤ 35184372088000 := HSM.out _ _ HR.out
      obtain ⟨q, hq⟩ : ∃ q, qv b xs ys = q := ⟨_, rfl⟩
      have HQ := Lib.hid hq
      have HLN : Hid (l ++ [limI (rnd q mode) lo hi] = roundL (rs.take (k + 1)) mode lo hi) := by show _ = _; rw [roundL_next HR.out, HL.out, ← hq]; rfl
      have HLQ : Hid ((limbs (rnd q mode).natAbs).length ≤ 35184372088010) := by show _ ≤ _; rw [← hq]; exact Nat.le_trans (rnd_lenE _ _ (qlen (b := b) H3.out.2 H4.out.2).1) (by have := hsm.1; omega)
      obtain ⟨K, hK⟩ : ∃ K, rnd q mode = K := ⟨_, rfl⟩
      have HK := Lib.hid hK
      rw [hK] at HLN HLQ
      clear hq hK
      go_upto_region 13 with fail
      obtain ⟨T, hT⟩ : ∃ T, T = wr.alloc (.cells #[.bool b, .slice A xs.length c2, .slice B ys.length d] 28) := ⟨_, rfl⟩
      rw [← hT]
      have HBT : Hid (Below wr.heap.size wr T) := by rw [hT]; exact (Below.refl _ _).alloc (Nat.le_refl _) _
      have HOT : OwnI T w.heap.size 3 .i64 (.slice A10 l.length c10) l := by rw [hT]; exact World.ownsRow.alloc HO _
      have H_T : Hid (Mo w T _ _) := Lib.hid (by rw [hT]; exact H_wr.out.alloc (t := 28) (cs := #[.bool b, .slice A xs.length c2, .slice B ys.length d]) (nd_rat _ _ _ _ _ _ _))
      clear hT
      have k0Tc0 := ((H_T.out.var 0 rfl)).cell 0 rfl
      have k0Tc1 := ((H_T.out.var 0 rfl)).cell 1 rfl
      have k0Tc2 := ((H_T.out.var 0 rfl)).cell 2 rfl
      have HOTH := Lib.hid HOT
      clear HO HOT
      go_wp2_with fail
      refine (rinteger_ok T b A B c2 d xs ys (H3.out.below HBT.out) (H4.out.below HBT.out) (by have := hsm.1; omega) (by have := hsm.2; omega) mode hm).mono ?_
      rw [HQ.out, HK.out]
      rintro e_ w5 ⟨b5, A5, c5, z5, rfl, HB5, HZ5, hz5, hB⟩
      have H_w5 := Lib.hid (Mo.num (Mo.call H_T.out hB) hz5)
      have HB5W := Lib.hid (below_seq HB.out (below_seq HBT.out hB))
      have HO5 := Lib.hid (HOTH.out.below hB)
      clear hB hz5
      go_upto_region 14 with fail
      obtain ⟨Y, hY⟩ : ∃ Y, Y = w5.alloc (.cells #[.bool b5, .slice A5 z5.length c5] 26) := ⟨_, rfl⟩
      rw [← hY]
      have HBY : Hid (Below w.heap.size w Y) := by rw [hY]; exact HB5W.out.alloc HB5W.out.size _
      have HOY : Hid (OwnI Y w.heap.size 3 .i64 (.slice A10 l.length c10) l) := by rw [hY]; exact World.ownsRow.alloc HO5.out _
      have H_Y : Hid (Mo w Y _ _) := Lib.hid (by rw [hY]; exact H_w5.out.alloc (t := 26) (cs := #[.bool b5, .slice A5 z5.length c5]) (nd_int _ _ _ _))
      clear hY
      have HVZ : Hid (zv b5 z5 = K) := by show _ = _; rw [HB5.out, HZ5.out]; exact zv_norm _
      have HLZ : Hid (z5.length ≤ 35184372088010) := by show _ ≤ _; rw [HZ5.out]; exact HLQ.out
      clear HB HB5W HO5 HBT HOTH
      have k1Yc0 := ((H_Y.out.var 1 rfl)).cell 0 rfl
      have k1Yc1 := ((H_Y.out.var 1 rfl)).cell 1 rfl
      have H_Yd := Lib.hid H_Y.out.drew
      first
      | go_region_held3 (fun w' => w'.cell? ⟨w5.heap.size, 0, none⟩ = some (.bool b5) ∧ w'.cell? ⟨w5.heap.size, 1, none⟩ = some (.slice A5 z5.length c5)) (go_keep)
         (first
          | (go_at_call 48
             refine (riof_ok _ lo (by omega) (by omega)).mono ?_
             rintro e_ p8 ⟨b8, A8, c8, z8, rfl, HB8, HZ8, hz8, hB⟩
             have H_p8 := Lib.hid (Mo.num (Mo.call H_Yd.out hB) hz8)
             have k1p8c0 := ((H_p8.out.var 1 rfl)).cell 0 rfl
             have k1p8c1 := ((H_p8.out.var 1 rfl)).cell 1 rfl
             have HLO8 : Hid (z8.length ≤ 1) := by show _ ≤ _; rw [HZ8.out]; refine limbs_len ?_; rw [pw_succ, pw_zero]; omega
             have HBp8 := Lib.hid (below_seq HBY.out.drew hB)
             have HOp8 := Lib.hid (HOY.out.below (below_seq (Below.refl Y.heap.size Y).drew hB))
             clear hB hz8)
          | (go_at_call 47
             refine (ricmp_ok p8 b5 b8 A5 A8 c5 c8 z5 z8 (H_p8.out.rn 0 rfl) (H_p8.out.rn 1 rfl) (by have := HLZ.out; omega) (by have := HLO8.out; omega)).mono ?_
             rw [HVZ.out, HB8.out, HZ8.out, zv_norm]
             rintro e_ v8 ⟨rfl, hB⟩
             have H_v8 := Lib.hid (Mo.call H_p8.out hB)
             have k1v8c0 := ((H_v8.out.var 1 rfl)).cell 0 rfl
             have k1v8c1 := ((H_v8.out.var 1 rfl)).cell 1 rfl
             have HBv8 := Lib.hid (below_seq HBp8.out hB)
             have HOv8 := Lib.hid (HOp8.out.below hB)
             clear hB))
      | fail
      rcases (show K < lo ∨ lo = K ∨ lo < K by omega) with h | h | h
      · have HC : limI K lo hi = lo := by unfold limI; rw [if_pos h]
        rw [HC] at HLN
        rw [cmpI_lt h]
        have HOA := HOv8.out
        have HBA := HBv8.out
        clear h HC
        go_wp2_with (at_builtin; refine wpList_append2 rfl _ _ 22 rfl Tryz.underlying22 hi0 hz0 hz1 hz2 rfl rfl HOA HBA HBA.size ?_ ?_; (omega))
        intro v1 w7 HO7 HB7 HG7 HM7
        clear HG7 HM7 HOA HBA
        go_wp2_with fail
        go_roundw
        case rel => exact ⟨k + 1, l ++ [lo], by go_num, hlt, HLN, HO7, HB7⟩
        case measure => simp [intOf]; omega
      · have H1 : Hid (lo ≤ K) := by show _ ≤ _; omega
        rw [cmpI_eq h.symm]
        clear h
        go_upto_region 16 with fail
        have k1v8c0 := ((H_v8.out.var 1 rfl)).cell 0 rfl
        have k1v8c1 := ((H_v8.out.var 1 rfl)).cell 1 rfl
        have H_v8d := Lib.hid H_v8.out.drew
        first
        | go_region_held3 (fun w' => w'.cell? ⟨w5.heap.size, 0, none⟩ = some (.bool b5) ∧ w'.cell? ⟨w5.heap.size, 1, none⟩ = some (.slice A5 z5.length c5)) (go_keep)
           (first
            | (go_at_call 48
               refine (riof_ok _ hi (by omega) (by omega)).mono ?_
               rintro e_ p9 ⟨b9, A9, c9, z9, rfl, HB9, HZ9, hz9, hB⟩
               have H_p9 := Lib.hid (Mo.num (Mo.call H_v8d.out hB) hz9)
               have k1p9c0 := ((H_p9.out.var 1 rfl)).cell 0 rfl
               have k1p9c1 := ((H_p9.out.var 1 rfl)).cell 1 rfl
               have HLO9 : Hid (z9.length ≤ 1) := by show _ ≤ _; rw [HZ9.out]; refine limbs_len ?_; rw [pw_succ, pw_zero]; omega
               have HBp9 := Lib.hid (below_seq HBv8.out.drew hB)
               have HOp9 := Lib.hid (HOv8.out.below (below_seq (Below.refl v8.heap.size v8).drew hB))
               clear hB hz9)
            | (go_at_call 47
               refine (ricmp_ok p9 b5 b9 A5 A9 c5 c9 z5 z9 (H_p9.out.rn 0 rfl) (H_p9.out.rn 2 rfl) (by have := HLZ.out; omega) (by have := HLO9.out; omega)).mono ?_
               rw [HVZ.out, HB9.out, HZ9.out, zv_norm]
               rintro e_ v9 ⟨rfl, hB⟩
               have H_v9 := Lib.hid (Mo.call H_p9.out hB)
               have k1v9c0 := ((H_v9.out.var 1 rfl)).cell 0 rfl
               have k1v9c1 := ((H_v9.out.var 1 rfl)).cell 1 rfl
               have HBv9 := Lib.hid (below_seq HBp9.out hB)
               have HOv9 := Lib.hid (HOp9.out.below hB)
               clear hB))
        | fail
        rcases (show hi < K ∨ K = hi ∨ K < hi by omega) with h | h | h
        · have HC : limI K lo hi = hi := by have := H1.out; unfold limI; rw [if_neg (by omega), if_pos h]
          rw [HC] at HLN
          rw [cmpI_gt h]
          have HOA := HOv9.out
          have HBA := HBv9.out
          clear h HC
          go_wp2_with (at_builtin; refine wpList_append2 rfl _ _ 22 rfl Tryz.underlying22 hi0 hz0 hz1 hz2 rfl rfl HOA HBA HBA.size ?_ ?_; (omega))
          intro v1 w7 HO7 HB7 HG7 HM7
          clear HG7 HM7 HOA HBA
          go_wp2_with fail
          go_roundw
          case rel => exact ⟨k + 1, l ++ [hi], by go_num, hlt, HLN, HO7, HB7⟩
          case measure => simp [intOf]; omega
        · have HC : limI K lo hi = K := by have := H1.out; unfold limI; rw [if_neg (by omega), if_neg (by omega)]
          rw [HC] at HLN
          rw [cmpI_eq h]
          have hv5 : V z5 ≤ 4294967295 := by
            have h1 := H1.out
            have h2 := HVZ.out
            have h3 := zv_abs b5 ((H_v9.out.rn 0 rfl)).2
            have h4 := V_nonneg ((H_v9.out.rn 0 rfl)).2
            omega
          clear h HC
          have k1v9c0 := ((H_v9.out.var 1 rfl)).cell 0 rfl
          have k1v9c1 := ((H_v9.out.var 1 rfl)).cell 1 rfl
          go_wp2_with fail
          refine (riint64_ok v9 b5 A5 c5 z5 (H_v9.out.rn 0 rfl) (by have := HLZ.out; omega) hv5).mono ?_
          rw [HVZ.out]
          rintro e_ u1 ⟨rfl, hB⟩
          have H_u1 := Lib.hid (Mo.call H_v9.out hB)
          have HBA := below_seq HBv9.out hB
          have HOA := HOv9.out.below hB
          clear hB
          go_wp2_with (at_builtin; refine wpList_append2 rfl _ _ 22 rfl Tryz.underlying22 hi0 hz0 hz1 hz2 rfl rfl HOA HBA HBA.size ?_ ?_; (omega))
          intro v1 w7 HO7 HB7 HG7 HM7
          clear HG7 HM7 HOA HBA
          go_wp2_with fail
          go_roundw
          case rel => exact ⟨k + 1, l ++ [K], by go_num, hlt, HLN, HO7, HB7⟩
          case measure => simp [intOf]; omega
        · have HC : limI K lo hi = K := by have := H1.out; unfold limI; rw [if_neg (by omega), if_neg (by omega)]
          rw [HC] at HLN
          rw [cmpI_lt h]
          have hv5 : V z5 ≤ 4294967295 := by
            have h1 := H1.out
            have h2 := HVZ.out
            have h3 := zv_abs b5 ((H_v9.out.rn 0 rfl)).2
            have h4 := V_nonneg ((H_v9.out.rn 0 rfl)).2
            omega
          clear h HC
          have k1v9c0 := ((H_v9.out.var 1 rfl)).cell 0 rfl
          have k1v9c1 := ((H_v9.out.var 1 rfl)).cell 1 rfl
          go_wp2_with fail
          refine (riint64_ok v9 b5 A5 c5 z5 (H_v9.out.rn 0 rfl) (by have := HLZ.out; omega) hv5).mono ?_
          rw [HVZ.out]
          rintro e_ u1 ⟨rfl, hB⟩
          have H_u1 := Lib.hid (Mo.call H_v9.out hB)
          have HBA := below_seq HBv9.out hB
          have HOA := HOv9.out.below hB
          clear hB
          go_wp2_with (at_builtin; refine wpList_append2 rfl _ _ 22 rfl Tryz.underlying22 hi0 hz0 hz1 hz2 rfl rfl HOA HBA HBA.size ?_ ?_; (omega))
          intro v1 w7 HO7 HB7 HG7 HM7
          clear HG7 HM7 HOA HBA
          go_wp2_with fail
          go_roundw
          case rel => exact ⟨k + 1, l ++ [K], by go_num, hlt, HLN, HO7, HB7⟩
          case measure => simp [intOf]; omega
      · have H1 : Hid (lo ≤ K) := by show _ ≤ _; omega
        rw [cmpI_gt h]
        clear h
        go_upto_region 16 with fail
        have k1v8c0 := ((H_v8.out.var 1 rfl)).cell 0 rfl
        have k1v8c1 := ((H_v8.out.var 1 rfl)).cell 1 rfl
        have H_v8d := Lib.hid H_v8.out.drew
        first
        | go_region_held3 (fun w' => w'.cell? ⟨w5.heap.size, 0, none⟩ = some (.bool b5) ∧ w'.cell? ⟨w5.heap.size, 1, none⟩ = some (.slice A5 z5.length c5)) (go_keep)
           (first
            | (go_at_call 48
               refine (riof_ok _ hi (by omega) (by omega)).mono ?_
               rintro e_ p9 ⟨b9, A9, c9, z9, rfl, HB9, HZ9, hz9, hB⟩
               have H_p9 := Lib.hid (Mo.num (Mo.call H_v8d.out hB) hz9)
               have k1p9c0 := ((H_p9.out.var 1 rfl)).cell 0 rfl
               have k1p9c1 := ((H_p9.out.var 1 rfl)).cell 1 rfl
               have HLO9 : Hid (z9.length ≤ 1) := by show _ ≤ _; rw [HZ9.out]; refine limbs_len ?_; rw [pw_succ, pw_zero]; omega
               have HBp9 := Lib.hid (below_seq HBv8.out.drew hB)
               have HOp9 := Lib.hid (HOv8.out.below (below_seq (Below.refl v8.heap.size v8).drew hB))
               clear hB hz9)
            | (go_at_call 47
               refine (ricmp_ok p9 b5 b9 A5 A9 c5 c9 z5 z9 (H_p9.out.rn 0 rfl) (H_p9.out.rn 2 rfl) (by have := HLZ.out; omega) (by have := HLO9.out; omega)).mono ?_
               rw [HVZ.out, HB9.out, HZ9.out, zv_norm]
               rintro e_ v9 ⟨rfl, hB⟩
               have H_v9 := Lib.hid (Mo.call H_p9.out hB)
               have k1v9c0 := ((H_v9.out.var 1 rfl)).cell 0 rfl
               have k1v9c1 := ((H_v9.out.var 1 rfl)).cell 1 rfl
               have HBv9 := Lib.hid (below_seq HBp9.out hB)
               have HOv9 := Lib.hid (HOp9.out.below hB)
               clear hB))
        | fail
        rcases (show hi < K ∨ K = hi ∨ K < hi by omega) with h | h | h
        · have HC : limI K lo hi = hi := by have := H1.out; unfold limI; rw [if_neg (by omega), if_pos h]
          rw [HC] at HLN
          rw [cmpI_gt h]
          have HOA := HOv9.out
          have HBA := HBv9.out
          clear h HC
          go_wp2_with (at_builtin; refine wpList_append2 rfl _ _ 22 rfl Tryz.underlying22 hi0 hz0 hz1 hz2 rfl rfl HOA HBA HBA.size ?_ ?_; (omega))
          intro v1 w7 HO7 HB7 HG7 HM7
          clear HG7 HM7 HOA HBA
          go_wp2_with fail
          go_roundw
          case rel => exact ⟨k + 1, l ++ [hi], by go_num, hlt, HLN, HO7, HB7⟩
          case measure => simp [intOf]; omega
        · have HC : limI K lo hi = K := by have := H1.out; unfold limI; rw [if_neg (by omega), if_neg (by omega)]
          rw [HC] at HLN
          rw [cmpI_eq h]
          have hv5 : V z5 ≤ 4294967295 := by
            have h1 := H1.out
            have h2 := HVZ.out
            have h3 := zv_abs b5 ((H_v9.out.rn 0 rfl)).2
            have h4 := V_nonneg ((H_v9.out.rn 0 rfl)).2
            omega
          clear h HC
          have k1v9c0 := ((H_v9.out.var 1 rfl)).cell 0 rfl
          have k1v9c1 := ((H_v9.out.var 1 rfl)).cell 1 rfl
          go_wp2_with fail
          refine (riint64_ok v9 b5 A5 c5 z5 (H_v9.out.rn 0 rfl) (by have := HLZ.out; omega) hv5).mono ?_
          rw [HVZ.out]
          rintro e_ u1 ⟨rfl, hB⟩
          have H_u1 := Lib.hid (Mo.call H_v9.out hB)
          have HBA := below_seq HBv9.out hB
          have HOA := HOv9.out.below hB
          clear hB
          go_wp2_with (at_builtin; refine wpList_append2 rfl _ _ 22 rfl Tryz.underlying22 hi0 hz0 hz1 hz2 rfl rfl HOA HBA HBA.size ?_ ?_; (omega))
          intro v1 w7 HO7 HB7 HG7 HM7
          clear HG7 HM7 HOA HBA
          go_wp2_with fail
          go_roundw
          case rel => exact ⟨k + 1, l ++ [K], by go_num, hlt, HLN, HO7, HB7⟩
          case measure => simp [intOf]; omega
        · have HC : limI K lo hi = K := by have := H1.out; unfold limI; rw [if_neg (by omega), if_neg (by omega)]
          rw [HC] at HLN
          rw [cmpI_lt h]
          have hv5 : V z5 ≤ 4294967295 := by
            have h1 := H1.out
            have h2 := HVZ.out
            have h3 := zv_abs b5 ((H_v9.out.rn 0 rfl)).2
            have h4 := V_nonneg ((H_v9.out.rn 0 rfl)).2
            omega
          clear h HC
          have k1v9c0 := ((H_v9.out.var 1 rfl)).cell 0 rfl
          have k1v9c1 := ((H_v9.out.var 1 rfl)).cell 1 rfl
          go_wp2_with fail
          refine (riint64_ok v9 b5 A5 c5 z5 (H_v9.out.rn 0 rfl) (by have := HLZ.out; omega) hv5).mono ?_
          rw [HVZ.out]
          rintro e_ u1 ⟨rfl, hB⟩
          have H_u1 := Lib.hid (Mo.call H_v9.out hB)
          have HBA := below_seq HBv9.out hB
          have HOA := HOv9.out.below hB
          clear hB
          go_wp2_with (at_builtin; refine wpList_append2 rfl _ _ 22 rfl Tryz.underlying22 hi0 hz0 hz1 hz2 rfl rfl HOA HBA HBA.size ?_ ?_; (omega))
          intro v1 w7 HO7 HB7 HG7 HM7
          clear HG7 HM7 HOA HBA
          go_wp2_with fail
          go_roundw
          case rel => exact ⟨k + 1, l ++ [K], by go_num, hlt, HLN, HO7, HB7⟩
          case measure => simp [intOf]; omega
    · have d1 : decide ((k : Int) < (rs.length : Int)) = false := decide_eq_false (by omega)
      have d2 : decide (k < rs.length) = false := decide_eq_false hlt
      have HF : Hid (l = roundV rs mode lo hi) := by show _ = _; unfold roundV; rw [HE.out, if_pos rfl, HL.out, List.take_of_length_le (by omega)]
      clear HO
      go_wp2_with fail
      go_ret2
      exact ⟨A10, c10, l, by rw [HE.out]; rfl, HF, HR10.out, HB.out⟩

end Go.Proofs.YtocpncjmcaecoaaGreat.M
