/- The law EquateSpread: its walk. -/
import Derived.Test.YtocpncjmcaecoaaEqH
import Derived.Test.YtocpncjmcaecoaaSprP
namespace Go.Proofs.Ytocpncjmcaecoaa.M
set_option maxRecDepth 10000
open Go.RowKit
set_option linter.unusedVariables false
set_option linter.unusedSimpArgs false
theorem sz_mom {f : List Int} : sz (momM f) 2 ∧ sz (momV f) 8 := by
  unfold momM momV
  split
  · rename_i h
    obtain ⟨h1, h2, h3⟩ := valid_parts h
    have hb := sm_bound h2 h1 f.length (Nat.le_refl _)
    have ht := tot_bound h2 f.length (Nat.le_refl _)
    have hm : sz (meanQ f) 2 := sz_mk (by omega) (by omega) (by omega)
    refine ⟨hm, ?_⟩
    unfold varQ
    exact (sz_sub (sz_mk (by omega) (by omega) (by omega)) (sz_mul hm hm)).mono (by omega)
  · exact ⟨sz_zero.mono (by omega), sz_zero.mono (by omega)⟩

set_option maxHeartbeats 6400000 in
theorem spread_ok (w : World) (FA : Option Addr) (fc : Nat) (f : List Int) (hf : Rk w .i64 FA fc f) :
    Calls Try.prog 4 #[.slice FA f.length fc] w (RetT w) := by
  have HR := Lib.hid hf
  have hcl := hf.1
  have hcm := hf.2.1
  clear hf
  go_enter Try.func4, Try.ntmps4
  obtain ⟨E, hE⟩ : ∃ E, validE f = E := ⟨_, rfl⟩
  have HE := Lib.hid hE
  obtain ⟨mq, hmq⟩ : ∃ mq, momM f = mq := ⟨_, rfl⟩
  obtain ⟨vq, hvq⟩ : ∃ vq, momV f = vq := ⟨_, rfl⟩
  have HMQ := Lib.hid hmq
  have HVQ := Lib.hid hvq
  have HSZ : Hid (sz mq 2 ∧ sz vq 8) := by show _ ∧ _; rw [← hmq, ← hvq]; exact sz_mom
  clear hE hmq hvq
  have H_w : Hid (Mo w w [] []) := Mo.start w
  go_wp2_with fail
  refine (moments_ok w FA fc f HR.out).mono ?_
  rw [HMQ.out, HVQ.out, HE.out]
  rintro e_ w1 ⟨b10, A10, c10, x10, B10, d10, y10, b11, A11, c11, x11, B11, d11, y11, rfl, HQa10, HQb10, HQc10, HQa11, HQb11, HQc11, hx10, hy10, hx11, hy11, hB⟩
  have H_w1 := Lib.hid (Mo.num (Mo.num (Mo.num (Mo.num (Mo.call H_w.out hB) hx10) hy10) hx11) hy11)
  have HV10 : Hid (qv b10 x10 y10 = mq) := qv_nf HQa10.out HQb10.out HQc10.out
  have HL10 : Hid (x10.length ≤ 2 ∧ y10.length ≤ 2) := szl HQb10.out HQc10.out (HSZ.out.1)
  have HV11 : Hid (qv b11 x11 y11 = vq) := qv_nf HQa11.out HQb11.out HQc11.out
  have HL11 : Hid (x11.length ≤ 8 ∧ y11.length ≤ 8) := szl HQb11.out HQc11.out (HSZ.out.2)
  clear hB hx10 hy10 hx11 hy11
  go_upto_region 2 with fail
  obtain ⟨Z, hZ⟩ : ∃ Z, Z = (w1.alloc (.cells #[.bool b10, .slice A10 x10.length c10, .slice B10 y10.length d10] 28)).alloc (.cells #[.bool b11, .slice A11 x11.length c11, .slice B11 y11.length d11] 28) := ⟨_, rfl⟩
  rw [← hZ]
  have H_Z : Hid (Mo w Z _ _) := Lib.hid (by rw [hZ]; exact (H_w1.out.alloc' (t := 28) (cs := #[.bool b10, .slice A10 x10.length c10, .slice B10 y10.length d10]) (w1.heap.size) rfl (nd_rat _ _ _ _ _ _ _)).alloc' (t := 28) (cs := #[.bool b11, .slice A11 x11.length c11, .slice B11 y11.length d11]) (w1.heap.size + 1) (by rw [size_alloc]) (nd_rat _ _ _ _ _ _ _))
  clear hZ
  go_wp2_with fail
  refine (evalid_ok Z FA fc f (HR.out.below H_Z.out.below)).mono ?_
  rintro e_ Z ⟨rfl, rfl⟩
  rw [HE.out]
  have e3 : (E == E) = true := beq_self_eq_true E
  have e4 : (E != E) = false := bne_self_eq_false E
  by_cases h0 : E = 0
  rotate_left
  · have e1 : (E == 0) = false := beq_eq_false_iff_ne.2 h0
    have e2 : (E != 0) = true := by simpa using h0
    obtain rfl : mq = 0 := by rw [← HMQ.out]; unfold momM; rw [HE.out, if_neg h0]
    obtain rfl : vq = 0 := by rw [← HVQ.out]; unfold momV; rw [HE.out, if_neg h0]
    clear h0
    have k0Zc0 := ((H_Z.out.var 0 rfl)).cell 0 rfl
    have k0Zc1 := ((H_Z.out.var 0 rfl)).cell 1 rfl
    have k0Zc2 := ((H_Z.out.var 0 rfl)).cell 2 rfl
    go_wp2_with fail
    refine (qsign_ok Z b10 A10 B10 c10 d10 x10 y10 (H_Z.out.rn 0 rfl) (H_Z.out.rn 1 rfl) (by have := HL10.out; omega) (by have := HL10.out; omega)).mono ?_
    rw [sign_qv ((H_Z.out.rn 1 rfl)).2, HV10.out, show cmpQ 0 0 = 0 from by decide +kernel]
    rintro e_ w3 ⟨rfl, hB⟩
    have H_w3 := Lib.hid (Mo.call H_Z.out hB)
    have k1w3c0 := ((H_w3.out.var 1 rfl)).cell 0 rfl
    have k1w3c1 := ((H_w3.out.var 1 rfl)).cell 1 rfl
    have k1w3c2 := ((H_w3.out.var 1 rfl)).cell 2 rfl
    clear hB
    go_wp2_with fail
    refine (qsign_ok w3 b11 A11 B11 c11 d11 x11 y11 (H_w3.out.rn 2 rfl) (H_w3.out.rn 3 rfl) (by have := HL11.out; omega) (by have := HL11.out; omega)).mono ?_
    rw [sign_qv ((H_w3.out.rn 3 rfl)).2, HV11.out, show cmpQ 0 0 = 0 from by decide +kernel]
    rintro e_ w4 ⟨rfl, hB⟩
    have H_w4 := Lib.hid (Mo.call H_w3.out hB)
    clear hB
    go_wp2_with fail
    refine (awake_ok w4).mono ?_
    rintro e_ w5 ⟨rfl, hB⟩
    have H_w5 := Lib.hid (Mo.call H_w4.out hB)
    clear hB
    go_wp2_with fail
    go_ret
    exact ⟨rfl, H_w5.out.below⟩
  subst h0
  obtain ⟨hl61, hfq, hTp⟩ := valid_parts HE.out
  have hlp : 0 < f.length := by
    rcases Nat.eq_zero_or_pos f.length with h | h
    · rw [h, tot_zero] at hTp
      exact absurd hTp (by decide)
    · exact h
  have HCB : Hid (∀ k : Nat, k ≤ f.length → 0 ≤ cnt f k ∧ cnt f k ≤ (k : Int)) := fun k hk => by
    have h := spread_from hfq k hk (k : Int) (Int.le_refl _)
    exact ⟨h.2.2.1, h.2.2.2.1⟩
  have HSAY := Lib.hid (spread_says HE.out)
  clear hfq hTp
  go_wp2_with fail
  go_loopw [6, 8, 34] (fun cv nv iv wr => ∃ (k : Nat), iv = .int .i64 (k : Int) ∧ k ≤ f.length ∧ cv = .int .i64 (cnt f k) ∧ wr = Z) (fun _ _ iv _ => f.length - (intOf iv).toNat)
  case atStart => exact ⟨0, rfl, Nat.zero_le _, rfl, rfl⟩
  case round =>
    obtain ⟨k, rfl, hk, rfl, hwr⟩ := hrel
    have hwr := hwr.symm
    subst hwr
    by_cases hlt : k < f.length
    · have d1 : decide ((k : Int) < (f.length : Int)) = true := decide_eq_true (by omega)
      obtain ⟨ad, rfl, hcf⟩ := HR.out.2.2 k hlt
      have hc := cell_belowE H_Z.out.below hcf
      have hcb := HCB.out k (by omega)
      obtain ⟨n, hn⟩ : ∃ n, dg f k = n := ⟨_, rfl⟩
      obtain ⟨c, hcn⟩ : ∃ c, cnt f k = c := ⟨_, rfl⟩
      rw [hn] at hc
      rw [hcn] at hcb ⊢
      have HN := Lib.hid hn
      have HC := Lib.hid hcn
      clear hn hcn hcf
      by_cases hp : 0 < n
      · have e5 : decide (0 < n) = true := decide_eq_true hp
        have e6 : IntKind.i64.wrap (c + 1) = c + 1 := IntWalk.i64_in _ (by omega)
        have HS : Hid (cnt f (k + 1) = c + 1) := by show _ = _; rw [cnt_succ, HC.out, HN.out, if_pos hp]
        go_wp2_with fail
        go_roundw
        case rel => exact ⟨k + 1, by go_num, hlt, by rw [HS.out] <;> first | rfl | simp [e6], by first | rfl | trivial⟩
        case measure => simp [intOf]; omega
      · have e5 : decide (0 < n) = false := decide_eq_false hp
        have HS : Hid (cnt f (k + 1) = c) := by show _ = _; rw [cnt_succ, HC.out, HN.out, if_neg hp]; omega
        go_wp2_with fail
        go_roundw
        case rel => exact ⟨k + 1, by go_num, hlt, by rw [HS.out], by first | rfl | trivial⟩
        case measure => simp [intOf]; omega
    · have d1 : decide ((k : Int) < (f.length : Int)) = false := decide_eq_false (by omega)
      have d2_ : decide (k < f.length) = false := decide_eq_false hlt
      have hkl : k = f.length := by omega
      clear hlt hk
      subst hkl
      obtain ⟨c, hcn⟩ : ∃ c, cnt f f.length = c := ⟨_, rfl⟩
      rw [hcn]
      obtain ⟨s1, hs1⟩ : ∃ s1, cmpQ mq 0 = s1 := ⟨_, rfl⟩
      obtain ⟨s2, hs2⟩ : ∃ s2, cmpQ mq (((f.length : Int) - 1 : Int) : Rat) = s2 := ⟨_, rfl⟩
      obtain ⟨s3, hs3⟩ : ∃ s3, cmpQ vq 0 = s3 := ⟨_, rfl⟩
      have hsay := HSAY.out
      rw [HMQ.out, HVQ.out, hcn, hs1, hs2, hs3] at hsay
      obtain ⟨y1, y2, y3, y4⟩ := hsay
      have HS1 := Lib.hid hs1
      have HS2 := Lib.hid hs2
      have HS3 := Lib.hid hs3
      have dd1 : decide (0 ≤ s1) = true := decide_eq_true y1
      have dd2 : decide (s2 ≤ 0) = true := decide_eq_true y2
      have dd3 : decide (0 ≤ s3) = true := decide_eq_true y3
      obtain ⟨z, hz⟩ : ∃ z, (s3 == 0) = z := ⟨_, rfl⟩
      have hz2 : (c == 1) = z := by
        rw [← hz]
        by_cases h : c = 1
        · rw [beq_iff_eq.2 h, beq_iff_eq.2 (y4.2 h)]
        · rw [beq_eq_false_iff_ne.2 h, beq_eq_false_iff_ne.2 (fun h2 => h (y4.1 h2))]
      have ew : IntKind.i64.wrap ((f.length : Int) - 1) = (f.length : Int) - 1 := IntWalk.i64_in _ (by omega)
      clear y4 hcn hs1 hs2 hs3
      go_wp2_with fail
      have k0Zc0 := ((H_Z.out.var 0 rfl)).cell 0 rfl
      have k0Zc1 := ((H_Z.out.var 0 rfl)).cell 1 rfl
      have k0Zc2 := ((H_Z.out.var 0 rfl)).cell 2 rfl
      have k1Zc0 := ((H_Z.out.var 1 rfl)).cell 0 rfl
      have k1Zc1 := ((H_Z.out.var 1 rfl)).cell 1 rfl
      have k1Zc2 := ((H_Z.out.var 1 rfl)).cell 2 rfl
      have H_Zd := Lib.hid H_Z.out.drew
      first
      | go_region_held3 (fun w' => w'.cell? ⟨w1.heap.size, 0, none⟩ = some (.bool b10) ∧ w'.cell? ⟨w1.heap.size, 1, none⟩ = some (.slice A10 x10.length c10) ∧ w'.cell? ⟨w1.heap.size, 2, none⟩ = some (.slice B10 y10.length d10) ∧ w'.cell? ⟨w1.heap.size + 1, 0, none⟩ = some (.bool b11) ∧ w'.cell? ⟨w1.heap.size + 1, 1, none⟩ = some (.slice A11 x11.length c11) ∧ w'.cell? ⟨w1.heap.size + 1, 2, none⟩ = some (.slice B11 y11.length d11)) (go_keep)
         (first
          | (go_at_call 15
             with_reducible (show Calls Try.prog _ _ Z.drew _)
             refine (qsign_ok _ b10 A10 B10 c10 d10 x10 y10 (H_Zd.out.rn 0 rfl) (H_Zd.out.rn 1 rfl) (by have := HL10.out; omega) (by have := HL10.out; omega)).mono ?_
             rw [sign_qv ((H_Zd.out.rn 1 rfl)).2, HV10.out, HS1.out]
             rintro e_ u1 ⟨rfl, hB⟩
             have H_u1 := Lib.hid (Mo.call H_Zd.out hB)
             have k0u1c0 := ((H_u1.out.var 0 rfl)).cell 0 rfl
             have k0u1c1 := ((H_u1.out.var 0 rfl)).cell 1 rfl
             have k0u1c2 := ((H_u1.out.var 0 rfl)).cell 2 rfl
             have k1u1c0 := ((H_u1.out.var 1 rfl)).cell 0 rfl
             have k1u1c1 := ((H_u1.out.var 1 rfl)).cell 1 rfl
             have k1u1c2 := ((H_u1.out.var 1 rfl)).cell 2 rfl
             clear hB)
          | (go_at_call 14
             with_reducible (show Calls Try.prog _ _ u1 _)
             refine (part_ok u1 ((f.length : Int) - 1) 1 (by omega) (by omega) (by omega) (by omega)).mono ?_
             rw [show (1 : Int).toNat = 1 from rfl, mkRat_int]
             rintro e_ u2 ⟨b3, A3, c3, x3, B3, d3, y3, rfl, HQa3, HQb3, HQc3, hx3, hy3, hB⟩
             have H_u2 := Lib.hid (Mo.num (Mo.num (Mo.call H_u1.out hB) hx3) hy3)
             have k0u2c0 := ((H_u2.out.var 0 rfl)).cell 0 rfl
             have k0u2c1 := ((H_u2.out.var 0 rfl)).cell 1 rfl
             have k0u2c2 := ((H_u2.out.var 0 rfl)).cell 2 rfl
             have k1u2c0 := ((H_u2.out.var 1 rfl)).cell 0 rfl
             have k1u2c1 := ((H_u2.out.var 1 rfl)).cell 1 rfl
             have k1u2c2 := ((H_u2.out.var 1 rfl)).cell 2 rfl
             have HV3 : Hid (qv b3 x3 y3 = (((f.length : Int) - 1 : Int) : Rat)) := qv_nf HQa3.out HQb3.out HQc3.out
             have HL3 : Hid (x3.length ≤ 1 ∧ y3.length ≤ 1) := szl HQb3.out HQc3.out (sz_int (by omega))
             clear hB hx3 hy3)
          | (go_at_call 16
             with_reducible (show Calls Try.prog _ _ u2 _)
             refine (qcmp_ok u2 b10 b3 A10 B10 A3 B3 c10 d10 c3 d3 x10 y10 x3 y3 (H_u2.out.rn 0 rfl) (H_u2.out.rn 1 rfl) (H_u2.out.rn 4 rfl) (H_u2.out.rn 5 rfl) (by have := HL10.out; omega) (by have := HL10.out; omega) (by have := HL3.out; omega) (by have := HL3.out; omega)).mono ?_
             rw [cmp_qv ((H_u2.out.rn 1 rfl)).2 ((H_u2.out.rn 5 rfl)).2, HV10.out, HV3.out, HS2.out]
             rintro e_ u3 ⟨rfl, hB⟩
             have H_u3 := Lib.hid (Mo.call H_u2.out hB)
             have k0u3c0 := ((H_u3.out.var 0 rfl)).cell 0 rfl
             have k0u3c1 := ((H_u3.out.var 0 rfl)).cell 1 rfl
             have k0u3c2 := ((H_u3.out.var 0 rfl)).cell 2 rfl
             have k1u3c0 := ((H_u3.out.var 1 rfl)).cell 0 rfl
             have k1u3c1 := ((H_u3.out.var 1 rfl)).cell 1 rfl
             have k1u3c2 := ((H_u3.out.var 1 rfl)).cell 2 rfl
             clear hB)
          | (go_at_call 15
             with_reducible (show Calls Try.prog _ _ u3 _)
             refine (qsign_ok u3 b11 A11 B11 c11 d11 x11 y11 (H_u3.out.rn 2 rfl) (H_u3.out.rn 3 rfl) (by have := HL11.out; omega) (by have := HL11.out; omega)).mono ?_
             rw [sign_qv ((H_u3.out.rn 3 rfl)).2, HV11.out, HS3.out]
             rintro e_ u4 ⟨rfl, hB⟩
             have H_u4 := Lib.hid (Mo.call H_u3.out hB)
             have k0u4c0 := ((H_u4.out.var 0 rfl)).cell 0 rfl
             have k0u4c1 := ((H_u4.out.var 0 rfl)).cell 1 rfl
             have k0u4c2 := ((H_u4.out.var 0 rfl)).cell 2 rfl
             have k1u4c0 := ((H_u4.out.var 1 rfl)).cell 0 rfl
             have k1u4c1 := ((H_u4.out.var 1 rfl)).cell 1 rfl
             have k1u4c2 := ((H_u4.out.var 1 rfl)).cell 2 rfl
             clear hB)
          | (go_at_call 15
             with_reducible (show Calls Try.prog _ _ u4 _)
             refine (qsign_ok u4 b11 A11 B11 c11 d11 x11 y11 (H_u4.out.rn 2 rfl) (H_u4.out.rn 3 rfl) (by have := HL11.out; omega) (by have := HL11.out; omega)).mono ?_
             rw [sign_qv ((H_u4.out.rn 3 rfl)).2, HV11.out, HS3.out]
             rintro e_ u5 ⟨rfl, hB⟩
             have H_u5 := Lib.hid (Mo.call H_u4.out hB)
             have k0u5c0 := ((H_u5.out.var 0 rfl)).cell 0 rfl
             have k0u5c1 := ((H_u5.out.var 0 rfl)).cell 1 rfl
             have k0u5c2 := ((H_u5.out.var 0 rfl)).cell 2 rfl
             have k1u5c0 := ((H_u5.out.var 1 rfl)).cell 0 rfl
             have k1u5c1 := ((H_u5.out.var 1 rfl)).cell 1 rfl
             have k1u5c2 := ((H_u5.out.var 1 rfl)).cell 2 rfl
             clear hB)
          | (go_at_call 8
             with_reducible (show Calls Try.prog _ _ u5 _)
             refine (awake_ok u5).mono ?_
             rintro e_ u6 ⟨rfl, hB⟩
             have H_u6 := Lib.hid (Mo.call H_u5.out hB)
             have k0u6c0 := ((H_u6.out.var 0 rfl)).cell 0 rfl
             have k0u6c1 := ((H_u6.out.var 0 rfl)).cell 1 rfl
             have k0u6c2 := ((H_u6.out.var 0 rfl)).cell 2 rfl
             have k1u6c0 := ((H_u6.out.var 1 rfl)).cell 0 rfl
             have k1u6c1 := ((H_u6.out.var 1 rfl)).cell 1 rfl
             have k1u6c2 := ((H_u6.out.var 1 rfl)).cell 2 rfl
             clear hB))
      | fail
      go_wp2_with fail
      go_ret
      exact ⟨rfl, H_u6.out.below⟩
theorem spread_row (w : World) (A : Option Addr) (c : Nat) (l : List Int) (hp : Rk w .i64 A c l) (hwf : ∀ x ∈ l, (Lit.int .i64 x).wf = true) (hsz : l.length * 8 ≤ 140737488351232) :
    Calls Try.prog 4 #[.slice A l.length c] w (RetT w) := spread_ok w A c l hp

end Go.Proofs.Ytocpncjmcaecoaa.M
