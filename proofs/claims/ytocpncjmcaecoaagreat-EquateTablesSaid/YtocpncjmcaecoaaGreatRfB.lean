/- Percentile ranks by the reference. -/
import Derived.Test.YtocpncjmcaecoaaGreatRfA
import Derived.Test.YtocpncjmcaecoaaGreatRkP
namespace Go.Proofs.YtocpncjmcaecoaaGreat.M
set_option maxRecDepth 10000
open Go.RowKit
set_option linter.unusedVariables false
set_option linter.unusedSimpArgs false

set_option maxHeartbeats 12800000 in
theorem rrank_okE (w : World) (FA : Option Addr) (fc : Nat) (f : List Int) (hf : Rk w .i64 FA fc f) (xb : Bool) (XA XD : Option Addr) (xc xe : Nat) (xn xd : List Int) (hxn : RN w XA xc xn) (hxd : RN w XD xe xd) (sxn : xn.length ≤ 35184372088300) (sxd : xd.length ≤ 35184372088300) :
    Calls Tryz.prog 7 #[.slice FA f.length fc, .agg #[.bool xb, .slice XA xn.length xc, .slice XD xd.length xe]] w (RetQE (rankQ f (qv xb xn xd)) (validE f) w) := by
  have HR := Lib.hid hf
  have hcl := hf.1
  have hcm := hf.2.1
  clear hf
  have HXN := Lib.hid hxn
  have HXD := Lib.hid hxd
  clear hxn hxd
  go_enter Tryz.func7, Tryz.ntmps7
  obtain ⟨E, hE⟩ : ∃ E, validE f = E := ⟨_, rfl⟩
  have HE := Lib.hid hE
  obtain ⟨x, hx⟩ : ∃ x, qv xb xn xd = x := ⟨_, rfl⟩
  have HX := Lib.hid hx
  have HSX : Hid (sz x 35184372088301) := by show sz _ _; rw [← hx]; exact sz_cells HXN.out.2 HXD.out.2 (by omega) (by omega)
  rw [hE, hx]
  obtain ⟨R, hRq⟩ : ∃ R, rankQ f x = R := ⟨_, rfl⟩
  have HRQ := Lib.hid hRq
  rw [hRq]
  clear hE hx hRq
  go_upto_region 1 with fail
  obtain ⟨W, hW⟩ : ∃ W, W = ((w.alloc (.cells #[.bool xb, .slice XA xn.length xc, .slice XD xd.length xe] 28)).alloc (.cells #[.bool false, .slice none 0 0, .slice none 0 0] 28)) := ⟨_, rfl⟩
  rw [← hW]
  have H_W : Mo w W [(w.heap.size, 28, #[.bool xb, .slice XA xn.length xc, .slice XD xd.length xe]), (w.heap.size + 1, 28, #[.bool false, .slice none 0 0, .slice none 0 0])] [] := by
    rw [hW]
    have h := (((Mo.start w).alloc (t := 28) (cs := #[.bool xb, .slice XA xn.length xc, .slice XD xd.length xe]) (nd_rat _ _ _ _ _ _ _)).alloc (t := 28) (cs := #[.bool false, .slice none 0 0, .slice none 0 0]) (nd_rat _ _ _ _ _ _ _))
    simp only [size_alloc, List.nil_append, List.cons_append] at h
    exact h
  clear hW
  obtain ⟨gW1, hgW1⟩ : ∃ g, w.heap.size + 1 = g := ⟨_, rfl⟩
  rw [hgW1] at H_W ⊢
  clear hgW1
  have neW01 : w.heap.size ≠ gW1 := H_W.apart 0 1 _ _ _ _ _ _ rfl rfl (by decide)
  have neW10 : gW1 ≠ w.heap.size := H_W.apart 1 0 _ _ _ _ _ _ rfl rfl (by decide)
  have H_W := Lib.hid H_W
  have k0Wc0 := ((H_W.out.var 0 rfl)).cell 0 rfl
  have k0Wc1 := ((H_W.out.var 0 rfl)).cell 1 rfl
  have k0Wc2 := ((H_W.out.var 0 rfl)).cell 2 rfl
  go_wp2_with fail
  refine (rvalid_ok W FA fc f (HR.out.below H_W.out.below)).mono ?_
  rintro e_ W ⟨rfl, rfl⟩
  rw [HE.out]
  by_cases h0 : E = 0
  rotate_left
  · have e1 : (E == 0) = false := beq_eq_false_iff_ne.2 h0
    have e2 : (E != 0) = true := by simpa using h0
    obtain rfl : R = 0 := by rw [← HRQ.out]; unfold rankQ; rw [if_pos (by rw [HE.out]; exact h0)]
    clear h0
    go_wp2_with fail
    refine (rfraction_ok W 0 1 (by omega) (by omega) (by omega) (by omega)).mono ?_
    rw [show (1 : Int).toNat = 1 from rfl, mkRat_int]
    rintro e_ w2 ⟨b9, A9, c9, x9, B9, d9, y9, rfl, HQa9, HQb9, HQc9, hx9, hy9, hB⟩
    have H_w2 := Lib.hid (Mo.num (Mo.num (Mo.call H_W.out hB) hx9) hy9)
    have k1w2c0 := ((H_w2.out.var 1 rfl)).cell 0 rfl
    have k1w2c1 := ((H_w2.out.var 1 rfl)).cell 1 rfl
    have k1w2c2 := ((H_w2.out.var 1 rfl)).cell 2 rfl
    have k1w2f0 := ((H_w2.out.var 1 rfl)).thaw 0
    have k1w2f1 := ((H_w2.out.var 1 rfl)).thaw 1
    have k1w2f2 := ((H_w2.out.var 1 rfl)).thaw 2
    clear hB hx9 hy9
    go_wp2_with fail
    have hr0 := (H_w2.out).set 1 (j := 0) (v := .bool b9) (cs' := #[.bool b9, .slice none 0 0, .slice none 0 0]) rfl rfl (nd_rat _ _ _ _ _ _ _)
    have hr1 := (hr0).set 1 (j := 1) (v := .slice A9 x9.length c9) (cs' := #[.bool b9, .slice A9 x9.length c9, .slice none 0 0]) rfl rfl (nd_rat _ _ _ _ _ _ _)
    have hr2 := (hr1).set 1 (j := 2) (v := .slice B9 y9.length d9) (cs' := #[.bool b9, .slice A9 x9.length c9, .slice B9 y9.length d9]) rfl rfl (nd_rat _ _ _ _ _ _ _)
    have v3 : Vr (((w2.setCell ⟨gW1, 0, none⟩ (.bool b9)).setCell ⟨gW1, 1, none⟩ (.slice A9 x9.length c9)).setCell ⟨gW1, 2, none⟩ (.slice B9 y9.length d9)) gW1 28 #[.bool b9, .slice A9 x9.length c9, .slice B9 y9.length d9] := hr2.var 1 rfl
    refine bodyPost_ret (v := .tuple #[.agg #[.bool b9, .slice A9 x9.length c9, .slice B9 y9.length d9], .int .i64 E]) (by simp [results, Tryz.results7, go_sem, v3.cell 0 rfl, v3.cell 1 rfl, v3.cell 2 rfl]) rfl ?_
    exact ⟨b9, A9, c9, x9, B9, d9, y9, rfl, HQa9, HQb9, HQc9, hr2.rn 0 rfl, hr2.rn 1 rfl, hr2.below⟩
  subst h0
  obtain ⟨hl61, hfq, hTp⟩ := valid_parts HE.out
  have HFQ := Lib.hid hfq
  have hTb := tot_bound hfq f.length (Nat.le_refl _)
  obtain ⟨T, hT⟩ : ∃ T, tot f f.length = T := ⟨_, rfl⟩
  rw [hT] at hTp hTb
  have HT := Lib.hid hT
  obtain ⟨s, hs⟩ : ∃ s, cmpQ x (mkRat (-1) 2) = s := ⟨_, rfl⟩
  have HS := Lib.hid hs
  clear hfq hT hs
  go_wp2_with fail
  refine (rbelow_f W FA fc f (HR.out.below H_W.out.below) hl61 HFQ.out f.length (Nat.le_refl _)).mono ?_
  rintro e_ W ⟨rfl, rfl⟩
  rw [HT.out]
  go_upto_region 5 with fail
  have k0Wc0 := ((H_W.out.var 0 rfl)).cell 0 rfl
  have k0Wc1 := ((H_W.out.var 0 rfl)).cell 1 rfl
  have k0Wc2 := ((H_W.out.var 0 rfl)).cell 2 rfl
  have H_Wd := Lib.hid H_W.out.drew
  first
  | go_region_held3 (fun w' => w'.cell? ⟨w.heap.size, 0, none⟩ = some (.bool xb) ∧ w'.cell? ⟨w.heap.size, 1, none⟩ = some (.slice XA xn.length xc) ∧ w'.cell? ⟨w.heap.size, 2, none⟩ = some (.slice XD xd.length xe)) (go_keep)
     (first
      | (go_at_call 34
         refine (rfraction_ok _ (-1) 2 (by omega) (by omega) (by omega) (by omega)).mono ?_
         rw [show (2 : Int).toNat = 2 from rfl]
         rintro e_ a1 ⟨b1, A1, c1, x1, B1, d1, y1, rfl, HQa1, HQb1, HQc1, hx1, hy1, hB⟩
         have H_a1 := Lib.hid (Mo.num (Mo.num (Mo.call H_Wd.out hB) hx1) hy1)
         have k0a1c0 := ((H_a1.out.var 0 rfl)).cell 0 rfl
         have k0a1c1 := ((H_a1.out.var 0 rfl)).cell 1 rfl
         have k0a1c2 := ((H_a1.out.var 0 rfl)).cell 2 rfl
         have HV1 : Hid (qv b1 x1 y1 = mkRat (-1) 2) := qv_nf HQa1.out HQb1.out HQc1.out
         have HL1 : Hid (x1.length ≤ 1 ∧ y1.length ≤ 1) := szl HQb1.out HQc1.out (sz_half (by decide))
         clear hB hx1 hy1)
      | (go_at_call 36
         refine (rqcmp_ok a1 xb b1 XA XD A1 B1 xc xe c1 d1 xn xd x1 y1 (HXN.out.below H_a1.out.below) (HXD.out.below H_a1.out.below) (H_a1.out.rn 0 rfl) (H_a1.out.rn 1 rfl) (by omega) (by omega) (by have := HL1.out; omega) (by have := HL1.out; omega)).mono ?_
         rw [HX.out, HV1.out, HS.out]
         rintro e_ a2 ⟨rfl, hB⟩
         have H_a2 := Lib.hid (Mo.call H_a1.out hB)
         have k0a2c0 := ((H_a2.out.var 0 rfl)).cell 0 rfl
         have k0a2c1 := ((H_a2.out.var 0 rfl)).cell 1 rfl
         have k0a2c2 := ((H_a2.out.var 0 rfl)).cell 2 rfl
         clear hB))
  | fail
  by_cases h1 : s ≤ 0
  · have dd1 : decide (s ≤ 0) = true := decide_eq_true h1
    obtain rfl : R = 0 := by rw [← HRQ.out]; exact rrank_low HE.out (by rw [HS.out]; exact h1)
    go_wp2_with fail
    refine (rfraction_ok a2 0 1 (by omega) (by omega) (by omega) (by omega)).mono ?_
    rw [show (1 : Int).toNat = 1 from rfl, mkRat_int]
    rintro e_ w3 ⟨b9, A9, c9, x9, B9, d9, y9, rfl, HQa9, HQb9, HQc9, hx9, hy9, hB⟩
    have H_w3 := Lib.hid (Mo.num (Mo.num (Mo.call H_a2.out hB) hx9) hy9)
    have k1w3c0 := ((H_w3.out.var 1 rfl)).cell 0 rfl
    have k1w3c1 := ((H_w3.out.var 1 rfl)).cell 1 rfl
    have k1w3c2 := ((H_w3.out.var 1 rfl)).cell 2 rfl
    have k1w3f0 := ((H_w3.out.var 1 rfl)).thaw 0
    have k1w3f1 := ((H_w3.out.var 1 rfl)).thaw 1
    have k1w3f2 := ((H_w3.out.var 1 rfl)).thaw 2
    clear hB hx9 hy9
    go_wp2_with fail
    have hr0 := (H_w3.out).set 1 (j := 0) (v := .bool b9) (cs' := #[.bool b9, .slice none 0 0, .slice none 0 0]) rfl rfl (nd_rat _ _ _ _ _ _ _)
    have hr1 := (hr0).set 1 (j := 1) (v := .slice A9 x9.length c9) (cs' := #[.bool b9, .slice A9 x9.length c9, .slice none 0 0]) rfl rfl (nd_rat _ _ _ _ _ _ _)
    have hr2 := (hr1).set 1 (j := 2) (v := .slice B9 y9.length d9) (cs' := #[.bool b9, .slice A9 x9.length c9, .slice B9 y9.length d9]) rfl rfl (nd_rat _ _ _ _ _ _ _)
    have v3 : Vr (((w3.setCell ⟨gW1, 0, none⟩ (.bool b9)).setCell ⟨gW1, 1, none⟩ (.slice A9 x9.length c9)).setCell ⟨gW1, 2, none⟩ (.slice B9 y9.length d9)) gW1 28 #[.bool b9, .slice A9 x9.length c9, .slice B9 y9.length d9] := hr2.var 1 rfl
    refine bodyPost_ret (v := .tuple #[.agg #[.bool b9, .slice A9 x9.length c9, .slice B9 y9.length d9], .int .i64 0]) (by simp [results, Tryz.results7, go_sem, v3.cell 0 rfl, v3.cell 1 rfl, v3.cell 2 rfl]) rfl ?_
    exact ⟨b9, A9, c9, x9, B9, d9, y9, rfl, HQa9, HQb9, HQc9, hr2.rn 2 rfl, hr2.rn 3 rfl, hr2.below⟩
  have dd1 : decide (s ≤ 0) = false := decide_eq_false h1
  have HS1 : Hid (0 < cmpQ x (mkRat (-1) 2)) := by show _ < _; rw [HS.out]; omega
  have hs1 : 0 < s := by omega
  rw [dd1]
  clear h1
  have H_a20 := H_a2.out.sub []
  clear H_a2
  have H_a2 := Lib.hid H_a20
  clear H_a20
  go_wp2_with fail
  go_loopw [8, 27] (fun kv iv wr => ∃ (k : Nat), iv = .int .i64 (k : Int) ∧ k ≤ f.length ∧ Hid (∀ j : Nat, j < k → 0 < cmpQ x (mkRat (2 * (j : Int) + 1) 2)) ∧ Hid (Below a2.heap.size a2 wr)) (fun _ iv _ => f.length - (intOf iv).toNat)
  case atStart => exact ⟨0, rfl, Nat.zero_le _, fun j hj => by omega, Below.refl _ _⟩
  case round =>
    obtain ⟨k, rfl, hk, HN, HB⟩ := hrel
    have H_wr := Lib.hid (Mo.call H_a2.out HB.out)
    by_cases hlt : k < f.length
    rotate_left
    · have d1 : decide ((k : Int) < (f.length : Int)) = false := decide_eq_false (by omega)
      have d2_ : decide (k < f.length) = false := decide_eq_false hlt
      obtain rfl : R = 1 := by rw [← HRQ.out]; exact rrank_end HE.out (fun j hj => HN.out j (by omega))
      clear hlt
      go_wp2_with fail
      refine (rfraction_ok wr 1 1 (by omega) (by omega) (by omega) (by omega)).mono ?_
      rw [show (1 : Int).toNat = 1 from rfl, mkRat_int]
      rintro e_ w7 ⟨b9, A9, c9, x9, B9, d9, y9, rfl, HQa9, HQb9, HQc9, hx9, hy9, hB⟩
      have H_w7 := Lib.hid (Mo.num (Mo.num (Mo.call H_wr.out hB) hx9) hy9)
      have k1w7c0 := ((H_w7.out.var 1 rfl)).cell 0 rfl
      have k1w7c1 := ((H_w7.out.var 1 rfl)).cell 1 rfl
      have k1w7c2 := ((H_w7.out.var 1 rfl)).cell 2 rfl
      have k1w7f0 := ((H_w7.out.var 1 rfl)).thaw 0
      have k1w7f1 := ((H_w7.out.var 1 rfl)).thaw 1
      have k1w7f2 := ((H_w7.out.var 1 rfl)).thaw 2
      clear hB hx9 hy9
      go_wp2_with fail
      have hr0 := (H_w7.out).set 1 (j := 0) (v := .bool b9) (cs' := #[.bool b9, .slice none 0 0, .slice none 0 0]) rfl rfl (nd_rat _ _ _ _ _ _ _)
      have hr1 := (hr0).set 1 (j := 1) (v := .slice A9 x9.length c9) (cs' := #[.bool b9, .slice A9 x9.length c9, .slice none 0 0]) rfl rfl (nd_rat _ _ _ _ _ _ _)
      have hr2 := (hr1).set 1 (j := 2) (v := .slice B9 y9.length d9) (cs' := #[.bool b9, .slice A9 x9.length c9, .slice B9 y9.length d9]) rfl rfl (nd_rat _ _ _ _ _ _ _)
      have v3 : Vr (((w7.setCell ⟨gW1, 0, none⟩ (.bool b9)).setCell ⟨gW1, 1, none⟩ (.slice A9 x9.length c9)).setCell ⟨gW1, 2, none⟩ (.slice B9 y9.length d9)) gW1 28 #[.bool b9, .slice A9 x9.length c9, .slice B9 y9.length d9] := hr2.var 1 rfl
      refine bodyPost_ret (v := .tuple #[.agg #[.bool b9, .slice A9 x9.length c9, .slice B9 y9.length d9], .int .i64 0]) (by simp [results, Tryz.results7, go_sem, v3.cell 0 rfl, v3.cell 1 rfl, v3.cell 2 rfl]) rfl ?_
      exact ⟨b9, A9, c9, x9, B9, d9, y9, rfl, HQa9, HQb9, HQc9, hr2.rn 0 rfl, hr2.rn 1 rfl, hr2.below⟩
    have d1 : decide ((k : Int) < (f.length : Int)) = true := decide_eq_true (by omega)
    obtain ⟨s2, hs⟩ : ∃ s2, cmpQ x (mkRat (2 * (k : Int) + 1) 2) = s2 := ⟨_, rfl⟩
    have HS2 := Lib.hid hs
    have e5 : IntKind.i64.wrap (2 * (k : Int)) = 2 * (k : Int) := IntWalk.i64_in _ (by omega)
    have e6 : IntKind.i64.wrap (2 * (k : Int) + 1) = 2 * (k : Int) + 1 := IntWalk.i64_in _ (by omega)
    clear hs
    go_upto_region 10 with fail
    have k0wrc0 := ((H_wr.out.var 0 rfl)).cell 0 rfl
    have k0wrc1 := ((H_wr.out.var 0 rfl)).cell 1 rfl
    have k0wrc2 := ((H_wr.out.var 0 rfl)).cell 2 rfl
    have H_wrd := Lib.hid H_wr.out.drew
    first
    | go_region_held3 (fun w' => w'.cell? ⟨w.heap.size, 0, none⟩ = some (.bool xb) ∧ w'.cell? ⟨w.heap.size, 1, none⟩ = some (.slice XA xn.length xc) ∧ w'.cell? ⟨w.heap.size, 2, none⟩ = some (.slice XD xd.length xe)) (go_keep)
       (first
        | (go_at_call 34
           refine (rfraction_ok _ (2 * (k : Int) + 1) 2 (by omega) (by omega) (by omega) (by omega)).mono ?_
           rw [show (2 : Int).toNat = 2 from rfl]
           rintro e_ t1 ⟨b1, A1, c1, x1, B1, d1, y1, rfl, HQa1, HQb1, HQc1, hx1, hy1, hB⟩
           have H_t1 := Lib.hid (Mo.num (Mo.num (Mo.call H_wrd.out hB) hx1) hy1)
           have k0t1c0 := ((H_t1.out.var 0 rfl)).cell 0 rfl
           have k0t1c1 := ((H_t1.out.var 0 rfl)).cell 1 rfl
           have k0t1c2 := ((H_t1.out.var 0 rfl)).cell 2 rfl
           have HV1 : Hid (qv b1 x1 y1 = mkRat (2 * (k : Int) + 1) 2) := qv_nf HQa1.out HQb1.out HQc1.out
           have HL1 : Hid (x1.length ≤ 1 ∧ y1.length ≤ 1) := szl HQb1.out HQc1.out (sz_half (by omega))
           have HBt1 := Lib.hid (below_seq HB.out.drew hB)
           clear hB hx1 hy1)
        | (go_at_call 36
           refine (rqcmp_ok t1 xb b1 XA XD A1 B1 xc xe c1 d1 xn xd x1 y1 (HXN.out.below H_t1.out.below) (HXD.out.below H_t1.out.below) (H_t1.out.rn 0 rfl) (H_t1.out.rn 1 rfl) (by omega) (by omega) (by have := HL1.out; omega) (by have := HL1.out; omega)).mono ?_
           rw [HX.out, HV1.out, HS2.out]
           rintro e_ t2 ⟨rfl, hB⟩
           have H_t2 := Lib.hid (Mo.call H_t1.out hB)
           have k0t2c0 := ((H_t2.out.var 0 rfl)).cell 0 rfl
           have k0t2c1 := ((H_t2.out.var 0 rfl)).cell 1 rfl
           have k0t2c2 := ((H_t2.out.var 0 rfl)).cell 2 rfl
           have HBt2 := Lib.hid (below_seq HBt1.out hB)
           clear hB))
    | fail
    by_cases h3 : s2 ≤ 0
    rotate_left
    · have dd3 : decide (s2 ≤ 0) = false := decide_eq_false h3
      have hs2 : 0 < s2 := by omega
      have HKK : Hid (∀ j : Nat, j < k + 1 → 0 < cmpQ x (mkRat (2 * (j : Int) + 1) 2)) := fun j hj => by
        rcases Nat.lt_or_ge j k with h | h
        · exact HN.out j h
        · obtain rfl : j = k := by omega
          rw [HS2.out]
          exact hs2
      clear h3 HN e5 e6
      go_wp2_with fail
      go_roundw
      case rel => first | exact ⟨k + 1, by go_num, hlt, HKK, HBt2⟩ | ((repeat apply Exists.intro); exact ⟨⟨by go_num, hlt, HKK, HBt2⟩, rfl⟩) | ((repeat apply Exists.intro); exact ⟨⟨k + 1, by go_num, hlt, HKK, HBt2⟩, rfl⟩)
      case measure => simp [intOf]; omega
    have dd3 : decide (s2 ≤ 0) = true := decide_eq_true h3
    have hfb := HFQ.out k hlt
    have hkb := tot_bound HFQ.out k (by omega)
    have hRV : R = rrankV f x k := by rw [← HRQ.out]; exact rrank_at HE.out hlt HS1.out HN.out (by rw [HS2.out]; exact h3)
    unfold rrankV at hRV
    obtain ⟨ad, rfl, hcf⟩ := HR.out.2.2 k hlt
    obtain ⟨fk, hfk⟩ : ∃ fk, dg f k = fk := ⟨_, rfl⟩
    obtain ⟨sk, hsk⟩ : ∃ sk, tot f k = sk := ⟨_, rfl⟩
    rw [hfk] at hfb hcf
    rw [hsk] at hkb
    rw [hfk, hsk, HT.out] at hRV
    have HSK := Lib.hid hsk
    have HCF := Lib.hid hcf
    have HBF : Hid ((ad.add k).block < w.heap.size) := World.block_lt_of_cell? w _ hcf
    have bk1 : (0 : Int) ≤ (k : Int) := by omega
    have bk2 : (k : Int) < (f.length : Int) := by omega
    have e7 : IntKind.i64.wrap (2 * (k : Int) - 1) = 2 * (k : Int) - 1 := IntWalk.i64_in _ (by omega)
    obtain ⟨df, hdf⟩ : ∃ df, x - mkRat (2 * (k : Int) - 1) 2 = df := ⟨_, rfl⟩
    have HDF := Lib.hid hdf
    have HSD : Hid (sz df 35184372088304) := by show sz _ _; rw [← hdf]; exact (sz_sub HSX.out (sz_half (by omega))).mono (by omega)
    obtain ⟨pt, hpt⟩ : ∃ pt, ((fk : Int) : Rat) * df = pt := ⟨_, rfl⟩
    have HPT := Lib.hid hpt
    have HSP : Hid (sz pt 35184372088306) := by show sz _ _; rw [← hpt]; exact (sz_mul (sz_int (by omega)) HSD.out).mono (by omega)
    obtain ⟨su, hsu⟩ : ∃ su, ((sk : Int) : Rat) + pt = su := ⟨_, rfl⟩
    have HSU := Lib.hid hsu
    have HSS : Hid (sz su 35184372088310) := by show sz _ _; rw [← hsu]; exact (sz_add (sz_int (by omega)) HSP.out).mono (by omega)
    rw [hdf, hpt, hsu] at hRV
    have HRV : Hid (su * mkRat 1 T.toNat = R) := hRV.symm
    clear hfk hsk hcf hdf hpt hsu hRV HN
    go_upto_region 11 with fail
    have H_t20 := H_t2.out.sub []
    clear H_t2
    have H_t2 := Lib.hid H_t20
    clear H_t20
    go_cut [9] (fun s_ wc => ∃ (g11 : Nat) (b8 : Bool) (A8 : Option Addr) (c8 : Nat) (x8 : List Int) (B8 : Option Addr) (d8 : Nat) (y8 : List Int), s_ = .pointer (some ⟨g11, 0, none⟩) ∧ Hid (b8 = decide ((pt).num < 0)) ∧ Hid (x8 = limbs (pt).num.natAbs) ∧ Hid (y8 = limbs (pt).den) ∧ Hid (Mo w wc [(w.heap.size, 28, #[.bool xb, .slice XA xn.length xc, .slice XD xd.length xe]), (gW1, 28, #[.bool false, .slice none 0 0, .slice none 0 0]), (g11, 28, #[.bool b8, .slice A8 x8.length c8, .slice B8 y8.length d8])] [(A8, c8, x8), (B8, d8, y8)]))
    case first =>
      have k0t2c0 := ((H_t2.out.var 0 rfl)).cell 0 rfl
      have k0t2c1 := ((H_t2.out.var 0 rfl)).cell 1 rfl
      have k0t2c2 := ((H_t2.out.var 0 rfl)).cell 2 rfl
      have net201 : w.heap.size ≠ gW1 := H_t2.out.apart 0 1 _ _ _ _ _ _ rfl rfl (by decide)
      have net210 : gW1 ≠ w.heap.size := H_t2.out.apart 1 0 _ _ _ _ _ _ rfl rfl (by decide)
      have hcf := cell_belowE H_t2.out.below HCF.out
      have H_t2d := Lib.hid H_t2.out.drew
      first
      | go_region_held3 (fun w' => w'.cell? ⟨w.heap.size, 0, none⟩ = some (.bool xb) ∧ w'.cell? ⟨w.heap.size, 1, none⟩ = some (.slice XA xn.length xc) ∧ w'.cell? ⟨w.heap.size, 2, none⟩ = some (.slice XD xd.length xe) ∧ w'.cell? (ad.add k) = some (.int .i64 fk)) (go_keep)
         (first
          | (go_at_call_of 34 fk
             refine (rfraction_ok _ fk 1 (by omega) (by omega) (by omega) (by omega)).mono ?_
             rw [show (1 : Int).toNat = 1 from rfl, mkRat_int]
             rintro e_ u1 ⟨b5, A5, c5, x5, B5, d5, y5, rfl, HQa5, HQb5, HQc5, hx5, hy5, hB⟩
             have H_u1 := Lib.hid (Mo.num (Mo.num (Mo.call (by first | exact H_t2d.out | exact ((H_t2d.out).alloc' (t2.heap.size) rfl (nd_rat false none none 0 0 0 0))) hB) hx5) hy5)
             have k0u1c0 := ((H_u1.out.var 0 rfl)).cell 0 rfl
             have k0u1c1 := ((H_u1.out.var 0 rfl)).cell 1 rfl
             have k0u1c2 := ((H_u1.out.var 0 rfl)).cell 2 rfl
             have HV5 : Hid (qv b5 x5 y5 = ((fk : Int) : Rat)) := qv_nf HQa5.out HQb5.out HQc5.out
             have HL5 : Hid (x5.length ≤ 1 ∧ y5.length ≤ 1) := szl HQb5.out HQc5.out (sz_int (by omega))
             have hcfu1 := cell_belowE H_u1.out.below HCF.out
             try have hnfu1 := Nat.ne_of_gt (Nat.lt_of_lt_of_le HBF.out (H_u1.out.vars 2 _ _ _ rfl).2.2)
             try have x0c0u1 := (H_u1.out.var 2 rfl).cell 0 rfl
             try have x0f0u1 := (H_u1.out.var 2 rfl).thaw 0
             try have x0c1u1 := (H_u1.out.var 2 rfl).cell 1 rfl
             try have x0f1u1 := (H_u1.out.var 2 rfl).thaw 1
             try have x0c2u1 := (H_u1.out.var 2 rfl).cell 2 rfl
             try have x0f2u1 := (H_u1.out.var 2 rfl).thaw 2
             try have x0n0u1 := H_u1.out.apart 2 0 _ _ _ _ _ _ rfl rfl (by decide)
             try have x0n1u1 := H_u1.out.apart 2 1 _ _ _ _ _ _ rfl rfl (by decide)
             clear hB hx5 hy5)
          | (go_at_call 34
             refine (rfraction_ok _ (2 * (k : Int) - 1) 2 (by omega) (by omega) (by omega) (by omega)).mono ?_
             rw [show (2 : Int).toNat = 2 from rfl]
             rintro e_ u2 ⟨b6, A6, c6, x6, B6, d6, y6, rfl, HQa6, HQb6, HQc6, hx6, hy6, hB⟩
             have H_u2 := Lib.hid (Mo.num (Mo.num (Mo.call (by first | exact H_u1.out | exact ((H_u1.out).alloc' (u1.heap.size) rfl (nd_rat false none none 0 0 0 0))) hB) hx6) hy6)
             have k0u2c0 := ((H_u2.out.var 0 rfl)).cell 0 rfl
             have k0u2c1 := ((H_u2.out.var 0 rfl)).cell 1 rfl
             have k0u2c2 := ((H_u2.out.var 0 rfl)).cell 2 rfl
             have HV6 : Hid (qv b6 x6 y6 = mkRat (2 * (k : Int) - 1) 2) := qv_nf HQa6.out HQb6.out HQc6.out
             have HL6 : Hid (x6.length ≤ 1 ∧ y6.length ≤ 1) := szl HQb6.out HQc6.out (sz_half (by omega))
             have hcfu2 := cell_belowE H_u2.out.below HCF.out
             try have hnfu2 := Nat.ne_of_gt (Nat.lt_of_lt_of_le HBF.out (H_u2.out.vars 2 _ _ _ rfl).2.2)
             try have x0c0u2 := (H_u2.out.var 2 rfl).cell 0 rfl
             try have x0f0u2 := (H_u2.out.var 2 rfl).thaw 0
             try have x0c1u2 := (H_u2.out.var 2 rfl).cell 1 rfl
             try have x0f1u2 := (H_u2.out.var 2 rfl).thaw 1
             try have x0c2u2 := (H_u2.out.var 2 rfl).cell 2 rfl
             try have x0f2u2 := (H_u2.out.var 2 rfl).thaw 2
             try have x0n0u2 := H_u2.out.apart 2 0 _ _ _ _ _ _ rfl rfl (by decide)
             try have x0n1u2 := H_u2.out.apart 2 1 _ _ _ _ _ _ rfl rfl (by decide)
             clear hB hx6 hy6)
          | (go_at_call 38
             refine (rqsub_ok _ xb b6 XA XD A6 B6 xc xe c6 d6 xn xd x6 y6 (by first | exact HXN.out.below (H_u2.out).below | exact HXN.out.below (((H_u2.out).alloc' (u2.heap.size) rfl (nd_rat false none none 0 0 0 0))).below) (by first | exact HXD.out.below (H_u2.out).below | exact HXD.out.below (((H_u2.out).alloc' (u2.heap.size) rfl (nd_rat false none none 0 0 0 0))).below) (by first | exact (H_u2.out).rn 2 rfl | exact (((H_u2.out).alloc' (u2.heap.size) rfl (nd_rat false none none 0 0 0 0))).rn 2 rfl) (by first | exact (H_u2.out).rn 3 rfl | exact (((H_u2.out).alloc' (u2.heap.size) rfl (nd_rat false none none 0 0 0 0))).rn 3 rfl) (by have := HL6.out; omega) (by have := HL6.out; omega) (by have := HL6.out; omega)).mono ?_
             rintro e_ u3 ⟨b7, A7, c7, x7, B7, d7, y7, rfl, HQa7, HQb7, HQc7, hx7, hy7, hB⟩
             have H_u3 := Lib.hid (Mo.num (Mo.num (Mo.call (by first | exact H_u2.out | exact ((H_u2.out).alloc' (u2.heap.size) rfl (nd_rat false none none 0 0 0 0))) hB) hx7) hy7)
             have k0u3c0 := ((H_u3.out.var 0 rfl)).cell 0 rfl
             have k0u3c1 := ((H_u3.out.var 0 rfl)).cell 1 rfl
             have k0u3c2 := ((H_u3.out.var 0 rfl)).cell 2 rfl
             rw [HX.out, HV6.out, HDF.out] at HQa7 HQb7 HQc7
             have HV7 : Hid (qv b7 x7 y7 = df) := qv_nf HQa7.out HQb7.out HQc7.out
             have HL7 : Hid (x7.length ≤ 35184372088304 ∧ y7.length ≤ 35184372088304) := szl HQb7.out HQc7.out (HSD.out)
             have hcfu3 := cell_belowE H_u3.out.below HCF.out
             try have hnfu3 := Nat.ne_of_gt (Nat.lt_of_lt_of_le HBF.out (H_u3.out.vars 2 _ _ _ rfl).2.2)
             try have x0c0u3 := (H_u3.out.var 2 rfl).cell 0 rfl
             try have x0f0u3 := (H_u3.out.var 2 rfl).thaw 0
             try have x0c1u3 := (H_u3.out.var 2 rfl).cell 1 rfl
             try have x0f1u3 := (H_u3.out.var 2 rfl).thaw 1
             try have x0c2u3 := (H_u3.out.var 2 rfl).cell 2 rfl
             try have x0f2u3 := (H_u3.out.var 2 rfl).thaw 2
             try have x0n0u3 := H_u3.out.apart 2 0 _ _ _ _ _ _ rfl rfl (by decide)
             try have x0n1u3 := H_u3.out.apart 2 1 _ _ _ _ _ _ rfl rfl (by decide)
             clear hB hx7 hy7)
          | (go_at_call 37
             refine (rqmul_ok _ b5 b7 A5 B5 A7 B7 c5 d5 c7 d7 x5 y5 x7 y7 (by first | exact (H_u3.out).rn 0 rfl | exact (((H_u3.out).alloc' (u3.heap.size) rfl (nd_rat false none none 0 0 0 0))).rn 0 rfl) (by first | exact (H_u3.out).rn 1 rfl | exact (((H_u3.out).alloc' (u3.heap.size) rfl (nd_rat false none none 0 0 0 0))).rn 1 rfl) (by first | exact (H_u3.out).rn 4 rfl | exact (((H_u3.out).alloc' (u3.heap.size) rfl (nd_rat false none none 0 0 0 0))).rn 4 rfl) (by first | exact (H_u3.out).rn 5 rfl | exact (((H_u3.out).alloc' (u3.heap.size) rfl (nd_rat false none none 0 0 0 0))).rn 5 rfl) (by have := HL5.out; have := HL7.out; omega) (by have := HL5.out; have := HL7.out; omega) (by have := HL5.out; have := HL7.out; omega) (by have := HL5.out; have := HL7.out; omega) (by have := HL5.out; have := HL7.out; omega) (by have := HL5.out; have := HL7.out; omega)).mono ?_
             rintro e_ u4 ⟨b8, A8, c8, x8, B8, d8, y8, rfl, HQa8, HQb8, HQc8, hx8, hy8, hB⟩
             have H_u4 := Lib.hid (Mo.num (Mo.num (Mo.call (by first | exact H_u3.out | exact ((H_u3.out).alloc' (u3.heap.size) rfl (nd_rat false none none 0 0 0 0))) hB) hx8) hy8)
             have k0u4c0 := ((H_u4.out.var 0 rfl)).cell 0 rfl
             have k0u4c1 := ((H_u4.out.var 0 rfl)).cell 1 rfl
             have k0u4c2 := ((H_u4.out.var 0 rfl)).cell 2 rfl
             rw [HV5.out, HV7.out, HPT.out] at HQa8 HQb8 HQc8
             have hcfu4 := cell_belowE H_u4.out.below HCF.out
             try have hnfu4 := Nat.ne_of_gt (Nat.lt_of_lt_of_le HBF.out (H_u4.out.vars 2 _ _ _ rfl).2.2)
             have hnl := Nat.ne_of_gt (Nat.lt_of_lt_of_le HBF.out H_u4.out.below.size)
             try have x0c0u4 := (H_u4.out.var 2 rfl).cell 0 rfl
             try have x0f0u4 := (H_u4.out.var 2 rfl).thaw 0
             try have x0c1u4 := (H_u4.out.var 2 rfl).cell 1 rfl
             try have x0f1u4 := (H_u4.out.var 2 rfl).thaw 1
             try have x0c2u4 := (H_u4.out.var 2 rfl).cell 2 rfl
             try have x0f2u4 := (H_u4.out.var 2 rfl).thaw 2
             try have x0n0u4 := H_u4.out.apart 2 0 _ _ _ _ _ _ rfl rfl (by decide)
             try have x0n1u4 := H_u4.out.apart 2 1 _ _ _ _ _ _ rfl rfl (by decide)
             try have p0cu4 := ((((H_u4.out).alloc' (t := 28) (cs := #[.bool false, .slice none 0 0, .slice none 0 0]) (u4.heap.size) rfl (nd_rat _ _ _ _ _ _ _))).var 2 rfl).cell 0 rfl
             try have p0fu4 := ((((H_u4.out).alloc' (t := 28) (cs := #[.bool false, .slice none 0 0, .slice none 0 0]) (u4.heap.size) rfl (nd_rat _ _ _ _ _ _ _))).var 2 rfl).thaw 0
             try have p1cu4 := ((((H_u4.out).alloc' (t := 28) (cs := #[.bool false, .slice none 0 0, .slice none 0 0]) (u4.heap.size) rfl (nd_rat _ _ _ _ _ _ _))).var 2 rfl).cell 1 rfl
             try have p1fu4 := ((((H_u4.out).alloc' (t := 28) (cs := #[.bool false, .slice none 0 0, .slice none 0 0]) (u4.heap.size) rfl (nd_rat _ _ _ _ _ _ _))).var 2 rfl).thaw 1
             try have p2cu4 := ((((H_u4.out).alloc' (t := 28) (cs := #[.bool false, .slice none 0 0, .slice none 0 0]) (u4.heap.size) rfl (nd_rat _ _ _ _ _ _ _))).var 2 rfl).cell 2 rfl
             try have p2fu4 := ((((H_u4.out).alloc' (t := 28) (cs := #[.bool false, .slice none 0 0, .slice none 0 0]) (u4.heap.size) rfl (nd_rat _ _ _ _ _ _ _))).var 2 rfl).thaw 2
             try have pn0u4 := (((H_u4.out).alloc' (t := 28) (cs := #[.bool false, .slice none 0 0, .slice none 0 0]) (u4.heap.size) rfl (nd_rat _ _ _ _ _ _ _))).apart 2 0 _ _ _ _ _ _ rfl rfl (by decide)
             try have pn1u4 := (((H_u4.out).alloc' (t := 28) (cs := #[.bool false, .slice none 0 0, .slice none 0 0]) (u4.heap.size) rfl (nd_rat _ _ _ _ _ _ _))).apart 2 1 _ _ _ _ _ _ rfl rfl (by decide)
             clear hB hx8 hy8))
      | fail
      all_goals (go_wp2_with fail; go_meet)
      · exact ⟨_, b8, A8, c8, x8, B8, d8, y8, rfl, HQa8, HQb8, HQc8, (((H_u4.out.sub [6, 7])).alloc' (t := 28) (cs := #[.bool b8, .slice A8 x8.length c8, .slice B8 y8.length d8]) (u4.heap.size) rfl (nd_rat _ _ _ _ _ _ _))⟩
      · exact ⟨_, b8, A8, c8, x8, B8, d8, y8, rfl, HQa8, HQb8, HQc8, (((((((H_u4.out.sub [6, 7])).set 2 (j := 0) (v := .bool b8) (cs' := #[.bool b8, .slice none 0 0, .slice none 0 0]) rfl rfl (nd_rat _ _ _ _ _ _ _))).set 2 (j := 1) (v := .slice A8 x8.length c8) (cs' := #[.bool b8, .slice A8 x8.length c8, .slice none 0 0]) rfl rfl (nd_rat _ _ _ _ _ _ _))).set 2 (j := 2) (v := .slice B8 y8.length d8) (cs' := #[.bool b8, .slice A8 x8.length c8, .slice B8 y8.length d8]) rfl rfl (nd_rat _ _ _ _ _ _ _))⟩
      · exact ⟨_, b8, A8, c8, x8, B8, d8, y8, rfl, HQa8, HQb8, HQc8, (((((((H_u4.out.sub [6, 7])).set 2 (j := 0) (v := .bool b8) (cs' := #[.bool b8, .slice none 0 0, .slice none 0 0]) rfl rfl (nd_rat _ _ _ _ _ _ _))).set 2 (j := 1) (v := .slice A8 x8.length c8) (cs' := #[.bool b8, .slice A8 x8.length c8, .slice none 0 0]) rfl rfl (nd_rat _ _ _ _ _ _ _))).set 2 (j := 2) (v := .slice B8 y8.length d8) (cs' := #[.bool b8, .slice A8 x8.length c8, .slice B8 y8.length d8]) rfl rfl (nd_rat _ _ _ _ _ _ _))⟩
      · exact ⟨_, b8, A8, c8, x8, B8, d8, y8, rfl, HQa8, HQb8, HQc8, (((((((H_u4.out.sub [6, 7])).set 2 (j := 0) (v := .bool b8) (cs' := #[.bool b8, .slice none 0 0, .slice none 0 0]) rfl rfl (nd_rat _ _ _ _ _ _ _))).set 2 (j := 1) (v := .slice A8 x8.length c8) (cs' := #[.bool b8, .slice A8 x8.length c8, .slice none 0 0]) rfl rfl (nd_rat _ _ _ _ _ _ _))).set 2 (j := 2) (v := .slice B8 y8.length d8) (cs' := #[.bool b8, .slice A8 x8.length c8, .slice B8 y8.length d8]) rfl rfl (nd_rat _ _ _ _ _ _ _))⟩
      · exact ⟨_, b8, A8, c8, x8, B8, d8, y8, rfl, HQa8, HQb8, HQc8, (((((((H_u4.out.sub [6, 7])).set 2 (j := 0) (v := .bool b8) (cs' := #[.bool b8, .slice none 0 0, .slice none 0 0]) rfl rfl (nd_rat _ _ _ _ _ _ _))).set 2 (j := 1) (v := .slice A8 x8.length c8) (cs' := #[.bool b8, .slice A8 x8.length c8, .slice none 0 0]) rfl rfl (nd_rat _ _ _ _ _ _ _))).set 2 (j := 2) (v := .slice B8 y8.length d8) (cs' := #[.bool b8, .slice A8 x8.length c8, .slice B8 y8.length d8]) rfl rfl (nd_rat _ _ _ _ _ _ _))⟩
    case rest =>
      obtain ⟨g11, b8, A8, c8, x8, B8, d8, y8, rfl, HQa8, HQb8, HQc8, H_wd⟩ := hcut
      obtain ⟨wd, rfl⟩ : ∃ W, W = wc := ⟨_, rfl⟩
      have HV8 : Hid (qv b8 x8 y8 = pt) := qv_nf HQa8.out HQb8.out HQc8.out
      have HL8 : Hid (x8.length ≤ 35184372088306 ∧ y8.length ≤ 35184372088306) := szl HQb8.out HQc8.out (HSP.out)
      clear e5 e6 e7
      go_upto_region 12 with fail
      have k2wdc0 := ((H_wd.out.var 2 rfl)).cell 0 rfl
      have k2wdc1 := ((H_wd.out.var 2 rfl)).cell 1 rfl
      have k2wdc2 := ((H_wd.out.var 2 rfl)).cell 2 rfl
      have newd10 : gW1 ≠ w.heap.size := H_wd.out.apart 1 0 _ _ _ _ _ _ rfl rfl (by decide)
      have newd12 : gW1 ≠ g11 := H_wd.out.apart 1 2 _ _ _ _ _ _ rfl rfl (by decide)
      have H_wdd := Lib.hid H_wd.out.drew
      first
      | go_region_held3 (fun w' => w'.cell? ⟨g11, 0, none⟩ = some (.bool b8) ∧ w'.cell? ⟨g11, 1, none⟩ = some (.slice A8 x8.length c8) ∧ w'.cell? ⟨g11, 2, none⟩ = some (.slice B8 y8.length d8)) (go_keep)
         (first
          | (go_at_call 35
             refine (rbelow_ok _ (some ad) fc f (by first | exact HR.out.below (H_wdd.out).below) hl61 HFQ.out k (Nat.le_of_lt hlt) HSK.out).mono ?_
             rintro e_ v1 ⟨rfl, hB⟩
             have H_v1 := Lib.hid (Mo.call H_wdd.out hB)
             have k2v1c0 := ((H_v1.out.var 2 rfl)).cell 0 rfl
             have k2v1c1 := ((H_v1.out.var 2 rfl)).cell 1 rfl
             have k2v1c2 := ((H_v1.out.var 2 rfl)).cell 2 rfl
             clear hB)
          | (go_at_call_of 34 sk
             refine (rfraction_ok _ sk 1 (by omega) (by omega) (by omega) (by omega)).mono ?_
             rw [show (1 : Int).toNat = 1 from rfl, mkRat_int]
             rintro e_ v2 ⟨b10, A10, c10, x10, B10, d10, y10, rfl, HQa10, HQb10, HQc10, hx10, hy10, hB⟩
             have H_v2 := Lib.hid (Mo.num (Mo.num (Mo.call H_v1.out hB) hx10) hy10)
             have k2v2c0 := ((H_v2.out.var 2 rfl)).cell 0 rfl
             have k2v2c1 := ((H_v2.out.var 2 rfl)).cell 1 rfl
             have k2v2c2 := ((H_v2.out.var 2 rfl)).cell 2 rfl
             have HV10 : Hid (qv b10 x10 y10 = ((sk : Int) : Rat)) := qv_nf HQa10.out HQb10.out HQc10.out
             have HL10 : Hid (x10.length ≤ 1 ∧ y10.length ≤ 1) := szl HQb10.out HQc10.out (sz_int (by omega))
             clear hB hx10 hy10)
          | (go_at_call 39
             refine (rqadd_ok _ b10 b8 A10 B10 A8 B8 c10 d10 c8 d8 x10 y10 x8 y8 (H_v2.out.rn 2 rfl) (H_v2.out.rn 3 rfl) (H_v2.out.rn 0 rfl) (H_v2.out.rn 1 rfl) (by have := HL10.out; have := HL8.out; omega) (by have := HL10.out; have := HL8.out; omega) (by have := HL10.out; have := HL8.out; omega)).mono ?_
             rintro e_ v3 ⟨b11, A11, c11, x11, B11, d11, y11, rfl, HQa11, HQb11, HQc11, hx11, hy11, hB⟩
             have H_v3 := Lib.hid (Mo.num (Mo.num (Mo.call H_v2.out hB) hx11) hy11)
             have k2v3c0 := ((H_v3.out.var 2 rfl)).cell 0 rfl
             have k2v3c1 := ((H_v3.out.var 2 rfl)).cell 1 rfl
             have k2v3c2 := ((H_v3.out.var 2 rfl)).cell 2 rfl
             rw [HV10.out, HV8.out, HSU.out] at HQa11 HQb11 HQc11
             have HV11 : Hid (qv b11 x11 y11 = su) := qv_nf HQa11.out HQb11.out HQc11.out
             have HL11 : Hid (x11.length ≤ 35184372088310 ∧ y11.length ≤ 35184372088310) := szl HQb11.out HQc11.out (HSS.out)
             clear hB hx11 hy11)
          | (go_at_call 34
             refine (rfraction_ok _ 1 T (by omega) (by omega) (by omega) (by omega)).mono ?_
             rintro e_ v4 ⟨b12, A12, c12, x12, B12, d12, y12, rfl, HQa12, HQb12, HQc12, hx12, hy12, hB⟩
             have H_v4 := Lib.hid (Mo.num (Mo.num (Mo.call H_v3.out hB) hx12) hy12)
             have k2v4c0 := ((H_v4.out.var 2 rfl)).cell 0 rfl
             have k2v4c1 := ((H_v4.out.var 2 rfl)).cell 1 rfl
             have k2v4c2 := ((H_v4.out.var 2 rfl)).cell 2 rfl
             have HV12 : Hid (qv b12 x12 y12 = mkRat 1 (T).toNat) := qv_nf HQa12.out HQb12.out HQc12.out
             have HL12 : Hid (x12.length ≤ 2 ∧ y12.length ≤ 2) := szl HQb12.out HQc12.out (sz_mk (by omega) (by decide) (by omega))
             clear hB hx12 hy12)
          | (go_at_call 37
             refine (rqmul_ok _ b11 b12 A11 B11 A12 B12 c11 d11 c12 d12 x11 y11 x12 y12 (H_v4.out.rn 4 rfl) (H_v4.out.rn 5 rfl) (H_v4.out.rn 6 rfl) (H_v4.out.rn 7 rfl) (by have := HL11.out; have := HL12.out; omega) (by have := HL11.out; have := HL12.out; omega) (by have := HL11.out; have := HL12.out; omega) (by have := HL11.out; have := HL12.out; omega) (by have := HL11.out; have := HL12.out; omega) (by have := HL11.out; have := HL12.out; omega)).mono ?_
             rintro e_ v5 ⟨b15, A15, c15, x15, B15, d15, y15, rfl, HQa15, HQb15, HQc15, hx15, hy15, hB⟩
             have H_v5 := Lib.hid (Mo.num (Mo.num (Mo.call H_v4.out hB) hx15) hy15)
             have k2v5c0 := ((H_v5.out.var 2 rfl)).cell 0 rfl
             have k2v5c1 := ((H_v5.out.var 2 rfl)).cell 1 rfl
             have k2v5c2 := ((H_v5.out.var 2 rfl)).cell 2 rfl
             have k1v5c0 := ((H_v5.out.var 1 rfl)).cell 0 rfl
             have k1v5c1 := ((H_v5.out.var 1 rfl)).cell 1 rfl
             have k1v5c2 := ((H_v5.out.var 1 rfl)).cell 2 rfl
             have k1v5f0 := ((H_v5.out.var 1 rfl)).thaw 0
             have k1v5f1 := ((H_v5.out.var 1 rfl)).thaw 1
             have k1v5f2 := ((H_v5.out.var 1 rfl)).thaw 2
             rw [HV11.out, HV12.out, HRV.out] at HQa15 HQb15 HQc15
             clear hB hx15 hy15))
      | fail
      go_wp2_with fail
      have hr0 := (H_v5.out).set 1 (j := 0) (v := .bool b15) (cs' := #[.bool b15, .slice none 0 0, .slice none 0 0]) rfl rfl (nd_rat _ _ _ _ _ _ _)
      have hr1 := (hr0).set 1 (j := 1) (v := .slice A15 x15.length c15) (cs' := #[.bool b15, .slice A15 x15.length c15, .slice none 0 0]) rfl rfl (nd_rat _ _ _ _ _ _ _)
      have hr2 := (hr1).set 1 (j := 2) (v := .slice B15 y15.length d15) (cs' := #[.bool b15, .slice A15 x15.length c15, .slice B15 y15.length d15]) rfl rfl (nd_rat _ _ _ _ _ _ _)
      have v3 : Vr (((v5.setCell ⟨gW1, 0, none⟩ (.bool b15)).setCell ⟨gW1, 1, none⟩ (.slice A15 x15.length c15)).setCell ⟨gW1, 2, none⟩ (.slice B15 y15.length d15)) gW1 28 #[.bool b15, .slice A15 x15.length c15, .slice B15 y15.length d15] := hr2.var 1 rfl
      refine bodyPost_ret (v := .tuple #[.agg #[.bool b15, .slice A15 x15.length c15, .slice B15 y15.length d15], .int .i64 0]) (by simp [results, Tryz.results7, go_sem, v3.cell 0 rfl, v3.cell 1 rfl, v3.cell 2 rfl]) rfl ?_
      exact ⟨b15, A15, c15, x15, B15, d15, y15, rfl, HQa15, HQb15, HQc15, hr2.rn 8 rfl, hr2.rn 9 rfl, hr2.below⟩

end Go.Proofs.YtocpncjmcaecoaaGreat.M
