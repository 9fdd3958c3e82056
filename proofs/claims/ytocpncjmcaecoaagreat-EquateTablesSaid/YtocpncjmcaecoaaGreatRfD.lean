/- Equated scores and their table by the reference. -/
import Derived.Test.YtocpncjmcaecoaaGreatRfC
import Derived.Test.YtocpncjmcaecoaaGreatOwnQ
namespace Go.Proofs.YtocpncjmcaecoaaGreat.M
set_option maxRecDepth 10000
open Go.RowKit
set_option linter.unusedVariables false
set_option linter.unusedSimpArgs false

set_option maxHeartbeats 3200000 in
theorem rscore_ok (w : World) (FA : Option Addr) (fc : Nat) (f : List Int) (GA : Option Addr) (gc : Nat) (g : List Int) (hf : Rk w .i64 FA fc f) (hg : Rk w .i64 GA gc g) (x : Int) :
    Calls Tryz.prog 15 #[.slice FA f.length fc, .slice GA g.length gc, .int .i64 x] w (RetSc f g x w) := by
  have HR := Lib.hid hf
  have HG := Lib.hid hg
  have hcl := hf.1
  have hcm := hf.2.1
  have hgl := hg.1
  have hgm := hg.2.1
  clear hf hg
  go_enter Tryz.func15, Tryz.ntmps15
  go_upto_region 1 with fail
  obtain ⟨W, hW⟩ : ∃ W, W = (w.alloc (.cells #[.bool false, .slice none 0 0, .slice none 0 0] 28)) := ⟨_, rfl⟩
  rw [← hW]
  have H_W : Mo w W [(w.heap.size, 28, #[.bool false, .slice none 0 0, .slice none 0 0])] [] := by
    rw [hW]
    have h := ((Mo.start w).alloc (t := 28) (cs := #[.bool false, .slice none 0 0, .slice none 0 0]) (nd_rat _ _ _ _ _ _ _))
    simp only [size_alloc, List.nil_append, List.cons_append] at h
    exact h
  clear hW
  have H_W := Lib.hid H_W
  go_wp2_with fail
  refine (rvalid_ok W FA fc f (HR.out.below H_W.out.below)).mono ?_
  rintro e_ W ⟨rfl, rfl⟩
  obtain ⟨E, hE⟩ : ∃ E, validE f = E := ⟨_, rfl⟩
  have HE := Lib.hid hE
  rw [hE]
  clear hE
  by_cases h0 : E = 0
  rotate_left
  · have e1 : (E == 0) = false := beq_eq_false_iff_ne.2 h0
    have e2 : (E != 0) = true := by simpa using h0
    have hP : pairE f g = E := by unfold pairE; rw [HE.out, if_neg h0]
    have HN0 : Hid (ScoreR f g x 0 E) := .inl ⟨by rw [hP]; exact h0, rfl, hP.symm⟩
    clear h0 hP
    go_wp2_with fail
    refine (rfraction_ok W 0 1 (by omega) (by omega) (by omega) (by omega)).mono ?_
    rw [show (1 : Int).toNat = 1 from rfl, mkRat_int]
    rintro e_ w2 ⟨b9, A9, c9, x9, B9, d9, y9, rfl, HQa9, HQb9, HQc9, hx9, hy9, hB⟩
    have H_w2 := Lib.hid (Mo.num (Mo.num (Mo.call H_W.out hB) hx9) hy9)
    have k0w2c0 := ((H_w2.out.var 0 rfl)).cell 0 rfl
    have k0w2c1 := ((H_w2.out.var 0 rfl)).cell 1 rfl
    have k0w2c2 := ((H_w2.out.var 0 rfl)).cell 2 rfl
    have k0w2f0 := ((H_w2.out.var 0 rfl)).thaw 0
    have k0w2f1 := ((H_w2.out.var 0 rfl)).thaw 1
    have k0w2f2 := ((H_w2.out.var 0 rfl)).thaw 2
    clear hB hx9 hy9
    go_wp2_with fail
    have hr0 := (H_w2.out).set 0 (j := 0) (v := .bool b9) (cs' := #[.bool b9, .slice none 0 0, .slice none 0 0]) rfl rfl (nd_rat _ _ _ _ _ _ _)
    have hr1 := (hr0).set 0 (j := 1) (v := .slice A9 x9.length c9) (cs' := #[.bool b9, .slice A9 x9.length c9, .slice none 0 0]) rfl rfl (nd_rat _ _ _ _ _ _ _)
    have hr2 := (hr1).set 0 (j := 2) (v := .slice B9 y9.length d9) (cs' := #[.bool b9, .slice A9 x9.length c9, .slice B9 y9.length d9]) rfl rfl (nd_rat _ _ _ _ _ _ _)
    have v3 : Vr (((w2.setCell ⟨w.heap.size, 0, none⟩ (.bool b9)).setCell ⟨w.heap.size, 1, none⟩ (.slice A9 x9.length c9)).setCell ⟨w.heap.size, 2, none⟩ (.slice B9 y9.length d9)) w.heap.size 28 #[.bool b9, .slice A9 x9.length c9, .slice B9 y9.length d9] := hr2.var 0 rfl
    refine bodyPost_ret (v := .tuple #[.agg #[.bool b9, .slice A9 x9.length c9, .slice B9 y9.length d9], .int .i64 E]) (by simp [results, Tryz.results15, go_sem, v3.cell 0 rfl, v3.cell 1 rfl, v3.cell 2 rfl]) rfl ?_
    exact ⟨0, E, HN0, b9, A9, c9, x9, B9, d9, y9, rfl, HQa9, HQb9, HQc9, hr2.rn 0 rfl, hr2.rn 1 rfl, hr2.below⟩
  subst h0
  go_wp2_with fail
  refine (rvalid_ok W GA gc g (HG.out.below H_W.out.below)).mono ?_
  rintro e_ W ⟨rfl, rfl⟩
  obtain ⟨G, hG⟩ : ∃ G, validE g = G := ⟨_, rfl⟩
  have HGE := Lib.hid hG
  rw [hG]
  clear hG
  have HPG : Hid (pairE f g = G) := by show _ = _; unfold pairE; rw [if_pos HE.out]; exact HGE.out
  by_cases h0 : G = 0
  rotate_left
  · have e1 : (G == 0) = false := beq_eq_false_iff_ne.2 h0
    have e2 : (G != 0) = true := by simpa using h0
    have HN0 : Hid (ScoreR f g x 0 G) := .inl ⟨by rw [HPG.out]; exact h0, rfl, HPG.out.symm⟩
    clear h0
    go_wp2_with fail
    refine (rfraction_ok W 0 1 (by omega) (by omega) (by omega) (by omega)).mono ?_
    rw [show (1 : Int).toNat = 1 from rfl, mkRat_int]
    rintro e_ w2 ⟨b9, A9, c9, x9, B9, d9, y9, rfl, HQa9, HQb9, HQc9, hx9, hy9, hB⟩
    have H_w2 := Lib.hid (Mo.num (Mo.num (Mo.call H_W.out hB) hx9) hy9)
    have k0w2c0 := ((H_w2.out.var 0 rfl)).cell 0 rfl
    have k0w2c1 := ((H_w2.out.var 0 rfl)).cell 1 rfl
    have k0w2c2 := ((H_w2.out.var 0 rfl)).cell 2 rfl
    have k0w2f0 := ((H_w2.out.var 0 rfl)).thaw 0
    have k0w2f1 := ((H_w2.out.var 0 rfl)).thaw 1
    have k0w2f2 := ((H_w2.out.var 0 rfl)).thaw 2
    clear hB hx9 hy9
    go_wp2_with fail
    have hr0 := (H_w2.out).set 0 (j := 0) (v := .bool b9) (cs' := #[.bool b9, .slice none 0 0, .slice none 0 0]) rfl rfl (nd_rat _ _ _ _ _ _ _)
    have hr1 := (hr0).set 0 (j := 1) (v := .slice A9 x9.length c9) (cs' := #[.bool b9, .slice A9 x9.length c9, .slice none 0 0]) rfl rfl (nd_rat _ _ _ _ _ _ _)
    have hr2 := (hr1).set 0 (j := 2) (v := .slice B9 y9.length d9) (cs' := #[.bool b9, .slice A9 x9.length c9, .slice B9 y9.length d9]) rfl rfl (nd_rat _ _ _ _ _ _ _)
    have v3 : Vr (((w2.setCell ⟨w.heap.size, 0, none⟩ (.bool b9)).setCell ⟨w.heap.size, 1, none⟩ (.slice A9 x9.length c9)).setCell ⟨w.heap.size, 2, none⟩ (.slice B9 y9.length d9)) w.heap.size 28 #[.bool b9, .slice A9 x9.length c9, .slice B9 y9.length d9] := hr2.var 0 rfl
    refine bodyPost_ret (v := .tuple #[.agg #[.bool b9, .slice A9 x9.length c9, .slice B9 y9.length d9], .int .i64 G]) (by simp [results, Tryz.results15, go_sem, v3.cell 0 rfl, v3.cell 1 rfl, v3.cell 2 rfl]) rfl ?_
    exact ⟨0, G, HN0, b9, A9, c9, x9, B9, d9, y9, rfl, HQa9, HQb9, HQc9, hr2.rn 0 rfl, hr2.rn 1 rfl, hr2.below⟩
  subst h0
  obtain ⟨hl61, hfq, hTp⟩ := valid_parts HE.out
  clear hfq hTp
  by_cases h1 : x < 0
  · have d1 : decide (x < 0) = true := decide_eq_true h1
    have HN0 : Hid (ScoreR f g x 0 3) := .inr ⟨HPG.out, .inl ⟨.inl h1, rfl, rfl⟩⟩
    clear h1
    go_wp2_with fail
    refine (rfraction_ok W 0 1 (by omega) (by omega) (by omega) (by omega)).mono ?_
    rw [show (1 : Int).toNat = 1 from rfl, mkRat_int]
    rintro e_ w2 ⟨b9, A9, c9, x9, B9, d9, y9, rfl, HQa9, HQb9, HQc9, hx9, hy9, hB⟩
    have H_w2 := Lib.hid (Mo.num (Mo.num (Mo.call H_W.out hB) hx9) hy9)
    have k0w2c0 := ((H_w2.out.var 0 rfl)).cell 0 rfl
    have k0w2c1 := ((H_w2.out.var 0 rfl)).cell 1 rfl
    have k0w2c2 := ((H_w2.out.var 0 rfl)).cell 2 rfl
    have k0w2f0 := ((H_w2.out.var 0 rfl)).thaw 0
    have k0w2f1 := ((H_w2.out.var 0 rfl)).thaw 1
    have k0w2f2 := ((H_w2.out.var 0 rfl)).thaw 2
    clear hB hx9 hy9
    go_wp2_with fail
    have hr0 := (H_w2.out).set 0 (j := 0) (v := .bool b9) (cs' := #[.bool b9, .slice none 0 0, .slice none 0 0]) rfl rfl (nd_rat _ _ _ _ _ _ _)
    have hr1 := (hr0).set 0 (j := 1) (v := .slice A9 x9.length c9) (cs' := #[.bool b9, .slice A9 x9.length c9, .slice none 0 0]) rfl rfl (nd_rat _ _ _ _ _ _ _)
    have hr2 := (hr1).set 0 (j := 2) (v := .slice B9 y9.length d9) (cs' := #[.bool b9, .slice A9 x9.length c9, .slice B9 y9.length d9]) rfl rfl (nd_rat _ _ _ _ _ _ _)
    have v3 : Vr (((w2.setCell ⟨w.heap.size, 0, none⟩ (.bool b9)).setCell ⟨w.heap.size, 1, none⟩ (.slice A9 x9.length c9)).setCell ⟨w.heap.size, 2, none⟩ (.slice B9 y9.length d9)) w.heap.size 28 #[.bool b9, .slice A9 x9.length c9, .slice B9 y9.length d9] := hr2.var 0 rfl
    refine bodyPost_ret (v := .tuple #[.agg #[.bool b9, .slice A9 x9.length c9, .slice B9 y9.length d9], .int .i64 3]) (by simp [results, Tryz.results15, go_sem, v3.cell 0 rfl, v3.cell 1 rfl, v3.cell 2 rfl]) rfl ?_
    exact ⟨0, 3, HN0, b9, A9, c9, x9, B9, d9, y9, rfl, HQa9, HQb9, HQc9, hr2.rn 0 rfl, hr2.rn 1 rfl, hr2.below⟩
  have d1 : decide (x < 0) = false := decide_eq_false h1
  by_cases h2 : (f.length : Int) ≤ x
  · have d2 : decide ((f.length : Int) ≤ x) = true := decide_eq_true h2
    have HN0 : Hid (ScoreR f g x 0 3) := .inr ⟨HPG.out, .inl ⟨.inr h2, rfl, rfl⟩⟩
    clear h1 h2
    go_wp2_with fail
    refine (rfraction_ok W 0 1 (by omega) (by omega) (by omega) (by omega)).mono ?_
    rw [show (1 : Int).toNat = 1 from rfl, mkRat_int]
    rintro e_ w2 ⟨b9, A9, c9, x9, B9, d9, y9, rfl, HQa9, HQb9, HQc9, hx9, hy9, hB⟩
    have H_w2 := Lib.hid (Mo.num (Mo.num (Mo.call H_W.out hB) hx9) hy9)
    have k0w2c0 := ((H_w2.out.var 0 rfl)).cell 0 rfl
    have k0w2c1 := ((H_w2.out.var 0 rfl)).cell 1 rfl
    have k0w2c2 := ((H_w2.out.var 0 rfl)).cell 2 rfl
    have k0w2f0 := ((H_w2.out.var 0 rfl)).thaw 0
    have k0w2f1 := ((H_w2.out.var 0 rfl)).thaw 1
    have k0w2f2 := ((H_w2.out.var 0 rfl)).thaw 2
    clear hB hx9 hy9
    go_wp2_with fail
    have hr0 := (H_w2.out).set 0 (j := 0) (v := .bool b9) (cs' := #[.bool b9, .slice none 0 0, .slice none 0 0]) rfl rfl (nd_rat _ _ _ _ _ _ _)
    have hr1 := (hr0).set 0 (j := 1) (v := .slice A9 x9.length c9) (cs' := #[.bool b9, .slice A9 x9.length c9, .slice none 0 0]) rfl rfl (nd_rat _ _ _ _ _ _ _)
    have hr2 := (hr1).set 0 (j := 2) (v := .slice B9 y9.length d9) (cs' := #[.bool b9, .slice A9 x9.length c9, .slice B9 y9.length d9]) rfl rfl (nd_rat _ _ _ _ _ _ _)
    have v3 : Vr (((w2.setCell ⟨w.heap.size, 0, none⟩ (.bool b9)).setCell ⟨w.heap.size, 1, none⟩ (.slice A9 x9.length c9)).setCell ⟨w.heap.size, 2, none⟩ (.slice B9 y9.length d9)) w.heap.size 28 #[.bool b9, .slice A9 x9.length c9, .slice B9 y9.length d9] := hr2.var 0 rfl
    refine bodyPost_ret (v := .tuple #[.agg #[.bool b9, .slice A9 x9.length c9, .slice B9 y9.length d9], .int .i64 3]) (by simp [results, Tryz.results15, go_sem, v3.cell 0 rfl, v3.cell 1 rfl, v3.cell 2 rfl]) rfl ?_
    exact ⟨0, 3, HN0, b9, A9, c9, x9, B9, d9, y9, rfl, HQa9, HQb9, HQc9, hr2.rn 0 rfl, hr2.rn 1 rfl, hr2.below⟩
  have d2 : decide ((f.length : Int) ≤ x) = false := decide_eq_false h2
  have HNX : Hid (¬ (x < 0 ∨ (f.length : Int) ≤ x)) := fun h => by omega
  have hx0 : 0 ≤ x := by omega
  have hx1 : x < (f.length : Int) := by omega
  clear h1 h2
  go_wp2_with fail
  refine (rfraction_ok W x 1 (by omega) (by omega) (by omega) (by omega)).mono ?_
  rw [show (1 : Int).toNat = 1 from rfl, mkRat_int]
  rintro e_ w1 ⟨b1, A1, c1, x1, B1, d1, y1, rfl, HQa1, HQb1, HQc1, hx1, hy1, hB⟩
  have H_w1 := Lib.hid (Mo.num (Mo.num (Mo.call H_W.out hB) hx1) hy1)
  have HV1 : Hid (qv b1 x1 y1 = ((x : Int) : Rat)) := qv_nf HQa1.out HQb1.out HQc1.out
  have HL1 : Hid (x1.length ≤ 1 ∧ y1.length ≤ 1) := szl HQb1.out HQc1.out (sz_int (by omega))
  clear hB hx1 hy1
  obtain ⟨p, hp⟩ : ∃ p, rankQ f ((x : Int) : Rat) = p := ⟨_, rfl⟩
  have HP := Lib.hid hp
  have HSP : Hid (sz p 21) := by show sz _ _; rw [← hp]; exact rank_sz (n := 1) (sz_int (by omega))
  clear hp
  go_wp2_with fail
  refine (rrank_okE w1 FA fc f (HR.out.below H_w1.out.below) b1 A1 B1 c1 d1 x1 y1 (H_w1.out.rn 0 rfl) (H_w1.out.rn 1 rfl) (by have := HL1.out; omega) (by have := HL1.out; omega)).mono ?_
  rw [HV1.out, HP.out, HE.out]
  rintro e_ w2 ⟨b2, A2, c2, x2, B2, d2, y2, rfl, HQa2, HQb2, HQc2, hx2, hy2, hB⟩
  have H_w2 := Lib.hid (Mo.num (Mo.num (Mo.call H_w1.out hB) hx2) hy2)
  have HV2 : Hid (qv b2 x2 y2 = p) := qv_nf HQa2.out HQb2.out HQc2.out
  have HL2 : Hid (x2.length ≤ 21 ∧ y2.length ≤ 21) := szl HQb2.out HQc2.out (HSP.out)
  clear hB hx2 hy2
  go_upto_region 10 with fail
  obtain ⟨T, hT⟩ : ∃ T, T = w2.alloc (.cells #[.bool b2, .slice A2 x2.length c2, .slice B2 y2.length d2] 28) := ⟨_, rfl⟩
  rw [← hT]
  have H_T : Hid (Mo w T _ _) := Lib.hid (by rw [hT]; exact H_w2.out.alloc (t := 28) (cs := #[.bool b2, .slice A2 x2.length c2, .slice B2 y2.length d2]) (nd_rat _ _ _ _ _ _ _))
  clear hT
  have k1Tc0 := ((H_T.out.var 1 rfl)).cell 0 rfl
  have k1Tc1 := ((H_T.out.var 1 rfl)).cell 1 rfl
  have k1Tc2 := ((H_T.out.var 1 rfl)).cell 2 rfl
  have k0Tc0 := ((H_T.out.var 0 rfl)).cell 0 rfl
  have k0Tc1 := ((H_T.out.var 0 rfl)).cell 1 rfl
  have k0Tc2 := ((H_T.out.var 0 rfl)).cell 2 rfl
  have k0Tf0 := ((H_T.out.var 0 rfl)).thaw 0
  have k0Tf1 := ((H_T.out.var 0 rfl)).thaw 1
  have k0Tf2 := ((H_T.out.var 0 rfl)).thaw 2
  go_wp2_with fail
  refine (rinverse_ok T GA gc g (HG.out.below H_T.out.below) b2 A2 B2 c2 d2 x2 y2 (H_T.out.rn 2 rfl) (H_T.out.rn 3 rfl) (by have := HL2.out; omega) (by have := HL2.out; omega)).mono ?_
  rw [HV2.out]
  rintro e_ w3 ⟨q, e0, HI, b3, A3, c3, x3, B3, d3, y3, rfl, HQa3, HQb3, HQc3, hx3, hy3, hB⟩
  have H_w3 := Lib.hid (Mo.num (Mo.num (Mo.call H_T.out hB) hx3) hy3)
  have k0w3c0 := ((H_w3.out.var 0 rfl)).cell 0 rfl
  have k0w3c1 := ((H_w3.out.var 0 rfl)).cell 1 rfl
  have k0w3c2 := ((H_w3.out.var 0 rfl)).cell 2 rfl
  have k0w3f0 := ((H_w3.out.var 0 rfl)).thaw 0
  have k0w3f1 := ((H_w3.out.var 0 rfl)).thaw 1
  have k0w3f2 := ((H_w3.out.var 0 rfl)).thaw 2
  clear hB hx3 hy3
  have HN0 : Hid (ScoreR f g x q e0) := .inr ⟨HPG.out, .inr ⟨HNX.out, by rw [HP.out]; exact HI.out⟩⟩
  go_wp2_with fail
  have hr0 := (H_w3.out).set 0 (j := 0) (v := .bool b3) (cs' := #[.bool b3, .slice none 0 0, .slice none 0 0]) rfl rfl (nd_rat _ _ _ _ _ _ _)
  have hr1 := (hr0).set 0 (j := 1) (v := .slice A3 x3.length c3) (cs' := #[.bool b3, .slice A3 x3.length c3, .slice none 0 0]) rfl rfl (nd_rat _ _ _ _ _ _ _)
  have hr2 := (hr1).set 0 (j := 2) (v := .slice B3 y3.length d3) (cs' := #[.bool b3, .slice A3 x3.length c3, .slice B3 y3.length d3]) rfl rfl (nd_rat _ _ _ _ _ _ _)
  have v3 : Vr (((w3.setCell ⟨w.heap.size, 0, none⟩ (.bool b3)).setCell ⟨w.heap.size, 1, none⟩ (.slice A3 x3.length c3)).setCell ⟨w.heap.size, 2, none⟩ (.slice B3 y3.length d3)) w.heap.size 28 #[.bool b3, .slice A3 x3.length c3, .slice B3 y3.length d3] := hr2.var 0 rfl
  refine bodyPost_ret (v := .tuple #[.agg #[.bool b3, .slice A3 x3.length c3, .slice B3 y3.length d3], .int .i64 e0]) (by simp [results, Tryz.results15, go_sem, v3.cell 0 rfl, v3.cell 1 rfl, v3.cell 2 rfl]) rfl ?_
  exact ⟨q, e0, HN0, b3, A3, c3, x3, B3, d3, y3, rfl, HQa3, HQb3, HQc3, hr2.rn 4 rfl, hr2.rn 5 rfl, hr2.below⟩

set_option maxHeartbeats 3200000 in
theorem rtable_ok (w : World) (FA : Option Addr) (fc : Nat) (f : List Int) (GA : Option Addr) (gc : Nat) (g : List Int) (hf : Rk w .i64 FA fc f) (hg : Rk w .i64 GA gc g) :
    Calls Tryz.prog 17 #[.slice FA f.length fc, .slice GA g.length gc] w (RetTb f g w) := by
  have HR := Lib.hid hf
  have HG := Lib.hid hg
  have hcl := hf.1
  have hcm := hf.2.1
  have hgl := hg.1
  have hgm := hg.2.1
  clear hf hg
  go_enter Tryz.func17, Tryz.ntmps17
  go_wp2_with fail
  refine (rvalid_ok w FA fc f HR.out).mono ?_
  rintro e_ w ⟨rfl, rfl⟩
  obtain ⟨E, hE⟩ : ∃ E, validE f = E := ⟨_, rfl⟩
  have HE := Lib.hid hE
  rw [hE]
  clear hE
  by_cases h0 : E = 0
  rotate_left
  · have e1 : (E == 0) = false := beq_eq_false_iff_ne.2 h0
    have e2 : (E != 0) = true := by simpa using h0
    have HPG : Hid (pairE f g = E) := by show _ = _; unfold pairE; rw [HE.out, if_neg h0]
    have H0 := Lib.hid h0
    clear h0
    go_wp2_with fail
    go_ret2
    exact ⟨none, 0, [], E, rfl, .inl ⟨by rw [HPG.out]; exact H0.out, rfl, HPG.out.symm⟩, Rs.nil _, Below.refl _ _⟩
  subst h0
  go_wp2_with fail
  refine (rvalid_ok w GA gc g HG.out).mono ?_
  rintro e_ w ⟨rfl, rfl⟩
  obtain ⟨G, hG⟩ : ∃ G, validE g = G := ⟨_, rfl⟩
  have HGE := Lib.hid hG
  rw [hG]
  clear hG
  have HPG : Hid (pairE f g = G) := by show _ = _; unfold pairE; rw [if_pos HE.out]; exact HGE.out
  by_cases h0 : G = 0
  rotate_left
  · have e1 : (G == 0) = false := beq_eq_false_iff_ne.2 h0
    have e2 : (G != 0) = true := by simpa using h0
    have H0 := Lib.hid h0
    clear h0
    go_wp2_with fail
    go_ret2
    exact ⟨none, 0, [], G, rfl, .inl ⟨by rw [HPG.out]; exact H0.out, rfl, HPG.out.symm⟩, Rs.nil _, Below.refl _ _⟩
  subst h0
  have hl61 := (valid_parts HE.out).1
  obtain ⟨i0, hi0, hp0⟩ := Option.map_eq_some_iff.1 info_rat
  simp only [Prod.mk.injEq] at hp0
  obtain ⟨hz0, hz1, hz2⟩ := hp0
  go_wp2_with fail
  go_loopw [8, 9, 10, 11, 24] (fun ov v9 v10 v11 iv wr => ∃ (k : Nat) (rs : List Rt), iv = .int .i64 (k : Int) ∧ k ≤ f.length ∧ Hid (rs.length = k) ∧ OwnQ wr w.heap.size ov rs ∧ Hid (∀ (j : Nat) (r : Rt), rs[j]? = some r → RN wr r.A r.c r.xs ∧ RN wr r.B r.d r.ys) ∧ Hid (∀ j : Nat, j < k → ∃ r q e1, rs[j]? = some r ∧ nfR r q ∧ ScoreR f g (j : Int) q e1) ∧ Hid (Below w.heap.size w wr)) (fun _ _ _ _ iv _ => f.length - (intOf iv).toNat)
  case atStart => exact ⟨0, [], rfl, Nat.zero_le _, rfl, OwnQ.nil _ _, fun j r hj => by simp at hj, fun j hj => by omega, Below.refl _ _⟩
  case round =>
    obtain ⟨k, rs, rfl, hk, HL, HO, HRN, HS, HB⟩ := hrel
    have HOH := Lib.hid HO
    have hrl : rs.length ≤ 61 := by rw [HL.out]; omega
    have H_wr : Hid (Mo w wr [] []) := (Mo.start w).call HB.out
    by_cases hlt : k < f.length
    · have d1 : decide ((k : Int) < (f.length : Int)) = true := decide_eq_true (by omega)
      clear HO
      go_wp2_with fail
      refine (rscore_ok wr FA fc f GA gc g (HR.out.below H_wr.out.below) (HG.out.below H_wr.out.below) (k : Int)).mono ?_
      rintro e_ w1 ⟨q, e0, HQ, b1, A1, c1, x1, B1, d1, y1, rfl, HQa1, HQb1, HQc1, hx1, hy1, hB⟩
      have H_w1 := Lib.hid (Mo.num (Mo.num (Mo.call H_wr.out hB) hx1) hy1)
      have HB1 := Lib.hid (below_seq HB.out hB)
      have HO1 := Lib.hid (HOH.out.below hB)
      have HR1 : Hid (∀ (j : Nat) (r : Rt), rs[j]? = some r → RN w1 r.A r.c r.xs ∧ RN w1 r.B r.d r.ys) := fun j r hj => ⟨(HRN.out j r hj).1.below hB, (HRN.out j r hj).2.below hB⟩
      clear hB hx1 hy1
      clear HOH HRN
      go_upto_region 12 with fail
      obtain ⟨T, hT⟩ : ∃ T, T = w1.alloc (.cells #[.bool b1, .slice A1 x1.length c1, .slice B1 y1.length d1] 28) := ⟨_, rfl⟩
      rw [← hT]
      have hbT : Below w1.heap.size w1 T := by rw [hT]; exact (Below.refl _ _).alloc (Nat.le_refl _) _
      have H_T : Hid (Mo w T _ _) := Lib.hid (by rw [hT]; exact H_w1.out.alloc (t := 28) (cs := #[.bool b1, .slice A1 x1.length c1, .slice B1 y1.length d1]) (nd_rat _ _ _ _ _ _ _))
      clear hT
      have HBT := Lib.hid (below_seq HB1.out hbT)
      have HOT := HO1.out.below hbT
      have HRT : Hid (∀ (j : Nat) (r : Rt), rs[j]? = some r → RN T r.A r.c r.xs ∧ RN T r.B r.d r.ys) := fun j r hj => ⟨(HR1.out j r hj).1.below hbT, (HR1.out j r hj).2.below hbT⟩
      clear HO1 HR1 HB1 HB hbT
      have k0Tc0 := ((H_T.out.var 0 rfl)).cell 0 rfl
      have k0Tc1 := ((H_T.out.var 0 rfl)).cell 1 rfl
      have k0Tc2 := ((H_T.out.var 0 rfl)).cell 2 rfl
      have hbT2 := HBT.out
      go_wp2_with (at_builtin; refine wpList_appendQ (r := ⟨b1, A1, c1, x1, B1, d1, y1⟩) rfl _ _ 37 rfl Tryz.underlying37 hi0 hz0 hz1 hz2 rfl rfl HOT hbT2 hbT2.size (by omega) ?_)
      intro v1 w7 HO7 HB7 HK7
      clear HOT hbT2
      go_wp2_with fail
      go_roundw
      case rel =>
        refine ⟨k + 1, rs ++ [⟨b1, A1, c1, x1, B1, d1, y1⟩], by go_num, hlt, by show _ = _; rw [List.length_append, HL.out]; rfl, HO7, fun j r hj => ?_, fun j hj => ?_, HB7⟩
        · rcases Nat.lt_or_ge j rs.length with h | h
          · rw [List.getElem?_append_left h] at hj
            exact ⟨HK7.out _ _ _ (HRT.out j r hj).1, HK7.out _ _ _ (HRT.out j r hj).2⟩
          · rw [List.getElem?_append_right h, List.getElem?_singleton] at hj
            split at hj
            · injection hj with hj
              subst hj
              exact ⟨HK7.out _ _ _ (H_T.out.rn 0 rfl), HK7.out _ _ _ (H_T.out.rn 1 rfl)⟩
            · cases hj
        · rcases Nat.lt_or_ge j k with h | h
          · obtain ⟨r, q1, e1, a1, a2, a3⟩ := HS.out j h
            exact ⟨r, q1, e1, by rw [List.getElem?_append_left (by rw [HL.out]; exact h)]; exact a1, a2, a3⟩
          · obtain rfl : j = k := by omega
            exact ⟨_, q, e0, by rw [List.getElem?_append_right (by rw [HL.out]; exact Nat.le_refl _), HL.out, Nat.sub_self]; rfl, ⟨HQa1.out, HQb1.out, HQc1.out⟩, HQ.out⟩
      case measure => simp [intOf]; omega
    · have d1 : decide ((k : Int) < (f.length : Int)) = false := decide_eq_false (by omega)
      have d2 : decide (k < f.length) = false := decide_eq_false hlt
      obtain ⟨A, c, rfl, hrs⟩ := HOH.out.reads HRN.out
      have HRS := Lib.hid hrs
      have HF : Hid (TabR f g rs 0) := .inr ⟨HPG.out, rfl, by rw [HL.out]; omega, fun j hj => HS.out j (by omega)⟩
      clear hlt HO HOH hrs
      go_wp2_with fail
      go_ret2
      exact ⟨A, c, rs, 0, rfl, HF, HRS.out, HB.out⟩

end Go.Proofs.YtocpncjmcaecoaaGreat.M
