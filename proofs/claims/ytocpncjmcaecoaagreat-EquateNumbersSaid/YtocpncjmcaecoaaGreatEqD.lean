/- Equated scores and their table by the program. -/
import Derived.Test.YtocpncjmcaecoaaGreatRts
namespace Go.Proofs.YtocpncjmcaecoaaGreat.M
set_option maxRecDepth 10000
open Go.RowKit
set_option linter.unusedVariables false
set_option linter.unusedSimpArgs false
noncomputable def pairE (f g : List Int) : Int := if validE f = 0 then validE g else validE f
/-- What Score answers. -/
def ScoreR (f g : List Int) (x : Int) (q : Rat) (e0 : Int) : Prop :=
  (pairE f g ≠ 0 ∧ q = 0 ∧ e0 = pairE f g) ∨ (pairE f g = 0 ∧ (((x < 0 ∨ (f.length : Int) ≤ x) ∧ q = 0 ∧ e0 = 3) ∨ (¬ (x < 0 ∨ (f.length : Int) ≤ x) ∧ InvR g (rankQ f ((x : Int) : Rat)) q e0)))
def RetSc (f g : List Int) (x : Int) (w : World) (e : Ending) (w' : World) : Prop := ∃ q e0, Hid (ScoreR f g x q e0) ∧ RetQE q e0 w e w'
/-- What Table answers. -/
def TabR (f g : List Int) (rs : List Rt) (e0 : Int) : Prop :=
  (pairE f g ≠ 0 ∧ rs = [] ∧ e0 = pairE f g) ∨ (pairE f g = 0 ∧ e0 = 0 ∧ rs.length = f.length ∧ ∀ j : Nat, j < f.length → ∃ r q e1, rs[j]? = some r ∧ nfR r q ∧ ScoreR f g (j : Int) q e1)
def RetTb (f g : List Int) (w : World) (e : Ending) (w' : World) : Prop := ∃ A c rs e0, e = .returned (.tuple #[.slice A rs.length c, .int .i64 e0]) ∧ Hid (TabR f g rs e0) ∧ Rs w' A c rs ∧ Below w.heap.size w w'
theorem Rs.nil (w : World) : Rs w none 0 [] := ⟨Nat.le_refl _, by omega, fun j r hj => by simp at hj⟩

set_option maxHeartbeats 800000 in
theorem checkPair_ok (w : World) (FA : Option Addr) (fc : Nat) (f : List Int) (GA : Option Addr) (gc : Nat) (g : List Int) (hf : Rk w .i64 FA fc f) (hg : Rk w .i64 GA gc g) :
    Calls Tryz.prog 43 #[.slice FA f.length fc, .slice GA g.length gc] w (fun e w' => e = .returned (.int .i64 (pairE f g)) ∧ w' = w) := by
  have HR := Lib.hid hf
  have HG := Lib.hid hg
  have hcl := hf.1
  have hcm := hf.2.1
  have hgl := hg.1
  have hgm := hg.2.1
  clear hf hg
  go_enter Tryz.func43, Tryz.ntmps43
  go_wp2_with fail
  refine (evalid_ok w FA fc f HR.out).mono ?_
  rintro e_ w1 ⟨rfl, rfl⟩
  obtain ⟨E, hE⟩ : ∃ E, validE f = E := ⟨_, rfl⟩
  have HE := Lib.hid hE
  rw [hE]
  clear hE
  by_cases h0 : E = 0
  · subst h0
    have HP : Hid (pairE f g = validE g) := by show _ = _; unfold pairE; rw [if_pos HE.out]
    go_wp2_with fail
    refine (evalid_ok w1 GA gc g HG.out).mono ?_
    rintro e_ w2 ⟨rfl, rfl⟩
    go_wp2_with fail
    go_ret
    exact ⟨by rw [HP.out]; rfl, rfl⟩
  · have e1 : (E == 0) = false := beq_eq_false_iff_ne.2 h0
    have e2 : (E != 0) = true := by simpa using h0
    have HP : Hid (pairE f g = E) := by show _ = _; unfold pairE; rw [HE.out, if_neg h0]
    clear h0
    go_wp2_with fail
    go_ret
    exact ⟨by rw [HP.out]; rfl, rfl⟩

set_option maxHeartbeats 3200000 in
theorem escore_ok (w : World) (FA : Option Addr) (fc : Nat) (f : List Int) (GA : Option Addr) (gc : Nat) (g : List Int) (hf : Rk w .i64 FA fc f) (hg : Rk w .i64 GA gc g) (x : Int) :
    Calls Tryz.prog 14 #[.slice FA f.length fc, .slice GA g.length gc, .int .i64 x] w (RetSc f g x w) := by
  have HR := Lib.hid hf
  have HG := Lib.hid hg
  have hcl := hf.1
  have hcm := hf.2.1
  have hgl := hg.1
  have hgm := hg.2.1
  clear hf hg
  go_enter Tryz.func14, Tryz.ntmps14
  obtain ⟨E, hE⟩ : ∃ E, pairE f g = E := ⟨_, rfl⟩
  have HE := Lib.hid hE
  clear hE
  go_upto_region 1 with fail
  obtain ⟨W, hW⟩ : ∃ W, W = (w.alloc (.cells #[.bool false, .slice none 0 0, .slice none 0 0] 28)) := ⟨_, rfl⟩
  rw [← hW]
  have H_W : Mo w W [(w.heap.size, 28, #[.bool false, .slice none 0 0, .slice none 0 0])] [] := by
    rw [hW]
    have h := ((Mo.start w).alloc (t := 28) (cs := #[.bool false, .slice none 0 0, .slice none 0 0]) (nd_rat _ _ _ _ _ _ _))
    simp only [size_alloc, List.nil_append, List.cons_append] at h
    exact h
  clear hW
  have H_W := Lib.hid H_W
  go_wp2_with fail
  refine (checkPair_ok W FA fc f GA gc g (HR.out.below H_W.out.below) (HG.out.below H_W.out.below)).mono ?_
  rintro e_ W ⟨rfl, rfl⟩
  rw [HE.out]
  by_cases h0 : E = 0
  rotate_left
  · have e1 : (E == 0) = false := beq_eq_false_iff_ne.2 h0
    have e2 : (E != 0) = true := by simpa using h0
    have HN0 : Hid (ScoreR f g x 0 E) := .inl ⟨by rw [HE.out]; exact h0, rfl, HE.out.symm⟩
    clear h0
    go_wp2_with fail
    refine (ewhole_ok W 0 (by omega) (by omega)).mono ?_
    rintro e_ w2 ⟨b9, A9, c9, x9, B9, d9, y9, rfl, HQa9, HQb9, HQc9, hx9, hy9, hB⟩
    have H_w2 := Lib.hid (Mo.num (Mo.num (Mo.call H_W.out hB) hx9) hy9)
    have k0w2c0 := ((H_w2.out.var 0 rfl)).cell 0 rfl
    have k0w2c1 := ((H_w2.out.var 0 rfl)).cell 1 rfl
    have k0w2c2 := ((H_w2.out.var 0 rfl)).cell 2 rfl
    have k0w2f0 := ((H_w2.out.var 0 rfl)).thaw 0
    have k0w2f1 := ((H_w2.out.var 0 rfl)).thaw 1
    have k0w2f2 := ((H_w2.out.var 0 rfl)).thaw 2
    clear hB hx9 hy9
    go_wp2_with fail
    have hr0 := (H_w2.out).set 0 (j := 0) (v := .bool b9) (cs' := #[.bool b9, .slice none 0 0, .slice none 0 0]) rfl rfl (nd_rat _ _ _ _ _ _ _)
    have hr1 := (hr0).set 0 (j := 1) (v := .slice A9 x9.length c9) (cs' := #[.bool b9, .slice A9 x9.length c9, .slice none 0 0]) rfl rfl (nd_rat _ _ _ _ _ _ _)
    have hr2 := (hr1).set 0 (j := 2) (v := .slice B9 y9.length d9) (cs' := #[.bool b9, .slice A9 x9.length c9, .slice B9 y9.length d9]) rfl rfl (nd_rat _ _ _ _ _ _ _)
    have v3 : Vr (((w2.setCell ⟨w.heap.size, 0, none⟩ (.bool b9)).setCell ⟨w.heap.size, 1, none⟩ (.slice A9 x9.length c9)).setCell ⟨w.heap.size, 2, none⟩ (.slice B9 y9.length d9)) w.heap.size 28 #[.bool b9, .slice A9 x9.length c9, .slice B9 y9.length d9] := hr2.var 0 rfl
    refine bodyPost_ret (v := .tuple #[.agg #[.bool b9, .slice A9 x9.length c9, .slice B9 y9.length d9], .int .i64 E]) (by simp [results, Tryz.results14, go_sem, v3.cell 0 rfl, v3.cell 1 rfl, v3.cell 2 rfl]) rfl ?_
    exact ⟨0, E, HN0, b9, A9, c9, x9, B9, d9, y9, rfl, HQa9, HQb9, HQc9, hr2.rn 0 rfl, hr2.rn 1 rfl, hr2.below⟩
  subst h0
  have HEF : Hid (validE f = 0 ∧ validE g = 0) := by
    have h := HE.out
    unfold pairE at h
    show _ ∧ _
    split at h
    · exact ⟨by assumption, h⟩
    · contradiction
  obtain ⟨hl61, hfq, hTp⟩ := valid_parts HEF.out.1
  clear hfq hTp
  by_cases h1 : x < 0
  · have d1 : decide (x < 0) = true := decide_eq_true h1
    have HN0 : Hid (ScoreR f g x 0 3) := .inr ⟨HE.out, .inl ⟨.inl h1, rfl, rfl⟩⟩
    clear h1
    go_wp2_with fail
    refine (ewhole_ok W 0 (by omega) (by omega)).mono ?_
    rintro e_ w2 ⟨b9, A9, c9, x9, B9, d9, y9, rfl, HQa9, HQb9, HQc9, hx9, hy9, hB⟩
    have H_w2 := Lib.hid (Mo.num (Mo.num (Mo.call H_W.out hB) hx9) hy9)
    have k0w2c0 := ((H_w2.out.var 0 rfl)).cell 0 rfl
    have k0w2c1 := ((H_w2.out.var 0 rfl)).cell 1 rfl
    have k0w2c2 := ((H_w2.out.var 0 rfl)).cell 2 rfl
    have k0w2f0 := ((H_w2.out.var 0 rfl)).thaw 0
    have k0w2f1 := ((H_w2.out.var 0 rfl)).thaw 1
    have k0w2f2 := ((H_w2.out.var 0 rfl)).thaw 2
    clear hB hx9 hy9
    go_wp2_with fail
    have hr0 := (H_w2.out).set 0 (j := 0) (v := .bool b9) (cs' := #[.bool b9, .slice none 0 0, .slice none 0 0]) rfl rfl (nd_rat _ _ _ _ _ _ _)
    have hr1 := (hr0).set 0 (j := 1) (v := .slice A9 x9.length c9) (cs' := #[.bool b9, .slice A9 x9.length c9, .slice none 0 0]) rfl rfl (nd_rat _ _ _ _ _ _ _)
    have hr2 := (hr1).set 0 (j := 2) (v := .slice B9 y9.length d9) (cs' := #[.bool b9, .slice A9 x9.length c9, .slice B9 y9.length d9]) rfl rfl (nd_rat _ _ _ _ _ _ _)
    have v3 : Vr (((w2.setCell ⟨w.heap.size, 0, none⟩ (.bool b9)).setCell ⟨w.heap.size, 1, none⟩ (.slice A9 x9.length c9)).setCell ⟨w.heap.size, 2, none⟩ (.slice B9 y9.length d9)) w.heap.size 28 #[.bool b9, .slice A9 x9.length c9, .slice B9 y9.length d9] := hr2.var 0 rfl
    refine bodyPost_ret (v := .tuple #[.agg #[.bool b9, .slice A9 x9.length c9, .slice B9 y9.length d9], .int .i64 3]) (by simp [results, Tryz.results14, go_sem, v3.cell 0 rfl, v3.cell 1 rfl, v3.cell 2 rfl]) rfl ?_
    exact ⟨0, 3, HN0, b9, A9, c9, x9, B9, d9, y9, rfl, HQa9, HQb9, HQc9, hr2.rn 0 rfl, hr2.rn 1 rfl, hr2.below⟩
  have d1 : decide (x < 0) = false := decide_eq_false h1
  by_cases h2 : (f.length : Int) ≤ x
  · have d2 : decide ((f.length : Int) ≤ x) = true := decide_eq_true h2
    have HN0 : Hid (ScoreR f g x 0 3) := .inr ⟨HE.out, .inl ⟨.inr h2, rfl, rfl⟩⟩
    clear h1 h2
    go_wp2_with fail
    refine (ewhole_ok W 0 (by omega) (by omega)).mono ?_
    rintro e_ w2 ⟨b9, A9, c9, x9, B9, d9, y9, rfl, HQa9, HQb9, HQc9, hx9, hy9, hB⟩
    have H_w2 := Lib.hid (Mo.num (Mo.num (Mo.call H_W.out hB) hx9) hy9)
    have k0w2c0 := ((H_w2.out.var 0 rfl)).cell 0 rfl
    have k0w2c1 := ((H_w2.out.var 0 rfl)).cell 1 rfl
    have k0w2c2 := ((H_w2.out.var 0 rfl)).cell 2 rfl
    have k0w2f0 := ((H_w2.out.var 0 rfl)).thaw 0
    have k0w2f1 := ((H_w2.out.var 0 rfl)).thaw 1
    have k0w2f2 := ((H_w2.out.var 0 rfl)).thaw 2
    clear hB hx9 hy9
    go_wp2_with fail
    have hr0 := (H_w2.out).set 0 (j := 0) (v := .bool b9) (cs' := #[.bool b9, .slice none 0 0, .slice none 0 0]) rfl rfl (nd_rat _ _ _ _ _ _ _)
    have hr1 := (hr0).set 0 (j := 1) (v := .slice A9 x9.length c9) (cs' := #[.bool b9, .slice A9 x9.length c9, .slice none 0 0]) rfl rfl (nd_rat _ _ _ _ _ _ _)
    have hr2 := (hr1).set 0 (j := 2) (v := .slice B9 y9.length d9) (cs' := #[.bool b9, .slice A9 x9.length c9, .slice B9 y9.length d9]) rfl rfl (nd_rat _ _ _ _ _ _ _)
    have v3 : Vr (((w2.setCell ⟨w.heap.size, 0, none⟩ (.bool b9)).setCell ⟨w.heap.size, 1, none⟩ (.slice A9 x9.length c9)).setCell ⟨w.heap.size, 2, none⟩ (.slice B9 y9.length d9)) w.heap.size 28 #[.bool b9, .slice A9 x9.length c9, .slice B9 y9.length d9] := hr2.var 0 rfl
    refine bodyPost_ret (v := .tuple #[.agg #[.bool b9, .slice A9 x9.length c9, .slice B9 y9.length d9], .int .i64 3]) (by simp [results, Tryz.results14, go_sem, v3.cell 0 rfl, v3.cell 1 rfl, v3.cell 2 rfl]) rfl ?_
    exact ⟨0, 3, HN0, b9, A9, c9, x9, B9, d9, y9, rfl, HQa9, HQb9, HQc9, hr2.rn 0 rfl, hr2.rn 1 rfl, hr2.below⟩
  have d2 : decide ((f.length : Int) ≤ x) = false := decide_eq_false h2
  have HNX : Hid (¬ (x < 0 ∨ (f.length : Int) ≤ x)) := fun h => by omega
  have hx0 : 0 ≤ x := by omega
  have hx1 : x < (f.length : Int) := by omega
  clear h1 h2
  go_wp2_with fail
  refine (ewhole_ok W x (by omega) (by omega)).mono ?_
  rintro e_ w1 ⟨b1, A1, c1, x1, B1, d1, y1, rfl, HQa1, HQb1, HQc1, hx1, hy1, hB⟩
  have H_w1 := Lib.hid (Mo.num (Mo.num (Mo.call H_W.out hB) hx1) hy1)
  have HV1 : Hid (qv b1 x1 y1 = ((x : Int) : Rat)) := qv_nf HQa1.out HQb1.out HQc1.out
  have HL1 : Hid (x1.length ≤ 1 ∧ y1.length ≤ 1) := szl HQb1.out HQc1.out (sz_int (by omega))
  clear hB hx1 hy1
  obtain ⟨p, hp⟩ : ∃ p, rankQ f ((x : Int) : Rat) = p := ⟨_, rfl⟩
  have HP := Lib.hid hp
  have HSP : Hid (sz p 21) := by show sz _ _; rw [← hp]; exact rank_sz (n := 1) (sz_int (by omega))
  clear hp
  go_wp2_with fail
  refine (rank_okE w1 FA fc f (HR.out.below H_w1.out.below) b1 A1 B1 c1 d1 x1 y1 (H_w1.out.rn 0 rfl) (H_w1.out.rn 1 rfl) (by have := HL1.out; omega) (by have := HL1.out; omega)).mono ?_
  rw [HV1.out, HP.out, HEF.out.1]
  rintro e_ w2 ⟨b2, A2, c2, x2, B2, d2, y2, rfl, HQa2, HQb2, HQc2, hx2, hy2, hB⟩
  have H_w2 := Lib.hid (Mo.num (Mo.num (Mo.call H_w1.out hB) hx2) hy2)
  have HV2 : Hid (qv b2 x2 y2 = p) := qv_nf HQa2.out HQb2.out HQc2.out
  have HL2 : Hid (x2.length ≤ 21 ∧ y2.length ≤ 21) := szl HQb2.out HQc2.out (HSP.out)
  clear hB hx2 hy2
  go_upto_region 7 with fail
  obtain ⟨T, hT⟩ : ∃ T, T = w2.alloc (.cells #[.bool b2, .slice A2 x2.length c2, .slice B2 y2.length d2] 28) := ⟨_, rfl⟩
  rw [← hT]
  have H_T : Hid (Mo w T _ _) := Lib.hid (by rw [hT]; exact H_w2.out.alloc (t := 28) (cs := #[.bool b2, .slice A2 x2.length c2, .slice B2 y2.length d2]) (nd_rat _ _ _ _ _ _ _))
  clear hT
  have k1Tc0 := ((H_T.out.var 1 rfl)).cell 0 rfl
  have k1Tc1 := ((H_T.out.var 1 rfl)).cell 1 rfl
  have k1Tc2 := ((H_T.out.var 1 rfl)).cell 2 rfl
  have k0Tc0 := ((H_T.out.var 0 rfl)).cell 0 rfl
  have k0Tc1 := ((H_T.out.var 0 rfl)).cell 1 rfl
  have k0Tc2 := ((H_T.out.var 0 rfl)).cell 2 rfl
  have k0Tf0 := ((H_T.out.var 0 rfl)).thaw 0
  have k0Tf1 := ((H_T.out.var 0 rfl)).thaw 1
  have k0Tf2 := ((H_T.out.var 0 rfl)).thaw 2
  go_wp2_with fail
  refine (inverse_ok T GA gc g (HG.out.below H_T.out.below) b2 A2 B2 c2 d2 x2 y2 (H_T.out.rn 2 rfl) (H_T.out.rn 3 rfl) (by have := HL2.out; omega) (by have := HL2.out; omega)).mono ?_
  rw [HV2.out]
  rintro e_ w3 ⟨q, e0, HI, b3, A3, c3, x3, B3, d3, y3, rfl, HQa3, HQb3, HQc3, hx3, hy3, hB⟩
  have H_w3 := Lib.hid (Mo.num (Mo.num (Mo.call H_T.out hB) hx3) hy3)
  have k0w3c0 := ((H_w3.out.var 0 rfl)).cell 0 rfl
  have k0w3c1 := ((H_w3.out.var 0 rfl)).cell 1 rfl
  have k0w3c2 := ((H_w3.out.var 0 rfl)).cell 2 rfl
  have k0w3f0 := ((H_w3.out.var 0 rfl)).thaw 0
  have k0w3f1 := ((H_w3.out.var 0 rfl)).thaw 1
  have k0w3f2 := ((H_w3.out.var 0 rfl)).thaw 2
  clear hB hx3 hy3
  have HN0 : Hid (ScoreR f g x q e0) := .inr ⟨HE.out, .inr ⟨HNX.out, by rw [HP.out]; exact HI.out⟩⟩
  go_wp2_with fail
  have hr0 := (H_w3.out).set 0 (j := 0) (v := .bool b3) (cs' := #[.bool b3, .slice none 0 0, .slice none 0 0]) rfl rfl (nd_rat _ _ _ _ _ _ _)
  have hr1 := (hr0).set 0 (j := 1) (v := .slice A3 x3.length c3) (cs' := #[.bool b3, .slice A3 x3.length c3, .slice none 0 0]) rfl rfl (nd_rat _ _ _ _ _ _ _)
  have hr2 := (hr1).set 0 (j := 2) (v := .slice B3 y3.length d3) (cs' := #[.bool b3, .slice A3 x3.length c3, .slice B3 y3.length d3]) rfl rfl (nd_rat _ _ _ _ _ _ _)
  have v3 : Vr (((w3.setCell ⟨w.heap.size, 0, none⟩ (.bool b3)).setCell ⟨w.heap.size, 1, none⟩ (.slice A3 x3.length c3)).setCell ⟨w.heap.size, 2, none⟩ (.slice B3 y3.length d3)) w.heap.size 28 #[.bool b3, .slice A3 x3.length c3, .slice B3 y3.length d3] := hr2.var 0 rfl
  refine bodyPost_ret (v := .tuple #[.agg #[.bool b3, .slice A3 x3.length c3, .slice B3 y3.length d3], .int .i64 e0]) (by simp [results, Tryz.results14, go_sem, v3.cell 0 rfl, v3.cell 1 rfl, v3.cell 2 rfl]) rfl ?_
  exact ⟨q, e0, HN0, b3, A3, c3, x3, B3, d3, y3, rfl, HQa3, HQb3, HQc3, hr2.rn 4 rfl, hr2.rn 5 rfl, hr2.below⟩

set_option maxHeartbeats 3200000 in
theorem etable_ok (w : World) (FA : Option Addr) (fc : Nat) (f : List Int) (GA : Option Addr) (gc : Nat) (g : List Int) (hf : Rk w .i64 FA fc f) (hg : Rk w .i64 GA gc g) :
    Calls Tryz.prog 16 #[.slice FA f.length fc, .slice GA g.length gc] w (RetTb f g w) := by
  have HR := Lib.hid hf
  have HG := Lib.hid hg
  have hcl := hf.1
  have hcm := hf.2.1
  have hgl := hg.1
  have hgm := hg.2.1
  clear hf hg
  go_enter Tryz.func16, Tryz.ntmps16
  obtain ⟨E, hE⟩ : ∃ E, pairE f g = E := ⟨_, rfl⟩
  have HE := Lib.hid hE
  clear hE
  go_wp2_with fail
  refine (checkPair_ok w FA fc f GA gc g HR.out HG.out).mono ?_
  rintro e_ w ⟨rfl, rfl⟩
  rw [HE.out]
  by_cases h0 : E = 0
  rotate_left
  · have e1 : (E == 0) = false := beq_eq_false_iff_ne.2 h0
    have e2 : (E != 0) = true := by simpa using h0
    have HN0 : Hid (TabR f g [] E) := .inl ⟨by rw [HE.out]; exact h0, rfl, HE.out.symm⟩
    clear h0
    go_wp2_with fail
    go_ret2
    exact ⟨none, 0, [], E, rfl, HN0, Rs.nil _, Below.refl _ _⟩
  subst h0
  have HEF : Hid (validE f = 0) := by
    have h := HE.out
    unfold pairE at h
    show _ = _
    split at h
    · assumption
    · exact h
  obtain ⟨hl61, hfq, hTp⟩ := valid_parts HEF.out
  clear hfq hTp
  have hmk := make_rats f.length (by omega)
  go_wp2_with fail
  clear hmk
  go_loopw [8, 20] (fun kv iv wr => ∃ (k : Nat) (rs : List Rt), iv = .int .i64 (k : Int) ∧ k ≤ f.length ∧ Hid (rs.length = f.length) ∧ Hid (Tq wr w.heap.size rs) ∧ Hid (∀ (j : Nat) (r : Rt), rs[j]? = some r → RN wr r.A r.c r.xs ∧ RN wr r.B r.d r.ys) ∧ Hid (∀ j : Nat, j < k → ∃ r q e1, rs[j]? = some r ∧ nfR r q ∧ ScoreR f g (j : Int) q e1) ∧ Hid (Below w.heap.size w wr)) (fun _ iv _ => f.length - (intOf iv).toNat)
  case atStart =>
    refine ⟨0, List.replicate f.length Rt.nought, rfl, Nat.zero_le _, List.length_replicate, Tq.made w f.length, fun j r hj => ?_, fun j hj => by omega, (Below.refl _ _).alloc (Nat.le_refl _) _⟩
    rw [List.getElem?_replicate] at hj
    split at hj
    · injection hj with hj
      subst hj
      exact ⟨RN.nil _, RN.nil _⟩
    · cases hj
  case round =>
    obtain ⟨k, rs, rfl, hk, HL, HT, HRN, HS, HB⟩ := hrel
    by_cases hlt : k < f.length
    · have d1 : decide ((k : Int) < (f.length : Int)) = true := decide_eq_true (by omega)
      have bk1 : (0 : Int) ≤ (k : Int) := by omega
      have bk2 : (k : Int) < (f.length : Int) := by omega
      have hks : k < rs.length := by rw [HL.out]; exact hlt
      have HKS := Lib.hid hks
      clear hks
      go_wp2_with fail
      refine (escore_ok wr FA fc f GA gc g (HR.out.below HB.out) (HG.out.below HB.out) (k : Int)).mono ?_
      rintro e_ w4 ⟨q, e0, HQ, b, A, c, x, B, d, y, rfl, HQa, HQb, HQc, hx, hy, hB⟩
      have HT4 := Lib.hid (HT.out.below hB)
      have HB4 := Lib.hid (below_seq HB.out hB)
      have HRN4 : Hid (∀ (j : Nat) (r : Rt), rs[j]? = some r → RN w4 r.A r.c r.xs ∧ RN w4 r.B r.d r.ys) := fun j r hj => ⟨(HRN.out j r hj).1.below hB, (HRN.out j r hj).2.below hB⟩
      have HX := Lib.hid hx
      have HY := Lib.hid hy
      obtain ⟨⟨v0, z0⟩, ⟨v1, z1⟩, ⟨v2, z2⟩, f0, f1, f2⟩ := HT4.out.cells HKS.out
      clear hB hx hy
      go_wp2_with fail
      have HTS := Lib.hid (HT4.out.set HKS.out ⟨b, A, c, x, B, d, y⟩)
      go_roundw
      case rel =>
        refine ⟨k + 1, rs.set k ⟨b, A, c, x, B, d, y⟩, by go_num, hlt, by show _ = _; rw [List.length_set]; exact HL.out, HTS, fun j r hj => ?_, fun j hj => ?_, below_set (below_set (below_set HB4.out (Nat.le_refl _) _) (Nat.le_refl _) _) (Nat.le_refl _) _⟩
        · rw [List.getElem?_set] at hj
          split at hj
          · split at hj
            · injection hj with hj
              subst hj
              exact ⟨HT4.out.keep HX.out HKS.out ⟨b, A, c, x, B, d, y⟩, HT4.out.keep HY.out HKS.out ⟨b, A, c, x, B, d, y⟩⟩
            · cases hj
          · exact ⟨HT4.out.keep (HRN4.out j r hj).1 HKS.out ⟨b, A, c, x, B, d, y⟩, HT4.out.keep (HRN4.out j r hj).2 HKS.out ⟨b, A, c, x, B, d, y⟩⟩
        · by_cases e : k = j
          · subst e
            exact ⟨_, q, e0, by rw [List.getElem?_set, if_pos rfl, if_pos HKS.out], ⟨HQa.out, HQb.out, HQc.out⟩, HQ.out⟩
          · obtain ⟨r, q', e1, h1, h2, h3⟩ := HS.out j (by omega)
            exact ⟨r, q', e1, by rw [List.getElem?_set, if_neg e]; exact h1, h2, h3⟩
      case measure => simp [intOf]; omega
    · have d1 : decide ((k : Int) < (f.length : Int)) = false := decide_eq_false (by omega)
      have d2 : decide (k < f.length) = false := decide_eq_false hlt
      have HRS := Lib.hid (HT.out.reads HRN.out (by rw [HL.out]; omega))
      have HF : Hid (TabR f g rs 0) := .inr ⟨HE.out, rfl, HL.out, fun j hj => HS.out j (by omega)⟩
      clear hlt
      go_wp2_with fail
      go_ret2
      exact ⟨some ⟨w.heap.size, 0, none⟩, rs.length, rs, 0, by rw [HL.out]; rfl, HF, HRS.out, HB.out⟩

end Go.Proofs.YtocpncjmcaecoaaGreat.M
