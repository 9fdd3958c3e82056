/- Inverse percentile ranks by the program. -/
import Derived.Test.YtocpncjmcaecoaaGreatEqB
namespace Go.Proofs.YtocpncjmcaecoaaGreat.M
set_option maxRecDepth 10000
open Go.RowKit
set_option linter.unusedVariables false
set_option linter.unusedSimpArgs false
/-- The first score whose rank reaches a number of persons. -/
def InvK (f : List Int) (want : Rat) (k : Nat) : Prop := k < f.length ∧ dg f k ≠ 0 ∧ ¬ ((tot f (k + 1) : Int) : Rat) < want ∧ ∀ j, j < k → dg f j = 0 ∨ ((tot f (j + 1) : Int) : Rat) < want
def invV (f : List Int) (want : Rat) (k : Nat) : Rat := mkRat (2 * (k : Int) - 1) 2 + (want - ((tot f k : Int) : Rat)) / ((dg f k : Int) : Rat)
def wantQ (f : List Int) (p : Rat) : Rat := p * ((tot f f.length : Int) : Rat)
/-- What Inverse answers. -/
def InvR (f : List Int) (p q : Rat) (e0 : Int) : Prop :=
  (validE f ≠ 0 ∧ q = 0 ∧ e0 = validE f) ∨ (validE f = 0 ∧ (((p < 0 ∨ 1 < p) ∧ q = 0 ∧ e0 = 3) ∨ (¬ (p < 0 ∨ 1 < p) ∧ ((∃ k, InvK f (wantQ f p) k ∧ q = invV f (wantQ f p) k ∧ e0 = 0) ∨ ((∀ j, j < f.length → dg f j = 0 ∨ ((tot f (j + 1) : Int) : Rat) < wantQ f p) ∧ q = 0 ∧ e0 = 3)))))
def RetInv (f : List Int) (p : Rat) (w : World) (e : Ending) (w' : World) : Prop := ∃ q e0, Hid (InvR f p q e0) ∧ RetQE q e0 w e w'
theorem qn_int {b : Bool} {x y : List Int} {n : Int} (h1 : b = decide (((n : Int) : Rat).num < 0)) (h2 : x = limbs ((n : Int) : Rat).num.natAbs) (h3 : y = limbs ((n : Int) : Rat).den) (h : 0 < n) : 0 < qn b x y := by
  rw [Rat.num_intCast] at h1 h2
  rw [Rat.den_intCast] at h3
  unfold qn
  rw [h3, V_limbs, if_neg (by decide), h1, h2, zv_norm]
  exact h
theorem inv_hit {f : List Int} {p : Rat} {k : Nat} (h0 : validE f = 0) (h1 : ¬ (p < 0 ∨ 1 < p)) (h : InvK f (wantQ f p) k) : InvR f p (invV f (wantQ f p) k) 0 := .inr ⟨h0, .inr ⟨h1, .inl ⟨k, h, rfl, rfl⟩⟩⟩
theorem inv_sz {f : List Int} {p : Rat} {n k : Nat} (h0 : validE f = 0) (h : sz p n) (hk : k < f.length) (hd : dg f k ≠ 0) : sz (invV f (wantQ f p) k) (n + 20) := by
  obtain ⟨h1, h2, h3⟩ := valid_parts h0
  have t1 := tot_bound h2 k (by omega)
  have t2 := tot_bound h2 f.length (Nat.le_refl _)
  have t3 := h2 k (by omega)
  unfold invV wantQ
  exact (sz_add (sz_half (by omega)) (sz_div (by rw [Rat.num_intCast]; omega) (sz_sub (sz_mul h (sz_int (by omega))) (sz_int (by omega))) (sz_int (by omega)))).mono (by omega)

set_option maxHeartbeats 12800000 in
theorem inverse_ok (w : World) (FA : Option Addr) (fc : Nat) (f : List Int) (hf : Rk w .i64 FA fc f) (xb : Bool) (XA XD : Option Addr) (xc xe : Nat) (xn xd : List Int) (hxn : RN w XA xc xn) (hxd : RN w XD xe xd) (sxn : xn.length ≤ 35184372088300) (sxd : xd.length ≤ 35184372088300) :
    Calls Tryz.prog 8 #[.slice FA f.length fc, .agg #[.bool xb, .slice XA xn.length xc, .slice XD xd.length xe]] w (RetInv f (qv xb xn xd) w) := by
  have HR := Lib.hid hf
  have hcl := hf.1
  have hcm := hf.2.1
  clear hf
  have HXN := Lib.hid hxn
  have HXD := Lib.hid hxd
  clear hxn hxd
  go_enter Tryz.func8, Tryz.ntmps8
  obtain ⟨E, hE⟩ : ∃ E, validE f = E := ⟨_, rfl⟩
  have HE := Lib.hid hE
  obtain ⟨p, hx⟩ : ∃ p, qv xb xn xd = p := ⟨_, rfl⟩
  have HX := Lib.hid hx
  have HSX : Hid (sz p 35184372088301) := by show sz _ _; rw [← hx]; exact sz_cells HXN.out.2 HXD.out.2 (by omega) (by omega)
  rw [hx]
  clear hE hx
  go_upto_region 1 with fail
  obtain ⟨W, hW⟩ : ∃ W, W = ((w.alloc (.cells #[.bool xb, .slice XA xn.length xc, .slice XD xd.length xe] 28)).alloc (.cells #[.bool false, .slice none 0 0, .slice none 0 0] 28)) := ⟨_, rfl⟩
  rw [← hW]
  have H_W : Mo w W [(w.heap.size, 28, #[.bool xb, .slice XA xn.length xc, .slice XD xd.length xe]), (w.heap.size + 1, 28, #[.bool false, .slice none 0 0, .slice none 0 0])] [] := by
    rw [hW]
    have h := (((Mo.start w).alloc (t := 28) (cs := #[.bool xb, .slice XA xn.length xc, .slice XD xd.length xe]) (nd_rat _ _ _ _ _ _ _)).alloc (t := 28) (cs := #[.bool false, .slice none 0 0, .slice none 0 0]) (nd_rat _ _ _ _ _ _ _))
    simp only [size_alloc, List.nil_append, List.cons_append] at h
    exact h
  clear hW
  obtain ⟨gW1, hgW1⟩ : ∃ g, w.heap.size + 1 = g := ⟨_, rfl⟩
  rw [hgW1] at H_W ⊢
  clear hgW1
  have neW01 : w.heap.size ≠ gW1 := H_W.apart 0 1 _ _ _ _ _ _ rfl rfl (by decide)
  have neW10 : gW1 ≠ w.heap.size := H_W.apart 1 0 _ _ _ _ _ _ rfl rfl (by decide)
  have H_W := Lib.hid H_W
  have k0Wc0 := ((H_W.out.var 0 rfl)).cell 0 rfl
  have k0Wc1 := ((H_W.out.var 0 rfl)).cell 1 rfl
  have k0Wc2 := ((H_W.out.var 0 rfl)).cell 2 rfl
  go_wp2_with fail
  refine (evalid_ok W FA fc f (HR.out.below H_W.out.below)).mono ?_
  rintro e_ W ⟨rfl, rfl⟩
  rw [HE.out]
  by_cases h0 : E = 0
  rotate_left
  · have e1 : (E == 0) = false := beq_eq_false_iff_ne.2 h0
    have e2 : (E != 0) = true := by simpa using h0
    have HN0 : Hid (InvR f p 0 E) := .inl ⟨by rw [HE.out]; exact h0, rfl, HE.out.symm⟩
    clear h0
    go_wp2_with fail
    refine (ewhole_ok W 0 (by omega) (by omega)).mono ?_
    rintro e_ w2 ⟨b9, A9, c9, x9, B9, d9, y9, rfl, HQa9, HQb9, HQc9, hx9, hy9, hB⟩
    have H_w2 := Lib.hid (Mo.num (Mo.num (Mo.call H_W.out hB) hx9) hy9)
    have k1w2c0 := ((H_w2.out.var 1 rfl)).cell 0 rfl
    have k1w2c1 := ((H_w2.out.var 1 rfl)).cell 1 rfl
    have k1w2c2 := ((H_w2.out.var 1 rfl)).cell 2 rfl
    have k1w2f0 := ((H_w2.out.var 1 rfl)).thaw 0
    have k1w2f1 := ((H_w2.out.var 1 rfl)).thaw 1
    have k1w2f2 := ((H_w2.out.var 1 rfl)).thaw 2
    clear hB hx9 hy9
    go_wp2_with fail
    have hr0 := (H_w2.out).set 1 (j := 0) (v := .bool b9) (cs' := #[.bool b9, .slice none 0 0, .slice none 0 0]) rfl rfl (nd_rat _ _ _ _ _ _ _)
    have hr1 := (hr0).set 1 (j := 1) (v := .slice A9 x9.length c9) (cs' := #[.bool b9, .slice A9 x9.length c9, .slice none 0 0]) rfl rfl (nd_rat _ _ _ _ _ _ _)
    have hr2 := (hr1).set 1 (j := 2) (v := .slice B9 y9.length d9) (cs' := #[.bool b9, .slice A9 x9.length c9, .slice B9 y9.length d9]) rfl rfl (nd_rat _ _ _ _ _ _ _)
    have v3 : Vr (((w2.setCell ⟨gW1, 0, none⟩ (.bool b9)).setCell ⟨gW1, 1, none⟩ (.slice A9 x9.length c9)).setCell ⟨gW1, 2, none⟩ (.slice B9 y9.length d9)) gW1 28 #[.bool b9, .slice A9 x9.length c9, .slice B9 y9.length d9] := hr2.var 1 rfl
    refine bodyPost_ret (v := .tuple #[.agg #[.bool b9, .slice A9 x9.length c9, .slice B9 y9.length d9], .int .i64 E]) (by simp [results, Tryz.results8, go_sem, v3.cell 0 rfl, v3.cell 1 rfl, v3.cell 2 rfl]) rfl ?_
    exact ⟨0, E, HN0, b9, A9, c9, x9, B9, d9, y9, rfl, HQa9, HQb9, HQc9, hr2.rn 0 rfl, hr2.rn 1 rfl, hr2.below⟩
  subst h0
  obtain ⟨hl61, hfq, hTp⟩ := valid_parts HE.out
  have HFQ := Lib.hid hfq
  have hTb := tot_bound hfq f.length (Nat.le_refl _)
  obtain ⟨T, hT⟩ : ∃ T, tot f f.length = T := ⟨_, rfl⟩
  rw [hT] at hTp hTb
  have HT := Lib.hid hT
  obtain ⟨s, hs⟩ : ∃ s, cmpQ p 0 = s := ⟨_, rfl⟩
  have HS := Lib.hid hs
  clear hfq hT hs
  by_cases h1 : s < 0
  · have dd1 : decide (s < 0) = true := decide_eq_true h1
    have HN0 : Hid (InvR f p 0 3) := .inr ⟨HE.out, .inl ⟨.inl (cmpQ_lt.1 (by rw [HS.out]; exact h1)), rfl, rfl⟩⟩
    go_upto_region 4 with fail
    have k0Wc0 := ((H_W.out.var 0 rfl)).cell 0 rfl
    have k0Wc1 := ((H_W.out.var 0 rfl)).cell 1 rfl
    have k0Wc2 := ((H_W.out.var 0 rfl)).cell 2 rfl
    have H_Wd := Lib.hid H_W.out.drew
    go_region_with
       (first
        | (go_at_call 26
           refine (qsign_ok _ xb XA XD xc xe xn xd (HXN.out.below H_Wd.out.below) (HXD.out.below H_Wd.out.below) (by omega) (by omega)).mono ?_
           rw [sign_qv HXD.out.2, HX.out, HS.out]
           rintro e_ a1 ⟨rfl, hB⟩
           have H_a1 := Lib.hid (Mo.call H_Wd.out hB)
           have k0a1c0 := ((H_a1.out.var 0 rfl)).cell 0 rfl
           have k0a1c1 := ((H_a1.out.var 0 rfl)).cell 1 rfl
           have k0a1c2 := ((H_a1.out.var 0 rfl)).cell 2 rfl
           clear hB))
    all_goals
      (go_wp2_with fail
       refine (ewhole_ok a1 0 (by omega) (by omega)).mono ?_
       rintro e_ w2 ⟨b9, A9, c9, x9, B9, d9, y9, rfl, HQa9, HQb9, HQc9, hx9, hy9, hB⟩
       have H_w2 := Lib.hid (Mo.num (Mo.num (Mo.call H_a1.out hB) hx9) hy9)
       have k1w2c0 := ((H_w2.out.var 1 rfl)).cell 0 rfl
       have k1w2c1 := ((H_w2.out.var 1 rfl)).cell 1 rfl
       have k1w2c2 := ((H_w2.out.var 1 rfl)).cell 2 rfl
       have k1w2f0 := ((H_w2.out.var 1 rfl)).thaw 0
       have k1w2f1 := ((H_w2.out.var 1 rfl)).thaw 1
       have k1w2f2 := ((H_w2.out.var 1 rfl)).thaw 2
       clear hB hx9 hy9
       go_wp2_with fail
       have hr0 := (H_w2.out).set 1 (j := 0) (v := .bool b9) (cs' := #[.bool b9, .slice none 0 0, .slice none 0 0]) rfl rfl (nd_rat _ _ _ _ _ _ _)
       have hr1 := (hr0).set 1 (j := 1) (v := .slice A9 x9.length c9) (cs' := #[.bool b9, .slice A9 x9.length c9, .slice none 0 0]) rfl rfl (nd_rat _ _ _ _ _ _ _)
       have hr2 := (hr1).set 1 (j := 2) (v := .slice B9 y9.length d9) (cs' := #[.bool b9, .slice A9 x9.length c9, .slice B9 y9.length d9]) rfl rfl (nd_rat _ _ _ _ _ _ _)
       have v3 : Vr (((w2.setCell ⟨gW1, 0, none⟩ (.bool b9)).setCell ⟨gW1, 1, none⟩ (.slice A9 x9.length c9)).setCell ⟨gW1, 2, none⟩ (.slice B9 y9.length d9)) gW1 28 #[.bool b9, .slice A9 x9.length c9, .slice B9 y9.length d9] := hr2.var 1 rfl
       refine bodyPost_ret (v := .tuple #[.agg #[.bool b9, .slice A9 x9.length c9, .slice B9 y9.length d9], .int .i64 3]) (by simp [results, Tryz.results8, go_sem, v3.cell 0 rfl, v3.cell 1 rfl, v3.cell 2 rfl]) rfl ?_
       exact ⟨0, 3, HN0, b9, A9, c9, x9, B9, d9, y9, rfl, HQa9, HQb9, HQc9, hr2.rn 0 rfl, hr2.rn 1 rfl, hr2.below⟩)
  · have dd1 : decide (s < 0) = false := decide_eq_false h1
    have hs0 : 0 ≤ s := by omega
    obtain ⟨s2, hs⟩ : ∃ s2, cmpQ p ((1 : Int) : Rat) = s2 := ⟨_, rfl⟩
    have HS2 := Lib.hid hs
    clear hs
    have HP0 : Hid (¬ p < 0) := fun h => by have := cmpQ_lt.2 h; rw [HS.out] at this; omega
    clear h1
    go_upto_region 4 with fail
    have k0Wc0 := ((H_W.out.var 0 rfl)).cell 0 rfl
    have k0Wc1 := ((H_W.out.var 0 rfl)).cell 1 rfl
    have k0Wc2 := ((H_W.out.var 0 rfl)).cell 2 rfl
    have H_Wd := Lib.hid H_W.out.drew
    first
    | go_region_held3 (fun w' => w'.cell? ⟨w.heap.size, 0, none⟩ = some (.bool xb) ∧ w'.cell? ⟨w.heap.size, 1, none⟩ = some (.slice XA xn.length xc) ∧ w'.cell? ⟨w.heap.size, 2, none⟩ = some (.slice XD xd.length xe)) (go_keep)
       (first
        | (go_at_call 26
           refine (qsign_ok _ xb XA XD xc xe xn xd (HXN.out.below H_Wd.out.below) (HXD.out.below H_Wd.out.below) (by omega) (by omega)).mono ?_
           rw [sign_qv HXD.out.2, HX.out, HS.out]
           rintro e_ a1 ⟨rfl, hB⟩
           have H_a1 := Lib.hid (Mo.call H_Wd.out hB)
           have k0a1c0 := ((H_a1.out.var 0 rfl)).cell 0 rfl
           have k0a1c1 := ((H_a1.out.var 0 rfl)).cell 1 rfl
           have k0a1c2 := ((H_a1.out.var 0 rfl)).cell 2 rfl
           clear hB)
        | (go_at_call 23
           refine (ewhole_ok _ 1 (by omega) (by omega)).mono ?_
           rintro e_ a2 ⟨b3, A3, c3, x3, B3, d3, y3, rfl, HQa3, HQb3, HQc3, hx3, hy3, hB⟩
           have H_a2 := Lib.hid (Mo.num (Mo.num (Mo.call H_a1.out hB) hx3) hy3)
           have k0a2c0 := ((H_a2.out.var 0 rfl)).cell 0 rfl
           have k0a2c1 := ((H_a2.out.var 0 rfl)).cell 1 rfl
           have k0a2c2 := ((H_a2.out.var 0 rfl)).cell 2 rfl
           have HV3 : Hid (qv b3 x3 y3 = ((1 : Int) : Rat)) := qv_nf HQa3.out HQb3.out HQc3.out
           have HL3 : Hid (x3.length ≤ 1 ∧ y3.length ≤ 1) := szl HQb3.out HQc3.out (sz_int (by omega))
           clear hB hx3 hy3)
        | (go_at_call 27
           refine (qcmp_ok a2 xb b3 XA XD A3 B3 xc xe c3 d3 xn xd x3 y3 (HXN.out.below H_a2.out.below) (HXD.out.below H_a2.out.below) (H_a2.out.rn 0 rfl) (H_a2.out.rn 1 rfl) (by omega) (by omega) (by have := HL3.out; omega) (by have := HL3.out; omega)).mono ?_
           rw [cmp_qv HXD.out.2 ((H_a2.out.rn 1 rfl)).2, HX.out, HV3.out, HS2.out]
           rintro e_ a3 ⟨rfl, hB⟩
           have H_a3 := Lib.hid (Mo.call H_a2.out hB)
           have k0a3c0 := ((H_a3.out.var 0 rfl)).cell 0 rfl
           have k0a3c1 := ((H_a3.out.var 0 rfl)).cell 1 rfl
           have k0a3c2 := ((H_a3.out.var 0 rfl)).cell 2 rfl
           clear hB))
    | fail
    by_cases h1 : 0 < s2
    · have dd2 : decide (0 < s2) = true := decide_eq_true h1
      have HN0 : Hid (InvR f p 0 3) := .inr ⟨HE.out, .inl ⟨.inr (by
        refine Classical.byContradiction fun h => ?_
        have h2 : cmpQ p ((1 : Int) : Rat) ≤ 0 := cmpQ_leE.2 h
        rw [HS2.out] at h2
        omega), rfl, rfl⟩⟩
      go_wp2_with fail
      refine (ewhole_ok a3 0 (by omega) (by omega)).mono ?_
      rintro e_ w5 ⟨b9, A9, c9, x9, B9, d9, y9, rfl, HQa9, HQb9, HQc9, hx9, hy9, hB⟩
      have H_w5 := Lib.hid (Mo.num (Mo.num (Mo.call H_a3.out hB) hx9) hy9)
      have k1w5c0 := ((H_w5.out.var 1 rfl)).cell 0 rfl
      have k1w5c1 := ((H_w5.out.var 1 rfl)).cell 1 rfl
      have k1w5c2 := ((H_w5.out.var 1 rfl)).cell 2 rfl
      have k1w5f0 := ((H_w5.out.var 1 rfl)).thaw 0
      have k1w5f1 := ((H_w5.out.var 1 rfl)).thaw 1
      have k1w5f2 := ((H_w5.out.var 1 rfl)).thaw 2
      clear hB hx9 hy9
      go_wp2_with fail
      have hr0 := (H_w5.out).set 1 (j := 0) (v := .bool b9) (cs' := #[.bool b9, .slice none 0 0, .slice none 0 0]) rfl rfl (nd_rat _ _ _ _ _ _ _)
      have hr1 := (hr0).set 1 (j := 1) (v := .slice A9 x9.length c9) (cs' := #[.bool b9, .slice A9 x9.length c9, .slice none 0 0]) rfl rfl (nd_rat _ _ _ _ _ _ _)
      have hr2 := (hr1).set 1 (j := 2) (v := .slice B9 y9.length d9) (cs' := #[.bool b9, .slice A9 x9.length c9, .slice B9 y9.length d9]) rfl rfl (nd_rat _ _ _ _ _ _ _)
      have v3 : Vr (((w5.setCell ⟨gW1, 0, none⟩ (.bool b9)).setCell ⟨gW1, 1, none⟩ (.slice A9 x9.length c9)).setCell ⟨gW1, 2, none⟩ (.slice B9 y9.length d9)) gW1 28 #[.bool b9, .slice A9 x9.length c9, .slice B9 y9.length d9] := hr2.var 1 rfl
      refine bodyPost_ret (v := .tuple #[.agg #[.bool b9, .slice A9 x9.length c9, .slice B9 y9.length d9], .int .i64 3]) (by simp [results, Tryz.results8, go_sem, v3.cell 0 rfl, v3.cell 1 rfl, v3.cell 2 rfl]) rfl ?_
      exact ⟨0, 3, HN0, b9, A9, c9, x9, B9, d9, y9, rfl, HQa9, HQb9, HQc9, hr2.rn 2 rfl, hr2.rn 3 rfl, hr2.below⟩
    have dd2 : decide (0 < s2) = false := decide_eq_false h1
    have hs2n : s2 ≤ 0 := by omega
    have HP1 : Hid (¬ (p < 0 ∨ 1 < p)) := fun h => by
      rcases h with h | h
      · exact HP0.out h
      · have h2 : ¬ cmpQ p ((1 : Int) : Rat) ≤ 0 := fun h3 => cmpQ_leE.1 h3 h
        rw [HS2.out] at h2
        omega
    clear h1
    obtain ⟨want, hw⟩ : ∃ want, p * ((T : Int) : Rat) = want := ⟨_, rfl⟩
    have HWT : Hid (wantQ f p = want) := by show _ = _; unfold wantQ; rw [HT.out]; exact hw
    have HWT2 := Lib.hid hw
    have HSW : Hid (sz want 35184372088303) := by show sz _ _; rw [← hw]; exact (sz_mul HSX.out (sz_int (by omega))).mono (by omega)
    clear hw
    go_upto_region 6 with fail
    have H_a30 := H_a3.out.sub []
    clear H_a3
    have H_a3 := Lib.hid H_a30
    clear H_a30
    go_cut [7] (fun s_ wc => ∃ (g : Nat) (b2 : Bool) (A2 : Option Addr) (c2 : Nat) (x2 : List Int) (B2 : Option Addr) (d2 : Nat) (y2 : List Int), s_ = .pointer (some ⟨g, 0, none⟩) ∧ Hid (b2 = decide ((want).num < 0)) ∧ Hid (x2 = limbs (want).num.natAbs) ∧ Hid (y2 = limbs (want).den) ∧ Hid (Mo w wc [(w.heap.size, 28, #[.bool xb, .slice XA xn.length xc, .slice XD xd.length xe]), (gW1, 28, #[.bool false, .slice none 0 0, .slice none 0 0]), (g, 28, #[.bool b2, .slice A2 x2.length c2, .slice B2 y2.length d2])] [(A2, c2, x2), (B2, d2, y2)]))
    case first =>
      have k0a3c0 := ((H_a3.out.var 0 rfl)).cell 0 rfl
      have k0a3c1 := ((H_a3.out.var 0 rfl)).cell 1 rfl
      have k0a3c2 := ((H_a3.out.var 0 rfl)).cell 2 rfl
      have nea301 : w.heap.size ≠ gW1 := H_a3.out.apart 0 1 _ _ _ _ _ _ rfl rfl (by decide)
      have nea310 : gW1 ≠ w.heap.size := H_a3.out.apart 1 0 _ _ _ _ _ _ rfl rfl (by decide)
      have H_a3d := Lib.hid H_a3.out.drew
      first
      | go_region_held3 (fun w' => w'.cell? ⟨w.heap.size, 0, none⟩ = some (.bool xb) ∧ w'.cell? ⟨w.heap.size, 1, none⟩ = some (.slice XA xn.length xc) ∧ w'.cell? ⟨w.heap.size, 2, none⟩ = some (.slice XD xd.length xe)) (go_keep)
         (first
          | (go_at_call 33
             refine (tot_callN _ FA fc f.length f rfl (by first | exact HR.out.below (H_a3d.out).below | exact HR.out.below (((H_a3d.out).alloc' (a3.heap.size) rfl (nd_rat false none none 0 0 0 0))).below) hl61 HFQ.out HT.out).mono ?_
             rintro e_ t1 ⟨rfl, hB⟩
             have H_t1 := Lib.hid (Mo.call (by first | exact H_a3d.out | exact ((H_a3d.out).alloc' (a3.heap.size) rfl (nd_rat false none none 0 0 0 0))) hB)
             have k0t1c0 := ((H_t1.out.var 0 rfl)).cell 0 rfl
             have k0t1c1 := ((H_t1.out.var 0 rfl)).cell 1 rfl
             have k0t1c2 := ((H_t1.out.var 0 rfl)).cell 2 rfl
             try have x0c0t1 := (H_t1.out.var 2 rfl).cell 0 rfl
             try have x0f0t1 := (H_t1.out.var 2 rfl).thaw 0
             try have x0c1t1 := (H_t1.out.var 2 rfl).cell 1 rfl
             try have x0f1t1 := (H_t1.out.var 2 rfl).thaw 1
             try have x0c2t1 := (H_t1.out.var 2 rfl).cell 2 rfl
             try have x0f2t1 := (H_t1.out.var 2 rfl).thaw 2
             try have x0n0t1 := H_t1.out.apart 2 0 _ _ _ _ _ _ rfl rfl (by decide)
             try have x0n1t1 := H_t1.out.apart 2 1 _ _ _ _ _ _ rfl rfl (by decide)
             clear hB)
          | (go_at_call 23
             refine (ewhole_ok _ T (by omega) (by omega)).mono ?_
             rintro e_ t2 ⟨b1, A1, c1, x1, B1, d1, y1, rfl, HQa1, HQb1, HQc1, hx1, hy1, hB⟩
             have H_t2 := Lib.hid (Mo.num (Mo.num (Mo.call (by first | exact H_t1.out | exact ((H_t1.out).alloc' (t1.heap.size) rfl (nd_rat false none none 0 0 0 0))) hB) hx1) hy1)
             have k0t2c0 := ((H_t2.out.var 0 rfl)).cell 0 rfl
             have k0t2c1 := ((H_t2.out.var 0 rfl)).cell 1 rfl
             have k0t2c2 := ((H_t2.out.var 0 rfl)).cell 2 rfl
             have HV1 : Hid (qv b1 x1 y1 = ((T : Int) : Rat)) := qv_nf HQa1.out HQb1.out HQc1.out
             have HL1 : Hid (x1.length ≤ 1 ∧ y1.length ≤ 1) := szl HQb1.out HQc1.out (sz_int (by omega))
             try have x0c0t2 := (H_t2.out.var 2 rfl).cell 0 rfl
             try have x0f0t2 := (H_t2.out.var 2 rfl).thaw 0
             try have x0c1t2 := (H_t2.out.var 2 rfl).cell 1 rfl
             try have x0f1t2 := (H_t2.out.var 2 rfl).thaw 1
             try have x0c2t2 := (H_t2.out.var 2 rfl).cell 2 rfl
             try have x0f2t2 := (H_t2.out.var 2 rfl).thaw 2
             try have x0n0t2 := H_t2.out.apart 2 0 _ _ _ _ _ _ rfl rfl (by decide)
             try have x0n1t2 := H_t2.out.apart 2 1 _ _ _ _ _ _ rfl rfl (by decide)
             clear hB hx1 hy1)
          | (go_at_call 30
             refine (qmulF_ok _ xb b1 XA XD A1 B1 xc xe c1 d1 xn xd x1 y1 (by first | exact HXN.out.below (H_t2.out).below | exact HXN.out.below (((H_t2.out).alloc' (t2.heap.size) rfl (nd_rat false none none 0 0 0 0))).below) (by first | exact HXD.out.below (H_t2.out).below | exact HXD.out.below (((H_t2.out).alloc' (t2.heap.size) rfl (nd_rat false none none 0 0 0 0))).below) (by first | exact (H_t2.out).rn 0 rfl | exact (((H_t2.out).alloc' (t2.heap.size) rfl (nd_rat false none none 0 0 0 0))).rn 0 rfl) (by first | exact (H_t2.out).rn 1 rfl | exact (((H_t2.out).alloc' (t2.heap.size) rfl (nd_rat false none none 0 0 0 0))).rn 1 rfl) (by have := HL1.out; omega) (by have := HL1.out; omega)).mono ?_
             rintro e_ t3 ⟨b2, A2, c2, x2, B2, d2, y2, rfl, HQa2, HQb2, HQc2, hx2, hy2, hB⟩
             have H_t3 := Lib.hid (Mo.num (Mo.num (Mo.call (by first | exact H_t2.out | exact ((H_t2.out).alloc' (t2.heap.size) rfl (nd_rat false none none 0 0 0 0))) hB) hx2) hy2)
             have k0t3c0 := ((H_t3.out.var 0 rfl)).cell 0 rfl
             have k0t3c1 := ((H_t3.out.var 0 rfl)).cell 1 rfl
             have k0t3c2 := ((H_t3.out.var 0 rfl)).cell 2 rfl
             rw [HX.out, HV1.out, HWT2.out] at HQa2 HQb2 HQc2
             try have x0c0t3 := (H_t3.out.var 2 rfl).cell 0 rfl
             try have x0f0t3 := (H_t3.out.var 2 rfl).thaw 0
             try have x0c1t3 := (H_t3.out.var 2 rfl).cell 1 rfl
             try have x0f1t3 := (H_t3.out.var 2 rfl).thaw 1
             try have x0c2t3 := (H_t3.out.var 2 rfl).cell 2 rfl
             try have x0f2t3 := (H_t3.out.var 2 rfl).thaw 2
             try have x0n0t3 := H_t3.out.apart 2 0 _ _ _ _ _ _ rfl rfl (by decide)
             try have x0n1t3 := H_t3.out.apart 2 1 _ _ _ _ _ _ rfl rfl (by decide)
             try have p0ct3 := ((((H_t3.out).alloc' (t := 28) (cs := #[.bool false, .slice none 0 0, .slice none 0 0]) (t3.heap.size) rfl (nd_rat _ _ _ _ _ _ _))).var 2 rfl).cell 0 rfl
             try have p0ft3 := ((((H_t3.out).alloc' (t := 28) (cs := #[.bool false, .slice none 0 0, .slice none 0 0]) (t3.heap.size) rfl (nd_rat _ _ _ _ _ _ _))).var 2 rfl).thaw 0
             try have p1ct3 := ((((H_t3.out).alloc' (t := 28) (cs := #[.bool false, .slice none 0 0, .slice none 0 0]) (t3.heap.size) rfl (nd_rat _ _ _ _ _ _ _))).var 2 rfl).cell 1 rfl
             try have p1ft3 := ((((H_t3.out).alloc' (t := 28) (cs := #[.bool false, .slice none 0 0, .slice none 0 0]) (t3.heap.size) rfl (nd_rat _ _ _ _ _ _ _))).var 2 rfl).thaw 1
             try have p2ct3 := ((((H_t3.out).alloc' (t := 28) (cs := #[.bool false, .slice none 0 0, .slice none 0 0]) (t3.heap.size) rfl (nd_rat _ _ _ _ _ _ _))).var 2 rfl).cell 2 rfl
             try have p2ft3 := ((((H_t3.out).alloc' (t := 28) (cs := #[.bool false, .slice none 0 0, .slice none 0 0]) (t3.heap.size) rfl (nd_rat _ _ _ _ _ _ _))).var 2 rfl).thaw 2
             try have pn0t3 := (((H_t3.out).alloc' (t := 28) (cs := #[.bool false, .slice none 0 0, .slice none 0 0]) (t3.heap.size) rfl (nd_rat _ _ _ _ _ _ _))).apart 2 0 _ _ _ _ _ _ rfl rfl (by decide)
             try have pn1t3 := (((H_t3.out).alloc' (t := 28) (cs := #[.bool false, .slice none 0 0, .slice none 0 0]) (t3.heap.size) rfl (nd_rat _ _ _ _ _ _ _))).apart 2 1 _ _ _ _ _ _ rfl rfl (by decide)
             clear hB hx2 hy2))
      | fail
      all_goals (go_wp2_with fail; go_meet)
      · exact ⟨_, b2, A2, c2, x2, B2, d2, y2, rfl, HQa2, HQb2, HQc2, (((H_t3.out.sub [2, 3])).alloc' (t := 28) (cs := #[.bool b2, .slice A2 x2.length c2, .slice B2 y2.length d2]) (t3.heap.size) rfl (nd_rat _ _ _ _ _ _ _))⟩
      · exact ⟨_, b2, A2, c2, x2, B2, d2, y2, rfl, HQa2, HQb2, HQc2, (((((((H_t3.out.sub [2, 3])).set 2 (j := 0) (v := .bool b2) (cs' := #[.bool b2, .slice none 0 0, .slice none 0 0]) rfl rfl (nd_rat _ _ _ _ _ _ _))).set 2 (j := 1) (v := .slice A2 x2.length c2) (cs' := #[.bool b2, .slice A2 x2.length c2, .slice none 0 0]) rfl rfl (nd_rat _ _ _ _ _ _ _))).set 2 (j := 2) (v := .slice B2 y2.length d2) (cs' := #[.bool b2, .slice A2 x2.length c2, .slice B2 y2.length d2]) rfl rfl (nd_rat _ _ _ _ _ _ _))⟩
      · exact ⟨_, b2, A2, c2, x2, B2, d2, y2, rfl, HQa2, HQb2, HQc2, (((((((H_t3.out.sub [2, 3])).set 2 (j := 0) (v := .bool b2) (cs' := #[.bool b2, .slice none 0 0, .slice none 0 0]) rfl rfl (nd_rat _ _ _ _ _ _ _))).set 2 (j := 1) (v := .slice A2 x2.length c2) (cs' := #[.bool b2, .slice A2 x2.length c2, .slice none 0 0]) rfl rfl (nd_rat _ _ _ _ _ _ _))).set 2 (j := 2) (v := .slice B2 y2.length d2) (cs' := #[.bool b2, .slice A2 x2.length c2, .slice B2 y2.length d2]) rfl rfl (nd_rat _ _ _ _ _ _ _))⟩
      · exact ⟨_, b2, A2, c2, x2, B2, d2, y2, rfl, HQa2, HQb2, HQc2, (((((((H_t3.out.sub [2, 3])).set 2 (j := 0) (v := .bool b2) (cs' := #[.bool b2, .slice none 0 0, .slice none 0 0]) rfl rfl (nd_rat _ _ _ _ _ _ _))).set 2 (j := 1) (v := .slice A2 x2.length c2) (cs' := #[.bool b2, .slice A2 x2.length c2, .slice none 0 0]) rfl rfl (nd_rat _ _ _ _ _ _ _))).set 2 (j := 2) (v := .slice B2 y2.length d2) (cs' := #[.bool b2, .slice A2 x2.length c2, .slice B2 y2.length d2]) rfl rfl (nd_rat _ _ _ _ _ _ _))⟩
    case rest =>
      obtain ⟨g, b2, A2, c2, x2, B2, d2, y2, rfl, HQa2, HQb2, HQc2, H_wc⟩ := hcut
      obtain ⟨wb, rfl⟩ : ∃ W, W = wc := ⟨_, rfl⟩
      have H_wb := H_wc
      have HV2 : Hid (qv b2 x2 y2 = want) := qv_nf HQa2.out HQb2.out HQc2.out
      have HL2 : Hid (x2.length ≤ 35184372088303 ∧ y2.length ≤ 35184372088303) := szl HQb2.out HQc2.out (HSW.out)
      go_wp2_with fail
      go_loopw [8, 9, 35] (fun kv nv iv wr => ∃ (k : Nat), iv = .int .i64 (k : Int) ∧ k ≤ f.length ∧ Hid (∀ j, j < k → dg f j = 0 ∨ ((tot f (j + 1) : Int) : Rat) < want) ∧ Hid (Below wb.heap.size wb wr)) (fun _ _ iv _ => f.length - (intOf iv).toNat)
      case atStart => exact ⟨0, rfl, Nat.zero_le _, fun j hj => by omega, Below.refl _ _⟩
      case round =>
        obtain ⟨k, rfl, hk, HN, HB⟩ := hrel
        have H_wr := Lib.hid (Mo.call H_wb.out HB.out)
        by_cases hlt : k < f.length
        rotate_left
        · have d1 : decide ((k : Int) < (f.length : Int)) = false := decide_eq_false (by omega)
          have d2_ : decide (k < f.length) = false := decide_eq_false hlt
          have HN0 : Hid (InvR f p 0 3) := .inr ⟨HE.out, .inr ⟨HP1.out, .inr ⟨fun j hj => by rw [HWT.out]; exact HN.out j (by omega), rfl, rfl⟩⟩⟩
          clear hlt
          go_wp2_with fail
          refine (ewhole_ok wr 0 (by omega) (by omega)).mono ?_
          rintro e_ w7 ⟨b9, A9, c9, x9, B9, d9, y9, rfl, HQa9, HQb9, HQc9, hx9, hy9, hB⟩
          have H_w7 := Lib.hid (Mo.num (Mo.num (Mo.call H_wr.out hB) hx9) hy9)
          have k1w7c0 := ((H_w7.out.var 1 rfl)).cell 0 rfl
          have k1w7c1 := ((H_w7.out.var 1 rfl)).cell 1 rfl
          have k1w7c2 := ((H_w7.out.var 1 rfl)).cell 2 rfl
          have k1w7f0 := ((H_w7.out.var 1 rfl)).thaw 0
          have k1w7f1 := ((H_w7.out.var 1 rfl)).thaw 1
          have k1w7f2 := ((H_w7.out.var 1 rfl)).thaw 2
          clear hB hx9 hy9
          go_wp2_with fail
          have hr0 := (H_w7.out).set 1 (j := 0) (v := .bool b9) (cs' := #[.bool b9, .slice none 0 0, .slice none 0 0]) rfl rfl (nd_rat _ _ _ _ _ _ _)
          have hr1 := (hr0).set 1 (j := 1) (v := .slice A9 x9.length c9) (cs' := #[.bool b9, .slice A9 x9.length c9, .slice none 0 0]) rfl rfl (nd_rat _ _ _ _ _ _ _)
          have hr2 := (hr1).set 1 (j := 2) (v := .slice B9 y9.length d9) (cs' := #[.bool b9, .slice A9 x9.length c9, .slice B9 y9.length d9]) rfl rfl (nd_rat _ _ _ _ _ _ _)
          have v3 : Vr (((w7.setCell ⟨gW1, 0, none⟩ (.bool b9)).setCell ⟨gW1, 1, none⟩ (.slice A9 x9.length c9)).setCell ⟨gW1, 2, none⟩ (.slice B9 y9.length d9)) gW1 28 #[.bool b9, .slice A9 x9.length c9, .slice B9 y9.length d9] := hr2.var 1 rfl
          refine bodyPost_ret (v := .tuple #[.agg #[.bool b9, .slice A9 x9.length c9, .slice B9 y9.length d9], .int .i64 3]) (by simp [results, Tryz.results8, go_sem, v3.cell 0 rfl, v3.cell 1 rfl, v3.cell 2 rfl]) rfl ?_
          exact ⟨0, 3, HN0, b9, A9, c9, x9, B9, d9, y9, rfl, HQa9, HQb9, HQc9, hr2.rn 2 rfl, hr2.rn 3 rfl, hr2.below⟩
        have d1 : decide ((k : Int) < (f.length : Int)) = true := decide_eq_true (by omega)
        obtain ⟨ad, rfl, hcf⟩ := HR.out.2.2 k hlt
        have hcr := cell_belowE H_wr.out.below hcf
        have HCF := Lib.hid hcf
        have HBF : Hid ((ad.add k).block < w.heap.size) := World.block_lt_of_cell? w _ hcf
        obtain ⟨n, hn⟩ : ∃ n, dg f k = n := ⟨_, rfl⟩
        have hnb := HFQ.out k hlt
        rw [hn] at hcf hcr hnb
        have HNN := Lib.hid hn
        clear hn hcf
        by_cases hn0 : n = 0
        · have e1 : (n == 0) = true := beq_iff_eq.2 hn0
          have HKK : Hid (∀ j, j < k + 1 → dg f j = 0 ∨ ((tot f (j + 1) : Int) : Rat) < want) := fun j hj => by
            rcases Nat.lt_or_ge j k with h | h
            · exact HN.out j h
            · obtain rfl : j = k := by omega
              exact .inl (HNN.out.trans hn0)
          clear HN
          subst hn0
          go_wp2_with fail
          go_quiet (fail)
          go_wp2_with fail
          go_roundw
          case rel => exact ⟨k + 1, by go_num, hlt, HKK, by first | exact HB | exact Lib.hid HB.out.drew | exact Lib.hid (below_drewN HB.out _)⟩
          case measure => simp [intOf]; omega
        have e1 : (n == 0) = false := beq_eq_false_iff_ne.2 hn0
        have hkb := tot_bound HFQ.out k (by omega)
        have hkb1 := tot_bound HFQ.out (k + 1) hlt
        have hts := tot_succ f k
        obtain ⟨sk, hsk⟩ : ∃ sk, tot f k = sk := ⟨_, rfl⟩
        obtain ⟨sk1, hsk1⟩ : ∃ sk1, tot f (k + 1) = sk1 := ⟨_, rfl⟩
        rw [hsk] at hkb hts
        rw [hsk1] at hkb1 hts
        rw [HNN.out] at hts
        obtain ⟨k1, hk1⟩ : ∃ k1 : Nat, k + 1 = k1 := ⟨_, rfl⟩
        have HSK := Lib.hid hsk
        have HSK1 : Hid (tot f k1 = sk1) := by rw [← hk1]; exact hsk1
        have HK1 := Lib.hid hk1
        have e2 : ((k : Int) + 1) = (k1 : Int) := by omega
        have e3 : IntKind.i64.wrap (k1 : Int) = (k1 : Int) := IntWalk.i64_in _ (by omega)
        have e4 : IntKind.i64.wrap ((k : Int) + 1) = (k1 : Int) := by rw [e2]; exact e3
        have bk1 : (0 : Int) ≤ (k : Int) := by omega
        have bk2 : (k : Int) < (f.length : Int) := by omega
        have bk3 : (k : Int) ≤ (fc : Int) := by omega
        have bk4 : k ≤ fc := by omega
        have bl1 : (0 : Int) ≤ (k1 : Int) := by omega
        have bl3 : (k1 : Int) ≤ (fc : Int) := by omega
        have bl4 : k1 ≤ fc := by omega
        have HRT : Hid (Rk w .i64 (some ad) fc (f.take k)) := HR.out.takeC (by omega)
        have HKT : Hid ((f.take k).length = k) := by show _ = _; rw [List.length_take]; omega
        have HTK : Hid (tot (f.take k) (f.take k).length = sk) := by show _ = _; rw [HKT.out, tot_take f k k (Nat.le_refl _)]; exact hsk
        have HFT : Hid (freq (f.take k)) := HFQ.out.take k
        have HRU : Hid (Rk w .i64 (some ad) fc (f.take k1)) := HR.out.takeC (by omega)
        have HKU : Hid ((f.take k1).length = k1) := by show _ = _; rw [List.length_take]; omega
        have HTU : Hid (tot (f.take k1) (f.take k1).length = sk1) := by show _ = _; rw [HKU.out, tot_take f k1 k1 (Nat.le_refl _)]; exact HSK1.out
        have HFU : Hid (freq (f.take k1)) := HFQ.out.take k1
        obtain ⟨s3, hs3⟩ : ∃ s3, cmpQ ((sk1 : Int) : Rat) want = s3 := ⟨_, rfl⟩
        have HS3 := Lib.hid hs3
        clear hsk hsk1 hk1 hs3 hts
        go_upto_region 10 with fail
        have k2wrc0 := ((H_wr.out.var 2 rfl)).cell 0 rfl
        have k2wrc1 := ((H_wr.out.var 2 rfl)).cell 1 rfl
        have k2wrc2 := ((H_wr.out.var 2 rfl)).cell 2 rfl
        have H_wrd := Lib.hid H_wr.out.drew
        first
        | go_region_held3 (fun w' => w'.cell? ⟨g, 0, none⟩ = some (.bool b2) ∧ w'.cell? ⟨g, 1, none⟩ = some (.slice A2 x2.length c2) ∧ w'.cell? ⟨g, 2, none⟩ = some (.slice B2 y2.length d2)) (go_keep)
           (first
            | (go_at_call_of 33 k1
               refine (tot_callN _ (some ad) fc k1 (f.take k1) HKU.out (by first | exact HRU.out.below (H_wrd.out).below) (by rw [HKU.out]; omega) HFU.out HTU.out).mono ?_
               rintro e_ t1 ⟨rfl, hB⟩
               have H_t1 := Lib.hid (Mo.call H_wrd.out hB)
               have k2t1c0 := ((H_t1.out.var 2 rfl)).cell 0 rfl
               have k2t1c1 := ((H_t1.out.var 2 rfl)).cell 1 rfl
               have k2t1c2 := ((H_t1.out.var 2 rfl)).cell 2 rfl
               have HBt1 := Lib.hid (below_seq HB.out.drew hB)
               clear hB)
            | (go_at_call 23
               refine (ewhole_ok _ sk1 (by omega) (by omega)).mono ?_
               rintro e_ t2 ⟨b3, A3, c3, x3, B3, d3, y3, rfl, HQa3, HQb3, HQc3, hx3, hy3, hB⟩
               have H_t2 := Lib.hid (Mo.num (Mo.num (Mo.call H_t1.out hB) hx3) hy3)
               have k2t2c0 := ((H_t2.out.var 2 rfl)).cell 0 rfl
               have k2t2c1 := ((H_t2.out.var 2 rfl)).cell 1 rfl
               have k2t2c2 := ((H_t2.out.var 2 rfl)).cell 2 rfl
               have HV3 : Hid (qv b3 x3 y3 = ((sk1 : Int) : Rat)) := qv_nf HQa3.out HQb3.out HQc3.out
               have HL3 : Hid (x3.length ≤ 1 ∧ y3.length ≤ 1) := szl HQb3.out HQc3.out (sz_int (by omega))
               have HBt2 := Lib.hid (below_seq HBt1.out hB)
               clear hB hx3 hy3)
            | (go_at_call 27
               refine (qcmp_ok t2 b3 b2 A3 B3 A2 B2 c3 d3 c2 d2 x3 y3 x2 y2 (H_t2.out.rn 2 rfl) (H_t2.out.rn 3 rfl) (H_t2.out.rn 0 rfl) (H_t2.out.rn 1 rfl) (by have := HL3.out; omega) (by have := HL3.out; omega) (by have := HL2.out; omega) (by have := HL2.out; omega)).mono ?_
               rw [cmp_qv ((H_t2.out.rn 3 rfl)).2 ((H_t2.out.rn 1 rfl)).2, HV3.out, HV2.out, HS3.out]
               rintro e_ t3 ⟨rfl, hB⟩
               have H_t3 := Lib.hid (Mo.call H_t2.out hB)
               have k2t3c0 := ((H_t3.out.var 2 rfl)).cell 0 rfl
               have k2t3c1 := ((H_t3.out.var 2 rfl)).cell 1 rfl
               have k2t3c2 := ((H_t3.out.var 2 rfl)).cell 2 rfl
               have hcr3 := cell_belowE H_t3.out.below HCF.out
               rw [HNN.out] at hcr3
               have HBt3 := Lib.hid (below_seq HBt2.out hB)
               clear hB))
        | fail
        by_cases h3 : s3 < 0
        · have dd3 : decide (s3 < 0) = true := decide_eq_true h3
          have HKK : Hid (∀ j, j < k1 → dg f j = 0 ∨ ((tot f (j + 1) : Int) : Rat) < want) := fun j hj => by
            have hk := HK1.out
            rcases Nat.lt_or_ge j k with h | h
            · exact HN.out j h
            · obtain rfl : j = k := by omega
              rw [hk, HSK1.out]
              exact .inr (cmpQ_lt.1 (by rw [HS3.out]; exact h3))
          have HB1 := Lib.hid (H_t3.out.below)
          have HBW : Hid (Below wb.heap.size wb t3) := HBt3
          go_wp2_with fail
          go_roundw
          case rel => exact ⟨k1, by first | rfl | go_num, by have := HK1.out; omega, HKK, HBW⟩
          case measure => simp [intOf]; have := HK1.out; omega
        have dd3 : decide (s3 < 0) = false := decide_eq_false h3
        have hs3n : 0 ≤ s3 := by omega
        have HKV : Hid (InvK f (wantQ f p) k) := ⟨hlt, by rw [HNN.out]; exact hn0, by rw [HWT.out, HK1.out, HSK1.out, ← cmpQ_geE, HS3.out]; exact hs3n, by rw [HWT.out]; exact HN.out⟩
        obtain ⟨R, hRq⟩ : ∃ R, invV f (wantQ f p) k = R := ⟨_, rfl⟩
        have HN0 : Hid (InvR f p R 0) := by show InvR _ _ _ _; rw [← hRq]; exact inv_hit HE.out HP1.out HKV.out
        have HRV : Hid (mkRat (2 * (k : Int) - 1) 2 + (want - ((sk : Int) : Rat)) / ((n : Int) : Rat) = R) := by show _ = _; rw [← hRq]; unfold invV; rw [HWT.out, HSK.out, HNN.out]
        have hnp : 0 < n := by omega
        obtain ⟨pt, hpt⟩ : ∃ pt, (want - ((sk : Int) : Rat)) / ((n : Int) : Rat) = pt := ⟨_, rfl⟩
        have HPT := Lib.hid hpt
        obtain ⟨df, hdf⟩ : ∃ df, want - ((sk : Int) : Rat) = df := ⟨_, rfl⟩
        have HDF := Lib.hid hdf
        have HSD : Hid (sz df 35184372088306) := by show sz _ _; rw [← hdf]; exact (sz_sub HSW.out (sz_int (by omega))).mono (by omega)
        rw [hdf] at HPT
        have HSP : Hid (sz pt 35184372088308) := by show sz _ _; rw [← HPT.out]; exact (sz_div (by rw [Rat.num_intCast]; exact hnp) HSD.out (sz_int (by omega))).mono (by omega)
        rw [hpt] at HRV
        clear h3 hRq hpt hdf
        go_upto_region 11 with fail
        go_cut [10] (fun s_ wc => ∃ (g11 : Nat) (b8 : Bool) (A8 : Option Addr) (c8 : Nat) (x8 : List Int) (B8 : Option Addr) (d8 : Nat) (y8 : List Int), s_ = .pointer (some ⟨g11, 0, none⟩) ∧ Hid (b8 = decide ((pt).num < 0)) ∧ Hid (x8 = limbs (pt).num.natAbs) ∧ Hid (y8 = limbs (pt).den) ∧ Hid (Mo w wc [(w.heap.size, 28, #[.bool xb, .slice XA xn.length xc, .slice XD xd.length xe]), (gW1, 28, #[.bool false, .slice none 0 0, .slice none 0 0]), (g, 28, #[.bool b2, .slice A2 x2.length c2, .slice B2 y2.length d2]), (g11, 28, #[.bool b8, .slice A8 x8.length c8, .slice B8 y8.length d8])] [(A8, c8, x8), (B8, d8, y8)]))
        case first =>
          have k2t3c0 := ((H_t3.out.var 2 rfl)).cell 0 rfl
          have k2t3c1 := ((H_t3.out.var 2 rfl)).cell 1 rfl
          have k2t3c2 := ((H_t3.out.var 2 rfl)).cell 2 rfl
          have net301 : w.heap.size ≠ gW1 := H_t3.out.apart 0 1 _ _ _ _ _ _ rfl rfl (by decide)
          have net302 : w.heap.size ≠ g := H_t3.out.apart 0 2 _ _ _ _ _ _ rfl rfl (by decide)
          have net310 : gW1 ≠ w.heap.size := H_t3.out.apart 1 0 _ _ _ _ _ _ rfl rfl (by decide)
          have net312 : gW1 ≠ g := H_t3.out.apart 1 2 _ _ _ _ _ _ rfl rfl (by decide)
          have net320 : g ≠ w.heap.size := H_t3.out.apart 2 0 _ _ _ _ _ _ rfl rfl (by decide)
          have net321 : g ≠ gW1 := H_t3.out.apart 2 1 _ _ _ _ _ _ rfl rfl (by decide)
          have H_t3d := Lib.hid H_t3.out.drew
          first
          | go_region_held3 (fun w' => w'.cell? ⟨g, 0, none⟩ = some (.bool b2) ∧ w'.cell? ⟨g, 1, none⟩ = some (.slice A2 x2.length c2) ∧ w'.cell? ⟨g, 2, none⟩ = some (.slice B2 y2.length d2)) (go_keep)
             (first
              | (go_at_call_of 33 k
                 refine (tot_callN _ (some ad) fc k (f.take k) HKT.out (by first | exact HRT.out.below (H_t3d.out).below | exact HRT.out.below (((H_t3d.out).alloc' (t3.heap.size) rfl (nd_rat false none none 0 0 0 0))).below) (by rw [HKT.out]; omega) HFT.out HTK.out).mono ?_
                 rintro e_ u1 ⟨rfl, hB⟩
                 have H_u1 := Lib.hid (Mo.call (by first | exact H_t3d.out | exact ((H_t3d.out).alloc' (t3.heap.size) rfl (nd_rat false none none 0 0 0 0))) hB)
                 have k2u1c0 := ((H_u1.out.var 2 rfl)).cell 0 rfl
                 have k2u1c1 := ((H_u1.out.var 2 rfl)).cell 1 rfl
                 have k2u1c2 := ((H_u1.out.var 2 rfl)).cell 2 rfl
                 try have x0c0u1 := (H_u1.out.var 3 rfl).cell 0 rfl
                 try have x0f0u1 := (H_u1.out.var 3 rfl).thaw 0
                 try have x0c1u1 := (H_u1.out.var 3 rfl).cell 1 rfl
                 try have x0f1u1 := (H_u1.out.var 3 rfl).thaw 1
                 try have x0c2u1 := (H_u1.out.var 3 rfl).cell 2 rfl
                 try have x0f2u1 := (H_u1.out.var 3 rfl).thaw 2
                 try have x0n0u1 := H_u1.out.apart 3 0 _ _ _ _ _ _ rfl rfl (by decide)
                 try have x0n1u1 := H_u1.out.apart 3 1 _ _ _ _ _ _ rfl rfl (by decide)
                 try have x0n2u1 := H_u1.out.apart 3 2 _ _ _ _ _ _ rfl rfl (by decide)
                 clear hB)
              | (go_at_call_of 23 sk
                 refine (ewhole_ok _ sk (by omega) (by omega)).mono ?_
                 rintro e_ u2 ⟨b5, A5, c5, x5, B5, d5, y5, rfl, HQa5, HQb5, HQc5, hx5, hy5, hB⟩
                 have H_u2 := Lib.hid (Mo.num (Mo.num (Mo.call (by first | exact H_u1.out | exact ((H_u1.out).alloc' (u1.heap.size) rfl (nd_rat false none none 0 0 0 0))) hB) hx5) hy5)
                 have k2u2c0 := ((H_u2.out.var 2 rfl)).cell 0 rfl
                 have k2u2c1 := ((H_u2.out.var 2 rfl)).cell 1 rfl
                 have k2u2c2 := ((H_u2.out.var 2 rfl)).cell 2 rfl
                 have HV5 : Hid (qv b5 x5 y5 = ((sk : Int) : Rat)) := qv_nf HQa5.out HQb5.out HQc5.out
                 have HL5 : Hid (x5.length ≤ 1 ∧ y5.length ≤ 1) := szl HQb5.out HQc5.out (sz_int (by omega))
                 try have x0c0u2 := (H_u2.out.var 3 rfl).cell 0 rfl
                 try have x0f0u2 := (H_u2.out.var 3 rfl).thaw 0
                 try have x0c1u2 := (H_u2.out.var 3 rfl).cell 1 rfl
                 try have x0f1u2 := (H_u2.out.var 3 rfl).thaw 1
                 try have x0c2u2 := (H_u2.out.var 3 rfl).cell 2 rfl
                 try have x0f2u2 := (H_u2.out.var 3 rfl).thaw 2
                 try have x0n0u2 := H_u2.out.apart 3 0 _ _ _ _ _ _ rfl rfl (by decide)
                 try have x0n1u2 := H_u2.out.apart 3 1 _ _ _ _ _ _ rfl rfl (by decide)
                 try have x0n2u2 := H_u2.out.apart 3 2 _ _ _ _ _ _ rfl rfl (by decide)
                 clear hB hx5 hy5)
              | (go_at_call 31
                 refine (qsubF_ok _ b2 b5 A2 B2 A5 B5 c2 d2 c5 d5 x2 y2 x5 y5 (by first | exact (H_u2.out).rn 0 rfl | exact (((H_u2.out).alloc' (u2.heap.size) rfl (nd_rat false none none 0 0 0 0))).rn 0 rfl) (by first | exact (H_u2.out).rn 1 rfl | exact (((H_u2.out).alloc' (u2.heap.size) rfl (nd_rat false none none 0 0 0 0))).rn 1 rfl) (by first | exact (H_u2.out).rn 4 rfl | exact (((H_u2.out).alloc' (u2.heap.size) rfl (nd_rat false none none 0 0 0 0))).rn 4 rfl) (by first | exact (H_u2.out).rn 5 rfl | exact (((H_u2.out).alloc' (u2.heap.size) rfl (nd_rat false none none 0 0 0 0))).rn 5 rfl) (by have := HL2.out; have := HL5.out; omega) (by have := HL2.out; have := HL5.out; omega) (by have := HL2.out; have := HL5.out; omega)).mono ?_
                 rintro e_ u3 ⟨b6, A6, c6, x6, B6, d6, y6, rfl, HQa6, HQb6, HQc6, hx6, hy6, hB⟩
                 have H_u3 := Lib.hid (Mo.num (Mo.num (Mo.call (by first | exact H_u2.out | exact ((H_u2.out).alloc' (u2.heap.size) rfl (nd_rat false none none 0 0 0 0))) hB) hx6) hy6)
                 have k2u3c0 := ((H_u3.out.var 2 rfl)).cell 0 rfl
                 have k2u3c1 := ((H_u3.out.var 2 rfl)).cell 1 rfl
                 have k2u3c2 := ((H_u3.out.var 2 rfl)).cell 2 rfl
                 rw [HV2.out, HV5.out, HDF.out] at HQa6 HQb6 HQc6
                 have HV6 : Hid (qv b6 x6 y6 = df) := qv_nf HQa6.out HQb6.out HQc6.out
                 have HL6 : Hid (x6.length ≤ 35184372088306 ∧ y6.length ≤ 35184372088306) := szl HQb6.out HQc6.out (HSD.out)
                 try have x0c0u3 := (H_u3.out.var 3 rfl).cell 0 rfl
                 try have x0f0u3 := (H_u3.out.var 3 rfl).thaw 0
                 try have x0c1u3 := (H_u3.out.var 3 rfl).cell 1 rfl
                 try have x0f1u3 := (H_u3.out.var 3 rfl).thaw 1
                 try have x0c2u3 := (H_u3.out.var 3 rfl).cell 2 rfl
                 try have x0f2u3 := (H_u3.out.var 3 rfl).thaw 2
                 try have x0n0u3 := H_u3.out.apart 3 0 _ _ _ _ _ _ rfl rfl (by decide)
                 try have x0n1u3 := H_u3.out.apart 3 1 _ _ _ _ _ _ rfl rfl (by decide)
                 try have x0n2u3 := H_u3.out.apart 3 2 _ _ _ _ _ _ rfl rfl (by decide)
                 clear hB hx6 hy6)
              | (go_at_call_of 23 n
                 refine (ewhole_ok _ n (by omega) (by omega)).mono ?_
                 rintro e_ u4 ⟨b7, A7, c7, x7, B7, d7, y7, rfl, HQa7, HQb7, HQc7, hx7, hy7, hB⟩
                 have H_u4 := Lib.hid (Mo.num (Mo.num (Mo.call (by first | exact H_u3.out | exact ((H_u3.out).alloc' (u3.heap.size) rfl (nd_rat false none none 0 0 0 0))) hB) hx7) hy7)
                 have k2u4c0 := ((H_u4.out.var 2 rfl)).cell 0 rfl
                 have k2u4c1 := ((H_u4.out.var 2 rfl)).cell 1 rfl
                 have k2u4c2 := ((H_u4.out.var 2 rfl)).cell 2 rfl
                 have HV7 : Hid (qv b7 x7 y7 = ((n : Int) : Rat)) := qv_nf HQa7.out HQb7.out HQc7.out
                 have HL7 : Hid (x7.length ≤ 1 ∧ y7.length ≤ 1) := szl HQb7.out HQc7.out (sz_int (by omega))
                 have HP7 : Hid (0 < qn b7 x7 y7) := qn_int HQa7.out HQb7.out HQc7.out hnp
                 try have x0c0u4 := (H_u4.out.var 3 rfl).cell 0 rfl
                 try have x0f0u4 := (H_u4.out.var 3 rfl).thaw 0
                 try have x0c1u4 := (H_u4.out.var 3 rfl).cell 1 rfl
                 try have x0f1u4 := (H_u4.out.var 3 rfl).thaw 1
                 try have x0c2u4 := (H_u4.out.var 3 rfl).cell 2 rfl
                 try have x0f2u4 := (H_u4.out.var 3 rfl).thaw 2
                 try have x0n0u4 := H_u4.out.apart 3 0 _ _ _ _ _ _ rfl rfl (by decide)
                 try have x0n1u4 := H_u4.out.apart 3 1 _ _ _ _ _ _ rfl rfl (by decide)
                 try have x0n2u4 := H_u4.out.apart 3 2 _ _ _ _ _ _ rfl rfl (by decide)
                 clear hB hx7 hy7)
              | (go_at_call 32
                 refine (qdivF_ok _ b6 b7 A6 B6 A7 B7 c6 d6 c7 d7 x6 y6 x7 y7 (by first | exact (H_u4.out).rn 6 rfl | exact (((H_u4.out).alloc' (u4.heap.size) rfl (nd_rat false none none 0 0 0 0))).rn 6 rfl) (by first | exact (H_u4.out).rn 7 rfl | exact (((H_u4.out).alloc' (u4.heap.size) rfl (nd_rat false none none 0 0 0 0))).rn 7 rfl) (by first | exact (H_u4.out).rn 8 rfl | exact (((H_u4.out).alloc' (u4.heap.size) rfl (nd_rat false none none 0 0 0 0))).rn 8 rfl) (by first | exact (H_u4.out).rn 9 rfl | exact (((H_u4.out).alloc' (u4.heap.size) rfl (nd_rat false none none 0 0 0 0))).rn 9 rfl) (by have := HL6.out; have := HL7.out; omega) (by have := HL6.out; have := HL7.out; omega) HP7.out).mono ?_
                 rintro e_ u5 ⟨b8, A8, c8, x8, B8, d8, y8, rfl, HQa8, HQb8, HQc8, hx8, hy8, hB⟩
                 have H_u5 := Lib.hid (Mo.num (Mo.num (Mo.call (by first | exact H_u4.out | exact ((H_u4.out).alloc' (u4.heap.size) rfl (nd_rat false none none 0 0 0 0))) hB) hx8) hy8)
                 have k2u5c0 := ((H_u5.out.var 2 rfl)).cell 0 rfl
                 have k2u5c1 := ((H_u5.out.var 2 rfl)).cell 1 rfl
                 have k2u5c2 := ((H_u5.out.var 2 rfl)).cell 2 rfl
                 rw [HV6.out, HV7.out, HPT.out] at HQa8 HQb8 HQc8
                 try have x0c0u5 := (H_u5.out.var 3 rfl).cell 0 rfl
                 try have x0f0u5 := (H_u5.out.var 3 rfl).thaw 0
                 try have x0c1u5 := (H_u5.out.var 3 rfl).cell 1 rfl
                 try have x0f1u5 := (H_u5.out.var 3 rfl).thaw 1
                 try have x0c2u5 := (H_u5.out.var 3 rfl).cell 2 rfl
                 try have x0f2u5 := (H_u5.out.var 3 rfl).thaw 2
                 try have x0n0u5 := H_u5.out.apart 3 0 _ _ _ _ _ _ rfl rfl (by decide)
                 try have x0n1u5 := H_u5.out.apart 3 1 _ _ _ _ _ _ rfl rfl (by decide)
                 try have x0n2u5 := H_u5.out.apart 3 2 _ _ _ _ _ _ rfl rfl (by decide)
                 try have p0cu5 := ((((H_u5.out).alloc' (t := 28) (cs := #[.bool false, .slice none 0 0, .slice none 0 0]) (u5.heap.size) rfl (nd_rat _ _ _ _ _ _ _))).var 3 rfl).cell 0 rfl
                 try have p0fu5 := ((((H_u5.out).alloc' (t := 28) (cs := #[.bool false, .slice none 0 0, .slice none 0 0]) (u5.heap.size) rfl (nd_rat _ _ _ _ _ _ _))).var 3 rfl).thaw 0
                 try have p1cu5 := ((((H_u5.out).alloc' (t := 28) (cs := #[.bool false, .slice none 0 0, .slice none 0 0]) (u5.heap.size) rfl (nd_rat _ _ _ _ _ _ _))).var 3 rfl).cell 1 rfl
                 try have p1fu5 := ((((H_u5.out).alloc' (t := 28) (cs := #[.bool false, .slice none 0 0, .slice none 0 0]) (u5.heap.size) rfl (nd_rat _ _ _ _ _ _ _))).var 3 rfl).thaw 1
                 try have p2cu5 := ((((H_u5.out).alloc' (t := 28) (cs := #[.bool false, .slice none 0 0, .slice none 0 0]) (u5.heap.size) rfl (nd_rat _ _ _ _ _ _ _))).var 3 rfl).cell 2 rfl
                 try have p2fu5 := ((((H_u5.out).alloc' (t := 28) (cs := #[.bool false, .slice none 0 0, .slice none 0 0]) (u5.heap.size) rfl (nd_rat _ _ _ _ _ _ _))).var 3 rfl).thaw 2
                 try have pn0u5 := (((H_u5.out).alloc' (t := 28) (cs := #[.bool false, .slice none 0 0, .slice none 0 0]) (u5.heap.size) rfl (nd_rat _ _ _ _ _ _ _))).apart 3 0 _ _ _ _ _ _ rfl rfl (by decide)
                 try have pn1u5 := (((H_u5.out).alloc' (t := 28) (cs := #[.bool false, .slice none 0 0, .slice none 0 0]) (u5.heap.size) rfl (nd_rat _ _ _ _ _ _ _))).apart 3 1 _ _ _ _ _ _ rfl rfl (by decide)
                 try have pn2u5 := (((H_u5.out).alloc' (t := 28) (cs := #[.bool false, .slice none 0 0, .slice none 0 0]) (u5.heap.size) rfl (nd_rat _ _ _ _ _ _ _))).apart 3 2 _ _ _ _ _ _ rfl rfl (by decide)
                 clear hB hx8 hy8))
          | fail
          all_goals (go_wp2_with fail; go_meet)
          · exact ⟨_, b8, A8, c8, x8, B8, d8, y8, rfl, HQa8, HQb8, HQc8, (((H_u5.out.sub [10, 11])).alloc' (t := 28) (cs := #[.bool b8, .slice A8 x8.length c8, .slice B8 y8.length d8]) (u5.heap.size) rfl (nd_rat _ _ _ _ _ _ _))⟩
          · exact ⟨_, b8, A8, c8, x8, B8, d8, y8, rfl, HQa8, HQb8, HQc8, (((((((H_u5.out.sub [10, 11])).set 3 (j := 0) (v := .bool b8) (cs' := #[.bool b8, .slice none 0 0, .slice none 0 0]) rfl rfl (nd_rat _ _ _ _ _ _ _))).set 3 (j := 1) (v := .slice A8 x8.length c8) (cs' := #[.bool b8, .slice A8 x8.length c8, .slice none 0 0]) rfl rfl (nd_rat _ _ _ _ _ _ _))).set 3 (j := 2) (v := .slice B8 y8.length d8) (cs' := #[.bool b8, .slice A8 x8.length c8, .slice B8 y8.length d8]) rfl rfl (nd_rat _ _ _ _ _ _ _))⟩
          · exact ⟨_, b8, A8, c8, x8, B8, d8, y8, rfl, HQa8, HQb8, HQc8, (((((((H_u5.out.sub [10, 11])).set 3 (j := 0) (v := .bool b8) (cs' := #[.bool b8, .slice none 0 0, .slice none 0 0]) rfl rfl (nd_rat _ _ _ _ _ _ _))).set 3 (j := 1) (v := .slice A8 x8.length c8) (cs' := #[.bool b8, .slice A8 x8.length c8, .slice none 0 0]) rfl rfl (nd_rat _ _ _ _ _ _ _))).set 3 (j := 2) (v := .slice B8 y8.length d8) (cs' := #[.bool b8, .slice A8 x8.length c8, .slice B8 y8.length d8]) rfl rfl (nd_rat _ _ _ _ _ _ _))⟩
          · exact ⟨_, b8, A8, c8, x8, B8, d8, y8, rfl, HQa8, HQb8, HQc8, (((((((H_u5.out.sub [10, 11])).set 3 (j := 0) (v := .bool b8) (cs' := #[.bool b8, .slice none 0 0, .slice none 0 0]) rfl rfl (nd_rat _ _ _ _ _ _ _))).set 3 (j := 1) (v := .slice A8 x8.length c8) (cs' := #[.bool b8, .slice A8 x8.length c8, .slice none 0 0]) rfl rfl (nd_rat _ _ _ _ _ _ _))).set 3 (j := 2) (v := .slice B8 y8.length d8) (cs' := #[.bool b8, .slice A8 x8.length c8, .slice B8 y8.length d8]) rfl rfl (nd_rat _ _ _ _ _ _ _))⟩
          · exact ⟨_, b8, A8, c8, x8, B8, d8, y8, rfl, HQa8, HQb8, HQc8, (((((((H_u5.out.sub [10, 11])).set 3 (j := 0) (v := .bool b8) (cs' := #[.bool b8, .slice none 0 0, .slice none 0 0]) rfl rfl (nd_rat _ _ _ _ _ _ _))).set 3 (j := 1) (v := .slice A8 x8.length c8) (cs' := #[.bool b8, .slice A8 x8.length c8, .slice none 0 0]) rfl rfl (nd_rat _ _ _ _ _ _ _))).set 3 (j := 2) (v := .slice B8 y8.length d8) (cs' := #[.bool b8, .slice A8 x8.length c8, .slice B8 y8.length d8]) rfl rfl (nd_rat _ _ _ _ _ _ _))⟩
          · exact ⟨_, b8, A8, c8, x8, B8, d8, y8, rfl, HQa8, HQb8, HQc8, (((((((H_u5.out.sub [10, 11])).set 3 (j := 0) (v := .bool b8) (cs' := #[.bool b8, .slice none 0 0, .slice none 0 0]) rfl rfl (nd_rat _ _ _ _ _ _ _))).set 3 (j := 1) (v := .slice A8 x8.length c8) (cs' := #[.bool b8, .slice A8 x8.length c8, .slice none 0 0]) rfl rfl (nd_rat _ _ _ _ _ _ _))).set 3 (j := 2) (v := .slice B8 y8.length d8) (cs' := #[.bool b8, .slice A8 x8.length c8, .slice B8 y8.length d8]) rfl rfl (nd_rat _ _ _ _ _ _ _))⟩
        case rest =>
          obtain ⟨g11, b8, A8, c8, x8, B8, d8, y8, rfl, HQa8, HQb8, HQc8, H_wd⟩ := hcut
          obtain ⟨wd, rfl⟩ : ∃ W, W = wc := ⟨_, rfl⟩
          have HV8 : Hid (qv b8 x8 y8 = pt) := qv_nf HQa8.out HQb8.out HQc8.out
          have HL8 : Hid (x8.length ≤ 35184372088308 ∧ y8.length ≤ 35184372088308) := szl HQb8.out HQc8.out (HSP.out)
          have e5 : IntKind.i64.wrap (2 * (k : Int)) = 2 * (k : Int) := IntWalk.i64_in _ (by omega)
          have e6 : IntKind.i64.wrap (2 * (k : Int) - 1) = 2 * (k : Int) - 1 := IntWalk.i64_in _ (by omega)
          go_upto_region 12 with fail
          have k3wdc0 := ((H_wd.out.var 3 rfl)).cell 0 rfl
          have k3wdc1 := ((H_wd.out.var 3 rfl)).cell 1 rfl
          have k3wdc2 := ((H_wd.out.var 3 rfl)).cell 2 rfl
          have newd10 : gW1 ≠ w.heap.size := H_wd.out.apart 1 0 _ _ _ _ _ _ rfl rfl (by decide)
          have newd12 : gW1 ≠ g := H_wd.out.apart 1 2 _ _ _ _ _ _ rfl rfl (by decide)
          have newd13 : gW1 ≠ g11 := H_wd.out.apart 1 3 _ _ _ _ _ _ rfl rfl (by decide)
          have H_wdd := Lib.hid H_wd.out.drew
          first
          | go_region_held3 (fun w' => w'.cell? ⟨g11, 0, none⟩ = some (.bool b8) ∧ w'.cell? ⟨g11, 1, none⟩ = some (.slice A8 x8.length c8) ∧ w'.cell? ⟨g11, 2, none⟩ = some (.slice B8 y8.length d8)) (go_keep)
             (first
              | (go_at_call 25
                 refine (fraction_ok _ (2 * (k : Int) - 1) 2 (by omega) (by omega) (by omega) (by omega)).mono ?_
                 rw [show (2 : Int).toNat = 2 from rfl]
                 rintro e_ v1 ⟨b10, A10, c10, x10, B10, d10, y10, rfl, HQa10, HQb10, HQc10, hx10, hy10, hB⟩
                 have H_v1 := Lib.hid (Mo.num (Mo.num (Mo.call H_wdd.out hB) hx10) hy10)
                 have k3v1c0 := ((H_v1.out.var 3 rfl)).cell 0 rfl
                 have k3v1c1 := ((H_v1.out.var 3 rfl)).cell 1 rfl
                 have k3v1c2 := ((H_v1.out.var 3 rfl)).cell 2 rfl
                 have HV10 : Hid (qv b10 x10 y10 = mkRat (2 * (k : Int) - 1) 2) := qv_nf HQa10.out HQb10.out HQc10.out
                 have HL10 : Hid (x10.length ≤ 1 ∧ y10.length ≤ 1) := szl HQb10.out HQc10.out (sz_half (by omega))
                 clear hB hx10 hy10)
              | (go_at_call 24
                 refine (qaddF_ok _ b10 b8 A10 B10 A8 B8 c10 d10 c8 d8 x10 y10 x8 y8 (H_v1.out.rn 2 rfl) (H_v1.out.rn 3 rfl) (H_v1.out.rn 0 rfl) (H_v1.out.rn 1 rfl) (by have := HL10.out; have := HL8.out; omega) (by have := HL10.out; have := HL8.out; omega) (by have := HL10.out; have := HL8.out; omega)).mono ?_
                 rintro e_ v2 ⟨b15, A15, c15, x15, B15, d15, y15, rfl, HQa15, HQb15, HQc15, hx15, hy15, hB⟩
                 have H_v2 := Lib.hid (Mo.num (Mo.num (Mo.call H_v1.out hB) hx15) hy15)
                 have k3v2c0 := ((H_v2.out.var 3 rfl)).cell 0 rfl
                 have k3v2c1 := ((H_v2.out.var 3 rfl)).cell 1 rfl
                 have k3v2c2 := ((H_v2.out.var 3 rfl)).cell 2 rfl
                 have k1v2c0 := ((H_v2.out.var 1 rfl)).cell 0 rfl
                 have k1v2c1 := ((H_v2.out.var 1 rfl)).cell 1 rfl
                 have k1v2c2 := ((H_v2.out.var 1 rfl)).cell 2 rfl
                 have k1v2f0 := ((H_v2.out.var 1 rfl)).thaw 0
                 have k1v2f1 := ((H_v2.out.var 1 rfl)).thaw 1
                 have k1v2f2 := ((H_v2.out.var 1 rfl)).thaw 2
                 rw [HV10.out, HV8.out, HRV.out] at HQa15 HQb15 HQc15
                 clear hB hx15 hy15))
          | fail
          go_wp2_with fail
          have hr0 := (H_v2.out).set 1 (j := 0) (v := .bool b15) (cs' := #[.bool b15, .slice none 0 0, .slice none 0 0]) rfl rfl (nd_rat _ _ _ _ _ _ _)
          have hr1 := (hr0).set 1 (j := 1) (v := .slice A15 x15.length c15) (cs' := #[.bool b15, .slice A15 x15.length c15, .slice none 0 0]) rfl rfl (nd_rat _ _ _ _ _ _ _)
          have hr2 := (hr1).set 1 (j := 2) (v := .slice B15 y15.length d15) (cs' := #[.bool b15, .slice A15 x15.length c15, .slice B15 y15.length d15]) rfl rfl (nd_rat _ _ _ _ _ _ _)
          have v3 : Vr (((v2.setCell ⟨gW1, 0, none⟩ (.bool b15)).setCell ⟨gW1, 1, none⟩ (.slice A15 x15.length c15)).setCell ⟨gW1, 2, none⟩ (.slice B15 y15.length d15)) gW1 28 #[.bool b15, .slice A15 x15.length c15, .slice B15 y15.length d15] := hr2.var 1 rfl
          refine bodyPost_ret (v := .tuple #[.agg #[.bool b15, .slice A15 x15.length c15, .slice B15 y15.length d15], .int .i64 0]) (by simp [results, Tryz.results8, go_sem, v3.cell 0 rfl, v3.cell 1 rfl, v3.cell 2 rfl]) rfl ?_
          exact ⟨R, 0, HN0, b15, A15, c15, x15, B15, d15, y15, rfl, HQa15, HQb15, HQc15, hr2.rn 4 rfl, hr2.rn 5 rfl, hr2.below⟩

end Go.Proofs.YtocpncjmcaecoaaGreat.M
