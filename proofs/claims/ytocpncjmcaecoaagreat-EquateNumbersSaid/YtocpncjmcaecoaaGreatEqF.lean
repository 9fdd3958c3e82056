/- Moments by the program. -/
import Derived.Test.YtocpncjmcaecoaaGreatEqD
namespace Go.Proofs.YtocpncjmcaecoaaGreat.M
set_option maxRecDepth 10000
open Go.RowKit
set_option linter.unusedVariables false
set_option linter.unusedSimpArgs false
/-- Sums of scores and of their squares. -/
def sm (f : List Int) : Nat → Int
  | 0 => 0
  | k + 1 => sm f k + (k : Int) * dg f k
def sq (f : List Int) : Nat → Int
  | 0 => 0
  | k + 1 => sq f k + (k : Int) * (k : Int) * dg f k
theorem sm_succ (f : List Int) (k : Nat) : sm f (k + 1) = sm f k + (k : Int) * dg f k := rfl
theorem sq_succ (f : List Int) (k : Nat) : sq f (k + 1) = sq f k + (k : Int) * (k : Int) * dg f k := rfl
theorem mul_le60 {k : Nat} {n : Int} (hk : k ≤ 60) (h0 : 0 ≤ n) (h1 : n ≤ 1000000) : (0 ≤ (k : Int) * n ∧ (k : Int) * n ≤ 60000000) ∧ (0 ≤ (k : Int) * (k : Int) ∧ (k : Int) * (k : Int) ≤ 3600) ∧ (0 ≤ (k : Int) * (k : Int) * n ∧ (k : Int) * (k : Int) * n ≤ 3600000000) := by
  have hk' : (k : Int) ≤ 60 := by omega
  have hk0 : 0 ≤ (k : Int) := by omega
  have a1 := Int.mul_nonneg hk0 h0
  have a2 : (k : Int) * n ≤ 60 * 1000000 := Int.mul_le_mul hk' h1 h0 (by decide)
  have b1 := Int.mul_nonneg hk0 hk0
  have b2 : (k : Int) * (k : Int) ≤ 60 * 60 := Int.mul_le_mul hk' hk' hk0 (by decide)
  have c1 := Int.mul_nonneg b1 h0
  have c2 : (k : Int) * (k : Int) * n ≤ 3600 * 1000000 := Int.mul_le_mul (by omega) h1 h0 (by decide)
  omega
theorem sm_bound {f : List Int} (h : freq f) (hl : f.length ≤ 61) : ∀ k, k ≤ f.length → (0 ≤ sm f k ∧ sm f k ≤ 60000000 * (k : Int)) ∧ (0 ≤ sq f k ∧ sq f k ≤ 3600000000 * (k : Int))
  | 0, _ => ⟨⟨by show 0 ≤ (0 : Int); omega, by show (0 : Int) ≤ _; omega⟩, ⟨by show 0 ≤ (0 : Int); omega, by show (0 : Int) ≤ _; omega⟩⟩
  | k + 1, hk => by
    have h1 := sm_bound h hl k (by omega)
    have h2 := h k (by omega)
    have h3 := mul_le60 (k := k) (by omega) h2.1 h2.2
    rw [sm_succ, sq_succ]
    omega
def meanQ (f : List Int) : Rat := mkRat (sm f f.length) (tot f f.length).toNat
def varQ (f : List Int) : Rat := mkRat (sq f f.length) (tot f f.length).toNat - meanQ f * meanQ f
noncomputable def momM (f : List Int) : Rat := if validE f = 0 then meanQ f else 0
noncomputable def momV (f : List Int) : Rat := if validE f = 0 then varQ f else 0
theorem sz_mk {n : Int} {d : Nat} (hd : d ≠ 0) (h1 : n.natAbs < 18446744073709551616) (h2 : d < 18446744073709551616) : sz (mkRat n d) 2 := mk_len hd h1 h2
/-- Two ratios in normal form and an error number. -/
def RetMV (p q : Rat) (e0 : Int) (w : World) (e : Ending) (w' : World) : Prop :=
  ∃ b A c x B d y b' A' c' x' B' d' y', e = .returned (.tuple #[.agg #[.bool b, .slice A x.length c, .slice B y.length d], .agg #[.bool b', .slice A' x'.length c', .slice B' y'.length d'], .int .i64 e0]) ∧ Hid (b = decide (p.num < 0)) ∧ Hid (x = limbs p.num.natAbs) ∧ Hid (y = limbs p.den) ∧ Hid (b' = decide (q.num < 0)) ∧ Hid (x' = limbs q.num.natAbs) ∧ Hid (y' = limbs q.den) ∧ RN w' A c x ∧ RN w' B d y ∧ RN w' A' c' x' ∧ RN w' B' d' y' ∧ Below w.heap.size w w'

set_option maxHeartbeats 6400000 in
theorem moments_ok (w : World) (FA : Option Addr) (fc : Nat) (f : List Int) (hf : Rk w .i64 FA fc f) :
    Calls Tryz.prog 21 #[.slice FA f.length fc] w (RetMV (momM f) (momV f) (validE f) w) := by
  have HR := Lib.hid hf
  have hcl := hf.1
  have hcm := hf.2.1
  clear hf
  go_enter Tryz.func21, Tryz.ntmps21
  obtain ⟨E, hE⟩ : ∃ E, validE f = E := ⟨_, rfl⟩
  have HE := Lib.hid hE
  obtain ⟨mq, hmq⟩ : ∃ mq, momM f = mq := ⟨_, rfl⟩
  obtain ⟨vq, hvq⟩ : ∃ vq, momV f = vq := ⟨_, rfl⟩
  have HMQ := Lib.hid hmq
  have HVQ := Lib.hid hvq
  rw [hE, hmq, hvq]
  clear hE hmq hvq
  go_upto_region 1 with fail
  obtain ⟨W, hW⟩ : ∃ W, W = ((w.alloc (.cells #[.bool false, .slice none 0 0, .slice none 0 0] 28)).alloc (.cells #[.bool false, .slice none 0 0, .slice none 0 0] 28)) := ⟨_, rfl⟩
  rw [← hW]
  have H_W : Mo w W [(w.heap.size, 28, #[.bool false, .slice none 0 0, .slice none 0 0]), (w.heap.size + 1, 28, #[.bool false, .slice none 0 0, .slice none 0 0])] [] := by
    rw [hW]
    have h := (((Mo.start w).alloc (t := 28) (cs := #[.bool false, .slice none 0 0, .slice none 0 0]) (nd_rat _ _ _ _ _ _ _)).alloc (t := 28) (cs := #[.bool false, .slice none 0 0, .slice none 0 0]) (nd_rat _ _ _ _ _ _ _))
    simp only [size_alloc, List.nil_append, List.cons_append] at h
    exact h
  clear hW
  obtain ⟨gW1, hgW1⟩ : ∃ g, w.heap.size + 1 = g := ⟨_, rfl⟩
  rw [hgW1] at H_W ⊢
  clear hgW1
  have neW01 : w.heap.size ≠ gW1 := H_W.apart 0 1 _ _ _ _ _ _ rfl rfl (by decide)
  have neW10 : gW1 ≠ w.heap.size := H_W.apart 1 0 _ _ _ _ _ _ rfl rfl (by decide)
  have H_W := Lib.hid H_W
  go_wp2_with fail
  refine (evalid_ok W FA fc f (HR.out.below H_W.out.below)).mono ?_
  rintro e_ W ⟨rfl, rfl⟩
  rw [HE.out]
  by_cases h0 : E = 0
  rotate_left
  · have e1 : (E == 0) = false := beq_eq_false_iff_ne.2 h0
    have e2 : (E != 0) = true := by simpa using h0
    obtain rfl : mq = 0 := by rw [← HMQ.out]; unfold momM; rw [HE.out, if_neg h0]
    obtain rfl : vq = 0 := by rw [← HVQ.out]; unfold momV; rw [HE.out, if_neg h0]
    clear h0
    go_wp2_with fail
    refine (ewhole_ok W 0 (by omega) (by omega)).mono ?_
    rintro e_ w1 ⟨b1, A1, c1, x1, B1, d1, y1, rfl, HQa1, HQb1, HQc1, hx1, hy1, hB⟩
    have H_w1 := Lib.hid (Mo.num (Mo.num (Mo.call H_W.out hB) hx1) hy1)
    clear hB hx1 hy1
    go_wp2_with fail
    refine (ewhole_ok w1 0 (by omega) (by omega)).mono ?_
    rintro e_ w2 ⟨b2, A2, c2, x2, B2, d2, y2, rfl, HQa2, HQb2, HQc2, hx2, hy2, hB⟩
    have H_w2 := Lib.hid (Mo.num (Mo.num (Mo.call H_w1.out hB) hx2) hy2)
    have k0w2c0 := ((H_w2.out.var 0 rfl)).cell 0 rfl
    have k0w2c1 := ((H_w2.out.var 0 rfl)).cell 1 rfl
    have k0w2c2 := ((H_w2.out.var 0 rfl)).cell 2 rfl
    have k0w2f0 := ((H_w2.out.var 0 rfl)).thaw 0
    have k0w2f1 := ((H_w2.out.var 0 rfl)).thaw 1
    have k0w2f2 := ((H_w2.out.var 0 rfl)).thaw 2
    have k1w2c0 := ((H_w2.out.var 1 rfl)).cell 0 rfl
    have k1w2c1 := ((H_w2.out.var 1 rfl)).cell 1 rfl
    have k1w2c2 := ((H_w2.out.var 1 rfl)).cell 2 rfl
    have k1w2f0 := ((H_w2.out.var 1 rfl)).thaw 0
    have k1w2f1 := ((H_w2.out.var 1 rfl)).thaw 1
    have k1w2f2 := ((H_w2.out.var 1 rfl)).thaw 2
    clear hB hx2 hy2
    have new201 : w.heap.size ≠ gW1 := H_w2.out.apart 0 1 _ _ _ _ _ _ rfl rfl (by decide)
    have new210 : gW1 ≠ w.heap.size := H_w2.out.apart 1 0 _ _ _ _ _ _ rfl rfl (by decide)
    go_wp2_with fail
    have hr0 := (H_w2.out).set 0 (j := 0) (v := .bool b1) (cs' := #[.bool b1, .slice none 0 0, .slice none 0 0]) rfl rfl (nd_rat _ _ _ _ _ _ _)
    have hr1 := (hr0).set 0 (j := 1) (v := .slice A1 x1.length c1) (cs' := #[.bool b1, .slice A1 x1.length c1, .slice none 0 0]) rfl rfl (nd_rat _ _ _ _ _ _ _)
    have hr2 := (hr1).set 0 (j := 2) (v := .slice B1 y1.length d1) (cs' := #[.bool b1, .slice A1 x1.length c1, .slice B1 y1.length d1]) rfl rfl (nd_rat _ _ _ _ _ _ _)
    have hr3 := (hr2).set 1 (j := 0) (v := .bool b2) (cs' := #[.bool b2, .slice none 0 0, .slice none 0 0]) rfl rfl (nd_rat _ _ _ _ _ _ _)
    have hr4 := (hr3).set 1 (j := 1) (v := .slice A2 x2.length c2) (cs' := #[.bool b2, .slice A2 x2.length c2, .slice none 0 0]) rfl rfl (nd_rat _ _ _ _ _ _ _)
    have hr5 := (hr4).set 1 (j := 2) (v := .slice B2 y2.length d2) (cs' := #[.bool b2, .slice A2 x2.length c2, .slice B2 y2.length d2]) rfl rfl (nd_rat _ _ _ _ _ _ _)
    have vv0 : Vr ((((((w2.setCell ⟨w.heap.size, 0, none⟩ (.bool b1)).setCell ⟨w.heap.size, 1, none⟩ (.slice A1 x1.length c1)).setCell ⟨w.heap.size, 2, none⟩ (.slice B1 y1.length d1)).setCell ⟨gW1, 0, none⟩ (.bool b2)).setCell ⟨gW1, 1, none⟩ (.slice A2 x2.length c2)).setCell ⟨gW1, 2, none⟩ (.slice B2 y2.length d2)) w.heap.size 28 #[.bool b1, .slice A1 x1.length c1, .slice B1 y1.length d1] := hr5.var 0 rfl
    have vv1 : Vr ((((((w2.setCell ⟨w.heap.size, 0, none⟩ (.bool b1)).setCell ⟨w.heap.size, 1, none⟩ (.slice A1 x1.length c1)).setCell ⟨w.heap.size, 2, none⟩ (.slice B1 y1.length d1)).setCell ⟨gW1, 0, none⟩ (.bool b2)).setCell ⟨gW1, 1, none⟩ (.slice A2 x2.length c2)).setCell ⟨gW1, 2, none⟩ (.slice B2 y2.length d2)) gW1 28 #[.bool b2, .slice A2 x2.length c2, .slice B2 y2.length d2] := hr5.var 1 rfl
    refine bodyPost_ret (v := .tuple #[.agg #[.bool b1, .slice A1 x1.length c1, .slice B1 y1.length d1], .agg #[.bool b2, .slice A2 x2.length c2, .slice B2 y2.length d2], .int .i64 E]) (by simp [results, Tryz.results21, go_sem, vv0.cell 0 rfl, vv0.cell 1 rfl, vv0.cell 2 rfl, vv1.cell 0 rfl, vv1.cell 1 rfl, vv1.cell 2 rfl]) rfl ?_
    exact ⟨b1, A1, c1, x1, B1, d1, y1, b2, A2, c2, x2, B2, d2, y2, rfl, HQa1, HQb1, HQc1, HQa2, HQb2, HQc2, hr5.rn 0 rfl, hr5.rn 1 rfl, hr5.rn 2 rfl, hr5.rn 3 rfl, hr5.below⟩
  subst h0
  obtain ⟨hl61, hfq, hTp⟩ := valid_parts HE.out
  have HFQ := Lib.hid hfq
  have hTb := tot_bound hfq f.length (Nat.le_refl _)
  have hsb := sm_bound hfq hl61 f.length (Nat.le_refl _)
  obtain ⟨T, hT⟩ : ∃ T, tot f f.length = T := ⟨_, rfl⟩
  obtain ⟨S1, hS1⟩ : ∃ S1, sm f f.length = S1 := ⟨_, rfl⟩
  obtain ⟨S2, hS2⟩ : ∃ S2, sq f f.length = S2 := ⟨_, rfl⟩
  rw [hT] at hTp hTb
  rw [hS1, hS2] at hsb
  have HM1 : Hid (mkRat S1 T.toNat = mq) := by show _ = _; rw [← HMQ.out]; unfold momM meanQ; rw [if_pos HE.out, hS1, hT]
  have HV1 : Hid (mkRat S2 T.toNat - mq * mq = vq) := by show _ = _; rw [← HVQ.out, ← HM1.out]; unfold momV varQ meanQ; rw [if_pos HE.out, hS1, hS2, hT]
  have HT := Lib.hid hT
  have HS1 := Lib.hid hS1
  have HS2 := Lib.hid hS2
  clear hfq hT hS1 hS2
  go_wp2_with fail
  go_loopw [6, 7, 8, 9, 20] (fun sv qv kv nv iv wr => ∃ (k : Nat), iv = .int .i64 (k : Int) ∧ k ≤ f.length ∧ sv = .int .i64 (sm f k) ∧ qv = .int .i64 (sq f k) ∧ wr = W) (fun _ _ _ _ iv _ => f.length - (intOf iv).toNat)
  case atStart => exact ⟨0, rfl, Nat.zero_le _, rfl, rfl, rfl⟩
  case round =>
    obtain ⟨k, rfl, hk, rfl, rfl, rfl⟩ := hrel
    by_cases hlt : k < f.length
    · have d1 : decide ((k : Int) < (f.length : Int)) = true := decide_eq_true (by omega)
      obtain ⟨ad, rfl, hcf⟩ := HR.out.2.2 k hlt
      have hc := cell_belowE H_W.out.below hcf
      obtain ⟨n, hn⟩ : ∃ n, dg f k = n := ⟨_, rfl⟩
      have hnb := HFQ.out k hlt
      have hkb := sm_bound HFQ.out hl61 k (by omega)
      rw [hn] at hc hnb
      have HN := Lib.hid hn
      have hmm := mul_le60 (k := k) (by omega) hnb.1 hnb.2
      obtain ⟨sk, hsk⟩ : ∃ sk, sm f k = sk := ⟨_, rfl⟩
      obtain ⟨qk, hqk⟩ : ∃ qk, sq f k = qk := ⟨_, rfl⟩
      have HSK := Lib.hid hsk
      have HQK := Lib.hid hqk
      rw [hsk, hqk] at hkb
      rw [hsk, hqk]
      have e1 : IntKind.i64.wrap ((k : Int) * n) = (k : Int) * n := IntWalk.i64_in _ (by omega)
      have e2 : IntKind.i64.wrap (sk + (k : Int) * n) = sk + (k : Int) * n := IntWalk.i64_in _ (by omega)
      have e3 : IntKind.i64.wrap ((k : Int) * (k : Int)) = (k : Int) * (k : Int) := IntWalk.i64_in _ (by omega)
      have e4 : IntKind.i64.wrap ((k : Int) * (k : Int) * n) = (k : Int) * (k : Int) * n := IntWalk.i64_in _ (by omega)
      have e5 : IntKind.i64.wrap (qk + (k : Int) * (k : Int) * n) = qk + (k : Int) * (k : Int) * n := IntWalk.i64_in _ (by omega)
      clear hn hcf hsk hqk
      go_wp2_with fail
      go_roundw
      case rel => exact ⟨k + 1, by go_num, hlt, by rw [sm_succ, HSK.out, HN.out] <;> first | rfl | simp [e1, e2], by rw [sq_succ, HQK.out, HN.out] <;> first | rfl | simp [e3, e4, e5], by first | rfl | trivial⟩
      case measure => simp [intOf]; omega
    · have d1 : decide ((k : Int) < (f.length : Int)) = false := decide_eq_false (by omega)
      have d2_ : decide (k < f.length) = false := decide_eq_false hlt
      have hkl : k = f.length := by omega
      rw [hkl, HS1.out, HS2.out]
      clear hlt hk
      subst hkl
      go_wp2_with fail
      refine (tot_callN _ FA fc f.length f rfl (HR.out.below H_W.out.below) hl61 HFQ.out HT.out).mono ?_
      rintro e_ w1 ⟨rfl, hB⟩
      have H_w1 := Lib.hid (Mo.call H_W.out hB)
      clear hB
      go_wp2_with fail
      refine (fraction_ok w1 S1 T (by omega) (by omega) (by omega) (by omega)).mono ?_
      rw [HM1.out]
      rintro e_ w2 ⟨b1, A1, c1, x1, B1, d1, y1, rfl, HQa1, HQb1, HQc1, hx1, hy1, hB⟩
      have H_w2 := Lib.hid (Mo.num (Mo.num (Mo.call H_w1.out hB) hx1) hy1)
      clear hB hx1 hy1
      have HSM : Hid (sz mq 2) := by show sz _ _; rw [← HM1.out]; exact sz_mk (by omega) (by omega) (by omega)
      have HVM : Hid (qv b1 x1 y1 = mq) := qv_nf HQa1.out HQb1.out HQc1.out
      have HL1 : Hid (x1.length ≤ 2 ∧ y1.length ≤ 2) := szl HQb1.out HQc1.out (HSM.out)
      go_upto_region 12 with fail
      obtain ⟨T2, hT2⟩ : ∃ T2, T2 = w2.alloc (.cells #[.bool b1, .slice A1 x1.length c1, .slice B1 y1.length d1] 28) := ⟨_, rfl⟩
      rw [← hT2]
      have H_T2 : Hid (Mo w T2 _ _) := Lib.hid (by rw [hT2]; exact H_w2.out.alloc (t := 28) (cs := #[.bool b1, .slice A1 x1.length c1, .slice B1 y1.length d1]) (nd_rat _ _ _ _ _ _ _))
      clear hT2
      have k2T2c0 := ((H_T2.out.var 2 rfl)).cell 0 rfl
      have k2T2c1 := ((H_T2.out.var 2 rfl)).cell 1 rfl
      have k2T2c2 := ((H_T2.out.var 2 rfl)).cell 2 rfl
      have neT201 : w.heap.size ≠ gW1 := H_T2.out.apart 0 1 _ _ _ _ _ _ rfl rfl (by decide)
      have neT202 : w.heap.size ≠ w2.heap.size := H_T2.out.apart 0 2 _ _ _ _ _ _ rfl rfl (by decide)
      have neT210 : gW1 ≠ w.heap.size := H_T2.out.apart 1 0 _ _ _ _ _ _ rfl rfl (by decide)
      have neT212 : gW1 ≠ w2.heap.size := H_T2.out.apart 1 2 _ _ _ _ _ _ rfl rfl (by decide)
      have neT220 : w2.heap.size ≠ w.heap.size := H_T2.out.apart 2 0 _ _ _ _ _ _ rfl rfl (by decide)
      have neT221 : w2.heap.size ≠ gW1 := H_T2.out.apart 2 1 _ _ _ _ _ _ rfl rfl (by decide)
      have H_T2d := Lib.hid H_T2.out.drew
      first
      | go_region_held3 (fun w' => w'.cell? ⟨w2.heap.size, 0, none⟩ = some (.bool b1) ∧ w'.cell? ⟨w2.heap.size, 1, none⟩ = some (.slice A1 x1.length c1) ∧ w'.cell? ⟨w2.heap.size, 2, none⟩ = some (.slice B1 y1.length d1)) (go_keep)
         (first
          | (go_at_call 33
             refine (tot_callN _ FA fc f.length f rfl (by first | exact HR.out.below (H_T2d.out).below) hl61 HFQ.out HT.out).mono ?_
             rintro e_ u1 ⟨rfl, hB⟩
             have H_u1 := Lib.hid (Mo.call H_T2d.out hB)
             have k2u1c0 := ((H_u1.out.var 2 rfl)).cell 0 rfl
             have k2u1c1 := ((H_u1.out.var 2 rfl)).cell 1 rfl
             have k2u1c2 := ((H_u1.out.var 2 rfl)).cell 2 rfl
             clear hB)
          | (go_at_call 25
             refine (fraction_ok _ S2 T (by omega) (by omega) (by omega) (by omega)).mono ?_
             rintro e_ u2 ⟨b3, A3, c3, x3, B3, d3, y3, rfl, HQa3, HQb3, HQc3, hx3, hy3, hB⟩
             have H_u2 := Lib.hid (Mo.num (Mo.num (Mo.call H_u1.out hB) hx3) hy3)
             have k2u2c0 := ((H_u2.out.var 2 rfl)).cell 0 rfl
             have k2u2c1 := ((H_u2.out.var 2 rfl)).cell 1 rfl
             have k2u2c2 := ((H_u2.out.var 2 rfl)).cell 2 rfl
             have HV3 : Hid (qv b3 x3 y3 = mkRat S2 T.toNat) := qv_nf HQa3.out HQb3.out HQc3.out
             have HL3 : Hid (x3.length ≤ 2 ∧ y3.length ≤ 2) := szl HQb3.out HQc3.out (sz_mk (by omega) (by omega) (by omega))
             clear hB hx3 hy3)
          | (go_at_call 30
             refine (qmulF_ok _ b1 b1 A1 B1 A1 B1 c1 d1 c1 d1 x1 y1 x1 y1 (H_u2.out.rn 0 rfl) (H_u2.out.rn 1 rfl) (H_u2.out.rn 0 rfl) (H_u2.out.rn 1 rfl) (by have := HL1.out; omega) (by have := HL1.out; omega)).mono ?_
             rintro e_ u3 ⟨b4, A4, c4, x4, B4, d4, y4, rfl, HQa4, HQb4, HQc4, hx4, hy4, hB⟩
             have H_u3 := Lib.hid (Mo.num (Mo.num (Mo.call H_u2.out hB) hx4) hy4)
             have k2u3c0 := ((H_u3.out.var 2 rfl)).cell 0 rfl
             have k2u3c1 := ((H_u3.out.var 2 rfl)).cell 1 rfl
             have k2u3c2 := ((H_u3.out.var 2 rfl)).cell 2 rfl
             rw [HVM.out] at HQa4 HQb4 HQc4
             have HV4 : Hid (qv b4 x4 y4 = mq * mq) := qv_nf HQa4.out HQb4.out HQc4.out
             have HL4 : Hid (x4.length ≤ 4 ∧ y4.length ≤ 4) := szl HQb4.out HQc4.out (sz_mul HSM.out HSM.out)
             clear hB hx4 hy4)
          | (go_at_call 31
             refine (qsubF_ok _ b3 b4 A3 B3 A4 B4 c3 d3 c4 d4 x3 y3 x4 y4 (H_u3.out.rn 2 rfl) (H_u3.out.rn 3 rfl) (H_u3.out.rn 4 rfl) (H_u3.out.rn 5 rfl) (by have := HL3.out; have := HL4.out; omega) (by have := HL3.out; have := HL4.out; omega) (by have := HL3.out; have := HL4.out; omega)).mono ?_
             rintro e_ u4 ⟨b5, A5, c5, x5, B5, d5, y5, rfl, HQa5, HQb5, HQc5, hx5, hy5, hB⟩
             have H_u4 := Lib.hid (Mo.num (Mo.num (Mo.call H_u3.out hB) hx5) hy5)
             have k2u4c0 := ((H_u4.out.var 2 rfl)).cell 0 rfl
             have k2u4c1 := ((H_u4.out.var 2 rfl)).cell 1 rfl
             have k2u4c2 := ((H_u4.out.var 2 rfl)).cell 2 rfl
             have k0u4c0 := ((H_u4.out.var 0 rfl)).cell 0 rfl
             have k0u4c1 := ((H_u4.out.var 0 rfl)).cell 1 rfl
             have k0u4c2 := ((H_u4.out.var 0 rfl)).cell 2 rfl
             have k0u4f0 := ((H_u4.out.var 0 rfl)).thaw 0
             have k0u4f1 := ((H_u4.out.var 0 rfl)).thaw 1
             have k0u4f2 := ((H_u4.out.var 0 rfl)).thaw 2
             have k1u4c0 := ((H_u4.out.var 1 rfl)).cell 0 rfl
             have k1u4c1 := ((H_u4.out.var 1 rfl)).cell 1 rfl
             have k1u4c2 := ((H_u4.out.var 1 rfl)).cell 2 rfl
             have k1u4f0 := ((H_u4.out.var 1 rfl)).thaw 0
             have k1u4f1 := ((H_u4.out.var 1 rfl)).thaw 1
             have k1u4f2 := ((H_u4.out.var 1 rfl)).thaw 2
             rw [HV3.out, HV4.out, HV1.out] at HQa5 HQb5 HQc5
             clear hB hx5 hy5))
      | fail
      go_wp2_with fail
      have hr0 := (H_u4.out).set 0 (j := 0) (v := .bool b1) (cs' := #[.bool b1, .slice none 0 0, .slice none 0 0]) rfl rfl (nd_rat _ _ _ _ _ _ _)
      have hr1 := (hr0).set 0 (j := 1) (v := .slice A1 x1.length c1) (cs' := #[.bool b1, .slice A1 x1.length c1, .slice none 0 0]) rfl rfl (nd_rat _ _ _ _ _ _ _)
      have hr2 := (hr1).set 0 (j := 2) (v := .slice B1 y1.length d1) (cs' := #[.bool b1, .slice A1 x1.length c1, .slice B1 y1.length d1]) rfl rfl (nd_rat _ _ _ _ _ _ _)
      have hr3 := (hr2).set 1 (j := 0) (v := .bool b5) (cs' := #[.bool b5, .slice none 0 0, .slice none 0 0]) rfl rfl (nd_rat _ _ _ _ _ _ _)
      have hr4 := (hr3).set 1 (j := 1) (v := .slice A5 x5.length c5) (cs' := #[.bool b5, .slice A5 x5.length c5, .slice none 0 0]) rfl rfl (nd_rat _ _ _ _ _ _ _)
      have hr5 := (hr4).set 1 (j := 2) (v := .slice B5 y5.length d5) (cs' := #[.bool b5, .slice A5 x5.length c5, .slice B5 y5.length d5]) rfl rfl (nd_rat _ _ _ _ _ _ _)
      have vv0 : Vr ((((((u4.setCell ⟨w.heap.size, 0, none⟩ (.bool b1)).setCell ⟨w.heap.size, 1, none⟩ (.slice A1 x1.length c1)).setCell ⟨w.heap.size, 2, none⟩ (.slice B1 y1.length d1)).setCell ⟨gW1, 0, none⟩ (.bool b5)).setCell ⟨gW1, 1, none⟩ (.slice A5 x5.length c5)).setCell ⟨gW1, 2, none⟩ (.slice B5 y5.length d5)) w.heap.size 28 #[.bool b1, .slice A1 x1.length c1, .slice B1 y1.length d1] := hr5.var 0 rfl
      have vv1 : Vr ((((((u4.setCell ⟨w.heap.size, 0, none⟩ (.bool b1)).setCell ⟨w.heap.size, 1, none⟩ (.slice A1 x1.length c1)).setCell ⟨w.heap.size, 2, none⟩ (.slice B1 y1.length d1)).setCell ⟨gW1, 0, none⟩ (.bool b5)).setCell ⟨gW1, 1, none⟩ (.slice A5 x5.length c5)).setCell ⟨gW1, 2, none⟩ (.slice B5 y5.length d5)) gW1 28 #[.bool b5, .slice A5 x5.length c5, .slice B5 y5.length d5] := hr5.var 1 rfl
      refine bodyPost_ret (v := .tuple #[.agg #[.bool b1, .slice A1 x1.length c1, .slice B1 y1.length d1], .agg #[.bool b5, .slice A5 x5.length c5, .slice B5 y5.length d5], .int .i64 0]) (by simp [results, Tryz.results21, go_sem, vv0.cell 0 rfl, vv0.cell 1 rfl, vv0.cell 2 rfl, vv1.cell 0 rfl, vv1.cell 1 rfl, vv1.cell 2 rfl]) rfl ?_
      exact ⟨b1, A1, c1, x1, B1, d1, y1, b5, A5, c5, x5, B5, d5, y5, rfl, HQa1, HQb1, HQc1, HQa5, HQb5, HQc5, hr5.rn 0 rfl, hr5.rn 1 rfl, hr5.rn 6 rfl, hr5.rn 7 rfl, hr5.below⟩

end Go.Proofs.YtocpncjmcaecoaaGreat.M
