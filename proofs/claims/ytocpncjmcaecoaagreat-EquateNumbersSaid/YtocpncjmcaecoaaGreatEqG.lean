/- What the law compares: limbs, ratios, lists of ratios. -/
import Derived.Test.YtocpncjmcaecoaaGreatEqE
import Derived.Test.YtocpncjmcaecoaaGreatEqF
namespace Go.Proofs.YtocpncjmcaecoaaGreat.M
set_option maxRecDepth 10000
open Go.RowKit
set_option linter.unusedVariables false
set_option linter.unusedSimpArgs false
theorem eq_dg {xs ys : List Int} (h : xs.length = ys.length) (h2 : ∀ j, j < xs.length → dg xs j = dg ys j) : xs = ys := by
  refine List.ext_getElem? fun j => ?_
  rcases Nat.lt_or_ge j xs.length with hj | hj
  · rw [List.getElem?_eq_getElem hj, List.getElem?_eq_getElem (by omega)]
    have h3 := h2 j hj
    rw [dg_get hj, dg_get (by omega)] at h3
    rw [h3]
  · rw [List.getElem?_eq_none hj, List.getElem?_eq_none (by omega)]

set_option maxHeartbeats 1600000 in
theorem limbsE_ok (w : World) (A B : Option Addr) (c d : Nat) (xs ys : List Int) (hx : RN w A c xs) (hy : RN w B d ys) :
    Calls Tryz.prog 41 #[.slice A xs.length c, .slice B ys.length d] w (fun e w' => e = .returned (.bool (decide (xs = ys))) ∧ Below w.heap.size w w') := by
  have HX := Lib.hid hx
  have HY := Lib.hid hy
  have hxm := Nat.le_trans hx.1.1 hx.1.2.1
  have hym := Nat.le_trans hy.1.1 hy.1.2.1
  clear hx hy
  go_enter Tryz.func41, Tryz.ntmps41
  by_cases hl : xs.length = ys.length
  rotate_left
  · have e1 : ((xs.length : Int) == (ys.length : Int)) = false := beq_eq_false_iff_ne.2 (by omega)
    have e2 : ((xs.length : Int) != (ys.length : Int)) = true := bne_iff_ne.2 (by omega)
    have e3 : (xs.length != ys.length) = true := bne_iff_ne.2 hl
    have e4 : (xs.length == ys.length) = false := beq_eq_false_iff_ne.2 hl
    have HE : Hid (decide (xs = ys) = false) := decide_eq_false (fun h => hl (by rw [h]))
    clear hl
    go_wp2_with fail
    go_ret
    exact ⟨by rw [HE.out]; rfl, Below.refl _ _⟩
  have e1 : ((xs.length : Int) == (ys.length : Int)) = true := beq_iff_eq.2 (by omega)
  have e2 : ((xs.length : Int) != (ys.length : Int)) = false := by rw [hl]; exact bne_self_eq_false _
  have e3 : (xs.length != ys.length) = false := by rw [hl]; exact bne_self_eq_false _
  have e4 : (xs.length == ys.length) = true := beq_iff_eq.2 hl
  have HL := Lib.hid hl
  have hl1 : xs.length ≤ ys.length := by omega
  clear hl
  go_wp2_with fail
  go_loopw [5, 13] (fun kv iv wr => ∃ (k : Nat), iv = .int .i64 (k : Int) ∧ k ≤ xs.length ∧ Hid (∀ j, j < k → dg xs j = dg ys j) ∧ Hid (Below w.heap.size w wr)) (fun _ iv _ => xs.length - (intOf iv).toNat)
  case atStart => exact ⟨0, rfl, Nat.zero_le _, fun j hj => by omega, Below.refl _ _⟩
  case round =>
    clear e1 e2 e3 e4
    obtain ⟨k, rfl, hk, HK, HB⟩ := hrel
    by_cases hlt : k < xs.length
    · have d1 : decide ((k : Int) < (xs.length : Int)) = true := decide_eq_true (by omega)
      have bk1 : (0 : Int) ≤ (k : Int) := by omega
      have bk2 : (k : Int) < (xs.length : Int) := by omega
      have bk3 : (k : Int) < (ys.length : Int) := by omega
      obtain ⟨ad, rfl, hc⟩ := (HX.out.below HB.out).1.2.2 k hlt
      obtain ⟨bd, rfl, hc2⟩ := (HY.out.below HB.out).1.2.2 k (by omega)
      by_cases he : dg xs k = dg ys k
      · have e5 : (dg xs k != dg ys k) = false := by rw [he]; exact bne_self_eq_false _
        have e6 : (dg xs k == dg ys k) = true := beq_iff_eq.2 he
        have HKK : Hid (∀ j, j < k + 1 → dg xs j = dg ys j) := fun j hj => by
          rcases Nat.lt_or_ge j k with h | h
          · exact HK.out j h
          · obtain rfl : j = k := by omega
            exact he
        clear HK he
        go_wp2_with fail
        go_quiet (fail)
        go_wp2_with fail
        go_roundw
        case rel => exact ⟨k + 1, by go_num, hlt, HKK, by first | exact HB | exact Lib.hid HB.out.drew | exact Lib.hid (below_drewN HB.out _)⟩
        case measure => simp [intOf]; omega
      · have e5 : (dg xs k != dg ys k) = true := bne_iff_ne.2 he
        have e6 : (dg xs k == dg ys k) = false := beq_eq_false_iff_ne.2 he
        have HE : Hid (decide (xs = ys) = false) := decide_eq_false (fun h => he (by rw [h]))
        go_wp2_with fail
        go_quiet (fail)
        go_wp2_with fail
        go_ret
        exact ⟨by rw [HE.out]; rfl, by first | exact HB.out | exact HB.out.drew | exact below_drewN HB.out _⟩
    · have d1 : decide ((k : Int) < (xs.length : Int)) = false := decide_eq_false (by omega)
      have d2_ : decide (k < xs.length) = false := decide_eq_false hlt
      have HE : Hid (decide (xs = ys) = true) := decide_eq_true (eq_dg HL.out (fun j hj => HK.out j (by omega)))
      clear hlt HK
      go_wp2_with fail
      go_ret
      exact ⟨by rw [HE.out]; rfl, HB.out⟩
theorem eq3 {p q : Bool} {xs ys us vs : List Int} {a c : Rat} (h1 : p = decide (a.num < 0)) (h2 : xs = limbs a.num.natAbs) (h3 : ys = limbs a.den) (k1 : q = decide (c.num < 0)) (k2 : us = limbs c.num.natAbs) (k3 : vs = limbs c.den) : a = c ↔ (p = q ∧ xs = us ∧ ys = vs) := by
  constructor
  · intro h
    rw [h1, h2, h3, k1, k2, k3, h]
    exact ⟨rfl, rfl, rfl⟩
  · intro ⟨e1, e2, e3⟩
    rw [← qv_nf h1 h2 h3, ← qv_nf k1 k2 k3, e1, e2, e3]

set_option maxHeartbeats 1600000 in
theorem equal_ok (w : World) (p q : Bool) (P P2 Q Q2 : Option Addr) (cp cp2 cq cq2 : Nat) (xs ys us vs : List Int) (hx : RN w P cp xs) (hy : RN w P2 cp2 ys) (hu : RN w Q cq us) (hw : RN w Q2 cq2 vs) (a c : Rat) (h1 : p = decide (a.num < 0)) (h2 : xs = limbs a.num.natAbs) (h3 : ys = limbs a.den) (k1 : q = decide (c.num < 0)) (k2 : us = limbs c.num.natAbs) (k3 : vs = limbs c.den) :
    Calls Tryz.prog 12 #[.agg #[.bool p, .slice P xs.length cp, .slice P2 ys.length cp2], .agg #[.bool q, .slice Q us.length cq, .slice Q2 vs.length cq2]] w (fun e w' => e = .returned (.bool (decide (a = c))) ∧ Below w.heap.size w w') := by
  have HX := Lib.hid hx
  have HY := Lib.hid hy
  have HU := Lib.hid hu
  have HW := Lib.hid hw
  clear hx hy hu hw
  go_enter Tryz.func12, Tryz.ntmps12
  have he3 := eq3 h1 h2 h3 k1 k2 k3
  have HQ := Lib.hid he3
  clear h1 h2 h3 k1 k2 k3 he3
  go_upto_region 1 with fail
  obtain ⟨W, hW⟩ : ∃ W, W = ((w.alloc (.cells #[.bool p, .slice P xs.length cp, .slice P2 ys.length cp2] 28)).alloc (.cells #[.bool q, .slice Q us.length cq, .slice Q2 vs.length cq2] 28)) := ⟨_, rfl⟩
  rw [← hW]
  have H_W : Mo w W [(w.heap.size, 28, #[.bool p, .slice P xs.length cp, .slice P2 ys.length cp2]), (w.heap.size + 1, 28, #[.bool q, .slice Q us.length cq, .slice Q2 vs.length cq2])] [] := by
    rw [hW]
    have h := (((Mo.start w).alloc (t := 28) (cs := #[.bool p, .slice P xs.length cp, .slice P2 ys.length cp2]) (nd_rat _ _ _ _ _ _ _)).alloc (t := 28) (cs := #[.bool q, .slice Q us.length cq, .slice Q2 vs.length cq2]) (nd_rat _ _ _ _ _ _ _))
    simp only [size_alloc, List.nil_append, List.cons_append] at h
    exact h
  clear hW
  obtain ⟨gW1, hgW1⟩ : ∃ g, w.heap.size + 1 = g := ⟨_, rfl⟩
  rw [hgW1] at H_W ⊢
  clear hgW1
  have neW01 : w.heap.size ≠ gW1 := H_W.apart 0 1 _ _ _ _ _ _ rfl rfl (by decide)
  have neW10 : gW1 ≠ w.heap.size := H_W.apart 1 0 _ _ _ _ _ _ rfl rfl (by decide)
  have H_W := Lib.hid H_W
  have k0Wc0 := ((H_W.out.var 0 rfl)).cell 0 rfl
  have k0Wc1 := ((H_W.out.var 0 rfl)).cell 1 rfl
  have k0Wc2 := ((H_W.out.var 0 rfl)).cell 2 rfl
  have k1Wc0 := ((H_W.out.var 1 rfl)).cell 0 rfl
  have k1Wc1 := ((H_W.out.var 1 rfl)).cell 1 rfl
  have k1Wc2 := ((H_W.out.var 1 rfl)).cell 2 rfl
  by_cases e : p = q
  rotate_left
  · have e1 : (p == q) = false := beq_eq_false_iff_ne.2 e
    have HE : Hid (decide (a = c) = false) := decide_eq_false (fun h => e (HQ.out.1 h).1)
    clear e
    go_wp2_with fail
    go_ret
    exact ⟨by rw [HE.out]; rfl, H_W.out.below⟩
  subst e
  have e1 : (p == p) = true := beq_self_eq_true p
  go_wp2_with fail
  refine (limbsE_ok W P Q cp cq xs us (HX.out.below H_W.out.below) (HU.out.below H_W.out.below)).mono ?_
  rintro e_ w1 ⟨rfl, hB⟩
  have H_w1 := Lib.hid (Mo.call H_W.out hB)
  have k0w1c0 := ((H_w1.out.var 0 rfl)).cell 0 rfl
  have k0w1c1 := ((H_w1.out.var 0 rfl)).cell 1 rfl
  have k0w1c2 := ((H_w1.out.var 0 rfl)).cell 2 rfl
  have k1w1c0 := ((H_w1.out.var 1 rfl)).cell 0 rfl
  have k1w1c1 := ((H_w1.out.var 1 rfl)).cell 1 rfl
  have k1w1c2 := ((H_w1.out.var 1 rfl)).cell 2 rfl
  clear hB
  by_cases e2 : xs = us
  rotate_left
  · have e3 : decide (xs = us) = false := decide_eq_false e2
    have HE : Hid (decide (a = c) = false) := decide_eq_false (fun h => e2 (HQ.out.1 h).2.1)
    rw [e3]
    clear e2 e3
    go_wp2_with fail
    go_ret
    exact ⟨by rw [HE.out]; rfl, H_w1.out.below⟩
  have e3 : decide (xs = us) = true := decide_eq_true e2
  rw [e3]
  have HE2 := Lib.hid e2
  clear e2 e3
  go_wp2_with fail
  refine (limbsE_ok w1 P2 Q2 cp2 cq2 ys vs (HY.out.below H_w1.out.below) (HW.out.below H_w1.out.below)).mono ?_
  rintro e_ w2 ⟨rfl, hB⟩
  have H_w2 := Lib.hid (Mo.call H_w1.out hB)
  clear hB
  have HE : Hid (decide (a = c) = decide (ys = vs)) := decide_eq_decide.2 ⟨fun h => by first | exact (HQ.out.1 h).2.2 | exact (HQ.out.1 h).2, fun h => HQ.out.2 (by first | exact ⟨rfl, HE2.out, h⟩ | exact ⟨trivial, HE2.out, h⟩ | exact ⟨HE2.out, h⟩)⟩
  obtain ⟨z, hz⟩ : ∃ z, decide (ys = vs) = z := ⟨_, rfl⟩
  rw [hz] at HE ⊢
  clear hz
  go_wp2_with fail
  go_ret
  exact ⟨by rw [HE.out]; rfl, H_w2.out.below⟩
/-- The ratios of a list are these fractions. -/
def nfL (rs : List Rt) (ps : List Rat) : Prop := rs.length = ps.length ∧ ∀ (j : Nat) (r : Rt), rs[j]? = some r → ∃ p, ps[j]? = some p ∧ nfR r p

set_option maxHeartbeats 1600000 in
theorem equals_ok (w : World) (S S2 : Option Addr) (cS cS2 : Nat) (rs ss : List Rt) (hrs : Rs w S cS rs) (hss : Rs w S2 cS2 ss) (ps qs : List Rat) (hp : nfL rs ps) (hq : nfL ss qs) :
    Calls Tryz.prog 18 #[.slice S rs.length cS, .slice S2 ss.length cS2] w (fun e w' => e = .returned (.bool (decide (ps = qs))) ∧ Below w.heap.size w w') := by
  have HRS := Lib.hid hrs
  have HSS := Lib.hid hss
  have HP := Lib.hid hp
  have HQ := Lib.hid hq
  have hrm := Nat.le_trans hrs.1 hrs.2.1
  have hsm := Nat.le_trans hss.1 hss.2.1
  clear hrs hss hp hq
  go_enter Tryz.func18, Tryz.ntmps18
  by_cases hl : rs.length = ss.length
  rotate_left
  · have e1 : ((rs.length : Int) == (ss.length : Int)) = false := beq_eq_false_iff_ne.2 (by omega)
    have e2 : ((rs.length : Int) != (ss.length : Int)) = true := bne_iff_ne.2 (by omega)
    have e3 : (rs.length != ss.length) = true := bne_iff_ne.2 hl
    have e4 : (rs.length == ss.length) = false := beq_eq_false_iff_ne.2 hl
    have HE : Hid (decide (ps = qs) = false) := decide_eq_false (fun h => hl (by rw [HP.out.1, HQ.out.1, h]))
    clear hl
    go_wp2_with fail
    go_ret
    exact ⟨by rw [HE.out]; rfl, Below.refl _ _⟩
  have e1 : ((rs.length : Int) == (ss.length : Int)) = true := beq_iff_eq.2 (by omega)
  have e2 : ((rs.length : Int) != (ss.length : Int)) = false := by rw [hl]; exact bne_self_eq_false _
  have e3 : (rs.length != ss.length) = false := by rw [hl]; exact bne_self_eq_false _
  have e4 : (rs.length == ss.length) = true := beq_iff_eq.2 hl
  have HL := Lib.hid hl
  have hl1 : rs.length ≤ ss.length := by omega
  clear hl
  go_wp2_with fail
  go_loopw [5, 13] (fun kv iv wr => ∃ (k : Nat), iv = .int .i64 (k : Int) ∧ k ≤ rs.length ∧ Hid (∀ j, j < k → ps[j]? = qs[j]?) ∧ Hid (Below w.heap.size w wr)) (fun _ iv _ => rs.length - (intOf iv).toNat)
  case atStart => exact ⟨0, rfl, Nat.zero_le _, fun j hj => by omega, Below.refl _ _⟩
  case round =>
    clear e1 e2 e3 e4
    obtain ⟨k, rfl, hk, HK, HB⟩ := hrel
    by_cases hlt : k < rs.length
    · have d1 : decide ((k : Int) < (rs.length : Int)) = true := decide_eq_true (by omega)
      have bk1 : (0 : Int) ≤ (k : Int) := by omega
      have bk2 : (k : Int) < (rs.length : Int) := by omega
      have bk3 : (k : Int) < (ss.length : Int) := by omega
      obtain ⟨ad, b, A, c2, xs, B, d, ys, rfl, hr, h0, h1, h2, h3, h4⟩ := (HRS.out.below HB.out).at hlt
      obtain ⟨bd, b_, A_, c2_, xs_, B_, d_, ys_, rfl, hr_, h0_, h1_, h2_, h3_, h4_⟩ := (HSS.out.below HB.out).at (show k < ss.length by omega)
      obtain ⟨pk, hp1, hp2⟩ := HP.out.2 k _ hr
      obtain ⟨qk, hq1, hq2⟩ := HQ.out.2 k _ hr_
      have H3 := Lib.hid h3
      have H4 := Lib.hid h4
      have H3_ := Lib.hid h3_
      have H4_ := Lib.hid h4_
      have HNP := Lib.hid hp2
      have HNQ := Lib.hid hq2
      have HP1 := Lib.hid hp1
      have HQ1 := Lib.hid hq1
      obtain ⟨z, hz⟩ : ∃ z, decide (pk = qk) = z := ⟨_, rfl⟩
      have HZ := Lib.hid hz
      clear hr h3 h4 hr_ h3_ h4_ hp1 hp2 hq1 hq2 hz
      go_wp2_with fail
      first
      | go_region_held3 (fun w' => w'.cell? (ad.add (k * 3)) = some (.bool b) ∧ w'.cell? ⟨(ad.add (k * 3)).block, (ad.add (k * 3)).off + 1, none⟩ = some (.slice A xs.length c2) ∧ w'.cell? ⟨(ad.add (k * 3)).block, (ad.add (k * 3)).off + 2, none⟩ = some (.slice B ys.length d) ∧ w'.cell? (bd.add (k * 3)) = some (.bool b_) ∧ w'.cell? ⟨(bd.add (k * 3)).block, (bd.add (k * 3)).off + 1, none⟩ = some (.slice A_ xs_.length c2_) ∧ w'.cell? ⟨(bd.add (k * 3)).block, (bd.add (k * 3)).off + 2, none⟩ = some (.slice B_ ys_.length d_)) (go_keep)
         (first
          | (go_at_call 12
             refine (equal_ok _ b b_ A B A_ B_ c2 d c2_ d_ xs ys xs_ ys_ (H3.out.below (Below.refl _ _).drew) (H4.out.below (Below.refl _ _).drew) (H3_.out.below (Below.refl _ _).drew) (H4_.out.below (Below.refl _ _).drew) pk qk HNP.out.1 HNP.out.2.1 HNP.out.2.2 HNQ.out.1 HNQ.out.2.1 HNQ.out.2.2).mono ?_
             rw [HZ.out]
             rintro e_ v1 ⟨rfl, hB⟩
             have HB1 := Lib.hid (below_seq HB.out (below_seq (Below.refl _ _).drew hB))
             have zh0 := cell_belowE (below_seq (Below.refl _ _).drew hB) h0
             have zh1 := cell_belowE (below_seq (Below.refl _ _).drew hB) h1
             have zh2 := cell_belowE (below_seq (Below.refl _ _).drew hB) h2
             have zh0_ := cell_belowE (below_seq (Below.refl _ _).drew hB) h0_
             have zh1_ := cell_belowE (below_seq (Below.refl _ _).drew hB) h1_
             have zh2_ := cell_belowE (below_seq (Below.refl _ _).drew hB) h2_
             clear hB))
      | fail
      cases z
      · have HE : Hid (decide (ps = qs) = false) := decide_eq_false (fun h => by
          have h1 := of_decide_eq_false HZ.out
          have h2 := HP1.out
          rw [h, HQ1.out] at h2
          injection h2 with h2
          exact h1 h2.symm)
        go_wp2_with fail
        go_ret
        exact ⟨by rw [HE.out]; rfl, HB1.out⟩
      · have HKK : Hid (∀ j, j < k + 1 → ps[j]? = qs[j]?) := fun j hj => by
          rcases Nat.lt_or_ge j k with h | h
          · exact HK.out j h
          · obtain rfl : j = k := by omega
            rw [HP1.out, HQ1.out, of_decide_eq_true HZ.out]
        clear HK
        go_wp2_with fail
        go_roundw
        case rel => exact ⟨k + 1, by go_num, hlt, HKK, HB1⟩
        case measure => simp [intOf]; omega
    · have d1 : decide ((k : Int) < (rs.length : Int)) = false := decide_eq_false (by omega)
      have d2_ : decide (k < rs.length) = false := decide_eq_false hlt
      have HE : Hid (decide (ps = qs) = true) := decide_eq_true (List.ext_getElem? fun j => by
        rcases Nat.lt_or_ge j k with h | h
        · exact HK.out j h
        · rw [List.getElem?_eq_none (by have := HP.out.1; omega), List.getElem?_eq_none (by have := HQ.out.1; have := HL.out; omega)])
      clear hlt HK
      go_wp2_with fail
      go_ret
      exact ⟨by rw [HE.out]; rfl, HB.out⟩

end Go.Proofs.YtocpncjmcaecoaaGreat.M
