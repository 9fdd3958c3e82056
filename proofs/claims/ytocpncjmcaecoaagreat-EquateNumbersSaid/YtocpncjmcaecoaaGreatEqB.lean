/- Percentile ranks by the program. -/
import Derived.Test.YtocpncjmcaecoaaGreatEqP
namespace Go.Proofs.YtocpncjmcaecoaaGreat.M
set_option maxRecDepth 10000
open Go.RowKit
set_option linter.unusedVariables false
set_option linter.unusedSimpArgs false
/-- The percentile rank within a score's interval. -/
def rankM (f : List Int) (y : Rat) : Rat := (((tot f (flr y).toNat : Int) : Rat) + ((dg f (flr y).toNat : Int) : Rat) * (y - ((flr y : Int) : Rat))) / ((tot f f.length : Int) : Rat)
open Classical in
noncomputable def rankQ (f : List Int) (x : Rat) : Rat := if validE f ≠ 0 then 0 else if cmpQ (x + mkRat 1 2) 0 ≤ 0 then 0 else if 0 ≤ cmpQ (x + mkRat 1 2) ((f.length : Int) : Rat) then 1 else rankM f (x + mkRat 1 2)
theorem sz_zero : sz 0 1 := ⟨limbs_len (m := 1) (by decide), limbs_len (m := 1) (by decide)⟩
theorem sz_one : sz 1 1 := ⟨limbs_len (m := 1) (by decide), limbs_len (m := 1) (by decide)⟩
theorem rank_sz {f : List Int} {x : Rat} {n : Nat} (h : sz x n) : sz (rankQ f x) (n + 20) := by
  unfold rankQ
  split
  · exact sz_zero.mono (by omega)
  · rename_i hv
    obtain ⟨h1, h2, h3⟩ := valid_parts (Classical.not_not.1 hv)
    split
    · exact sz_zero.mono (by omega)
    · split
      · exact sz_one.mono (by omega)
      · rename_i h4 h5
        rw [cmpQ_leE] at h4
        rw [cmpQ_geE] at h5
        obtain ⟨k1, k2⟩ := flr_range (n := (f.length : Int)) (q := x + mkRat 1 2) (Rat.not_le.2 (Classical.not_not.1 h4)) (Classical.not_not.1 h5)
        obtain ⟨k, hk⟩ : ∃ k : Nat, flr (x + mkRat 1 2) = (k : Int) := ⟨(flr (x + mkRat 1 2)).toNat, by omega⟩
        unfold rankM
        rw [hk, Int.toNat_natCast]
        have t1 := tot_bound h2 k (by omega)
        have t2 := tot_bound h2 f.length (Nat.le_refl _)
        have t3 := h2 k (by omega)
        exact (sz_div (by rw [Rat.num_intCast]; exact h3) (sz_add (sz_int (by omega)) (sz_mul (sz_int (by omega)) (sz_sub (sz_add h (sz_half (n := 1) (by decide))) (sz_int (by omega))))) (sz_int (by omega))).mono (by omega)
theorem Rk.takeC {w : World} {k : IntKind} {A : Option Addr} {c m : Nat} {xs : List Int} (h : Rk w k A c xs) (hm : m ≤ xs.length) : Rk w k A c (xs.take m) := by
  have h1 := h.take hm
  have hl : (xs.take m).length = m := by rw [List.length_take]; omega
  exact ⟨by have := h.1; omega, h.2.1, h1.2.2⟩
theorem cell_belowE {w w1 : World} {a : Addr} {v : Value} (hb : Below w.heap.size w w1) (h : w.cell? a = some v) : w1.cell? a = some v := (hb.cell (World.block_lt_of_cell? w _ h)).trans h
/-- A total, the list's length told apart. -/
theorem tot_callN (w : World) (A : Option Addr) (c n : Nat) (l : List Int) (hn : l.length = n) (hf : Rk w .i64 A c l) (hl : l.length ≤ 61) (hq : freq l) {s : Int} (hs : tot l l.length = s) :
    Calls Tryz.prog 33 #[.slice A n c] w (fun e w' => e = .returned (.int .i64 s) ∧ Below w.heap.size w w') := by
  subst hn
  refine (total_ok w A c l hf hl hq).mono ?_
  rintro e_ w1 ⟨rfl, rfl⟩
  exact ⟨by rw [hs], Below.refl _ _⟩
theorem tot_call (w : World) (A : Option Addr) (c : Nat) (l : List Int) (hf : Rk w .i64 A c l) (hl : l.length ≤ 61) (hq : freq l) {s : Int} (hs : tot l l.length = s) :
    Calls Tryz.prog 33 #[.slice A l.length c] w (fun e w' => e = .returned (.int .i64 s) ∧ Below w.heap.size w w') := tot_callN w A c l.length l rfl hf hl hq hs

set_option maxHeartbeats 12800000 in
theorem rank_okE (w : World) (FA : Option Addr) (fc : Nat) (f : List Int) (hf : Rk w .i64 FA fc f) (xb : Bool) (XA XD : Option Addr) (xc xe : Nat) (xn xd : List Int) (hxn : RN w XA xc xn) (hxd : RN w XD xe xd) (sxn : xn.length ≤ 35184372088300) (sxd : xd.length ≤ 35184372088300) :
    Calls Tryz.prog 6 #[.slice FA f.length fc, .agg #[.bool xb, .slice XA xn.length xc, .slice XD xd.length xe]] w (RetQE (rankQ f (qv xb xn xd)) (validE f) w) := by
  have HR := Lib.hid hf
  have hcl := hf.1
  have hcm := hf.2.1
  clear hf
  have HXN := Lib.hid hxn
  have HXD := Lib.hid hxd
  clear hxn hxd
  go_enter Tryz.func6, Tryz.ntmps6
  obtain ⟨E, hE⟩ : ∃ E, validE f = E := ⟨_, rfl⟩
  have HE := Lib.hid hE
  obtain ⟨x, hx⟩ : ∃ x, qv xb xn xd = x := ⟨_, rfl⟩
  have HX := Lib.hid hx
  have HSX : Hid (sz x 35184372088301) := by show sz _ _; rw [← hx]; exact sz_cells HXN.out.2 HXD.out.2 (by omega) (by omega)
  rw [hE, hx]
  obtain ⟨y, hy⟩ : ∃ y, x + mkRat 1 2 = y := ⟨_, rfl⟩
  have HY := Lib.hid hy
  have HSY : Hid (sz y 35184372088310) := by show sz _ _; rw [← hy]; exact (sz_add HSX.out (sz_half (n := 1) (by decide))).mono (by omega)
  obtain ⟨R, hRq⟩ : ∃ R, rankQ f x = R := ⟨_, rfl⟩
  have HRQ := Lib.hid hRq
  rw [hRq]
  clear hE hx hy hRq
  go_upto_region 1 with fail
  obtain ⟨W, hW⟩ : ∃ W, W = ((w.alloc (.cells #[.bool xb, .slice XA xn.length xc, .slice XD xd.length xe] 28)).alloc (.cells #[.bool false, .slice none 0 0, .slice none 0 0] 28)) := ⟨_, rfl⟩
  rw [← hW]
  have H_W : Mo w W [(w.heap.size, 28, #[.bool xb, .slice XA xn.length xc, .slice XD xd.length xe]), (w.heap.size + 1, 28, #[.bool false, .slice none 0 0, .slice none 0 0])] [] := by
    rw [hW]
    have h := (((Mo.start w).alloc (t := 28) (cs := #[.bool xb, .slice XA xn.length xc, .slice XD xd.length xe]) (nd_rat _ _ _ _ _ _ _)).alloc (t := 28) (cs := #[.bool false, .slice none 0 0, .slice none 0 0]) (nd_rat _ _ _ _ _ _ _))
    simp only [size_alloc, List.nil_append, List.cons_append] at h
    exact h
  clear hW
  obtain ⟨gW1, hgW1⟩ : ∃ g, w.heap.size + 1 = g := ⟨_, rfl⟩
  rw [hgW1] at H_W ⊢
  clear hgW1
  have neW01 : w.heap.size ≠ gW1 := H_W.apart 0 1 _ _ _ _ _ _ rfl rfl (by decide)
  have neW10 : gW1 ≠ w.heap.size := H_W.apart 1 0 _ _ _ _ _ _ rfl rfl (by decide)
  have H_W := Lib.hid H_W
  have k0Wc0 := ((H_W.out.var 0 rfl)).cell 0 rfl
  have k0Wc1 := ((H_W.out.var 0 rfl)).cell 1 rfl
  have k0Wc2 := ((H_W.out.var 0 rfl)).cell 2 rfl
  go_wp2_with fail
  refine (evalid_ok W FA fc f (HR.out.below H_W.out.below)).mono ?_
  rintro e_ W ⟨rfl, rfl⟩
  rw [HE.out]
  by_cases h0 : E = 0
  rotate_left
  · have e1 : (E == 0) = false := beq_eq_false_iff_ne.2 h0
    have e2 : (E != 0) = true := by simpa using h0
    obtain rfl : R = 0 := by rw [← HRQ.out]; unfold rankQ; rw [if_pos (by rw [HE.out]; exact h0)]
    clear h0
    go_wp2_with fail
    refine (ewhole_ok W 0 (by omega) (by omega)).mono ?_
    rintro e_ w2 ⟨b9, A9, c9, x9, B9, d9, y9, rfl, HQa9, HQb9, HQc9, hx9, hy9, hB⟩
    have H_w2 := Lib.hid (Mo.num (Mo.num (Mo.call H_W.out hB) hx9) hy9)
    have k1w2c0 := ((H_w2.out.var 1 rfl)).cell 0 rfl
    have k1w2c1 := ((H_w2.out.var 1 rfl)).cell 1 rfl
    have k1w2c2 := ((H_w2.out.var 1 rfl)).cell 2 rfl
    have k1w2f0 := ((H_w2.out.var 1 rfl)).thaw 0
    have k1w2f1 := ((H_w2.out.var 1 rfl)).thaw 1
    have k1w2f2 := ((H_w2.out.var 1 rfl)).thaw 2
    clear hB hx9 hy9
    go_wp2_with fail
    have hr0 := (H_w2.out).set 1 (j := 0) (v := .bool b9) (cs' := #[.bool b9, .slice none 0 0, .slice none 0 0]) rfl rfl (nd_rat _ _ _ _ _ _ _)
    have hr1 := (hr0).set 1 (j := 1) (v := .slice A9 x9.length c9) (cs' := #[.bool b9, .slice A9 x9.length c9, .slice none 0 0]) rfl rfl (nd_rat _ _ _ _ _ _ _)
    have hr2 := (hr1).set 1 (j := 2) (v := .slice B9 y9.length d9) (cs' := #[.bool b9, .slice A9 x9.length c9, .slice B9 y9.length d9]) rfl rfl (nd_rat _ _ _ _ _ _ _)
    have v3 : Vr (((w2.setCell ⟨gW1, 0, none⟩ (.bool b9)).setCell ⟨gW1, 1, none⟩ (.slice A9 x9.length c9)).setCell ⟨gW1, 2, none⟩ (.slice B9 y9.length d9)) gW1 28 #[.bool b9, .slice A9 x9.length c9, .slice B9 y9.length d9] := hr2.var 1 rfl
    refine bodyPost_ret (v := .tuple #[.agg #[.bool b9, .slice A9 x9.length c9, .slice B9 y9.length d9], .int .i64 E]) (by simp [results, Tryz.results6, go_sem, v3.cell 0 rfl, v3.cell 1 rfl, v3.cell 2 rfl]) rfl ?_
    exact ⟨b9, A9, c9, x9, B9, d9, y9, rfl, HQa9, HQb9, HQc9, hr2.rn 0 rfl, hr2.rn 1 rfl, hr2.below⟩
  subst h0
  obtain ⟨hl61, hfq, hTp⟩ := valid_parts HE.out
  have HFQ := Lib.hid hfq
  have hTb := tot_bound hfq f.length (Nat.le_refl _)
  obtain ⟨T, hT⟩ : ∃ T, tot f f.length = T := ⟨_, rfl⟩
  rw [hT] at hTp hTb
  have HT := Lib.hid hT
  have hR2 : R = if cmpQ y 0 ≤ 0 then 0 else if 0 ≤ cmpQ y ((f.length : Int) : Rat) then 1 else rankM f y := by rw [← HRQ.out]; unfold rankQ; rw [if_neg (fun h => h HE.out), HY.out]
  have HR2 := Lib.hid hR2
  clear hfq hT hR2 HRQ
  go_upto_region 4 with fail
  go_cut [7] (fun s_ wc => ∃ (g : Nat) (b2 : Bool) (A2 : Option Addr) (c2 : Nat) (x2 : List Int) (B2 : Option Addr) (d2 : Nat) (y2 : List Int), s_ = .pointer (some ⟨g, 0, none⟩) ∧ Hid (b2 = decide ((y).num < 0)) ∧ Hid (x2 = limbs (y).num.natAbs) ∧ Hid (y2 = limbs (y).den) ∧ Hid (Mo w wc [(w.heap.size, 28, #[.bool xb, .slice XA xn.length xc, .slice XD xd.length xe]), (gW1, 28, #[.bool false, .slice none 0 0, .slice none 0 0]), (g, 28, #[.bool b2, .slice A2 x2.length c2, .slice B2 y2.length d2])] [(A2, c2, x2), (B2, d2, y2)]))
  case first =>
    have k0Wc0 := ((H_W.out.var 0 rfl)).cell 0 rfl
    have k0Wc1 := ((H_W.out.var 0 rfl)).cell 1 rfl
    have k0Wc2 := ((H_W.out.var 0 rfl)).cell 2 rfl
    have neW01 : w.heap.size ≠ gW1 := H_W.out.apart 0 1 _ _ _ _ _ _ rfl rfl (by decide)
    have neW10 : gW1 ≠ w.heap.size := H_W.out.apart 1 0 _ _ _ _ _ _ rfl rfl (by decide)
    have H_Wd := Lib.hid H_W.out.drew
    first
    | go_region_held3 (fun w' => w'.cell? ⟨w.heap.size, 0, none⟩ = some (.bool xb) ∧ w'.cell? ⟨w.heap.size, 1, none⟩ = some (.slice XA xn.length xc) ∧ w'.cell? ⟨w.heap.size, 2, none⟩ = some (.slice XD xd.length xe)) (go_keep)
       (first
        | (go_at_call 25
           refine (fraction_ok _ 1 2 (by omega) (by omega) (by omega) (by omega)).mono ?_
           rw [show (2 : Int).toNat = 2 from rfl]
           rintro e_ a1 ⟨b1, A1, c1, x1, B1, d1, y1, rfl, HQa1, HQb1, HQc1, hx1, hy1, hB⟩
           have H_a1 := Lib.hid (Mo.num (Mo.num (Mo.call (by first | exact H_Wd.out | exact ((H_Wd.out).alloc' (W.heap.size) rfl (nd_rat false none none 0 0 0 0))) hB) hx1) hy1)
           have k0a1c0 := ((H_a1.out.var 0 rfl)).cell 0 rfl
           have k0a1c1 := ((H_a1.out.var 0 rfl)).cell 1 rfl
           have k0a1c2 := ((H_a1.out.var 0 rfl)).cell 2 rfl
           have HV1 : Hid (qv b1 x1 y1 = mkRat 1 2) := qv_nf HQa1.out HQb1.out HQc1.out
           have HL1 : Hid (x1.length ≤ 1 ∧ y1.length ≤ 1) := szl HQb1.out HQc1.out (sz_half (n := 1) (by decide))
           try have x0c0a1 := (H_a1.out.var 2 rfl).cell 0 rfl
           try have x0f0a1 := (H_a1.out.var 2 rfl).thaw 0
           try have x0c1a1 := (H_a1.out.var 2 rfl).cell 1 rfl
           try have x0f1a1 := (H_a1.out.var 2 rfl).thaw 1
           try have x0c2a1 := (H_a1.out.var 2 rfl).cell 2 rfl
           try have x0f2a1 := (H_a1.out.var 2 rfl).thaw 2
           try have x0n0a1 := H_a1.out.apart 2 0 _ _ _ _ _ _ rfl rfl (by decide)
           try have x0n1a1 := H_a1.out.apart 2 1 _ _ _ _ _ _ rfl rfl (by decide)
           clear hB hx1 hy1)
        | (go_at_call 24
           refine (qaddF_ok _ xb b1 XA XD A1 B1 xc xe c1 d1 xn xd x1 y1 (by first | exact HXN.out.below (H_a1.out).below | exact HXN.out.below (((H_a1.out).alloc' (a1.heap.size) rfl (nd_rat false none none 0 0 0 0))).below) (by first | exact HXD.out.below (H_a1.out).below | exact HXD.out.below (((H_a1.out).alloc' (a1.heap.size) rfl (nd_rat false none none 0 0 0 0))).below) (by first | exact (H_a1.out).rn 0 rfl | exact (((H_a1.out).alloc' (a1.heap.size) rfl (nd_rat false none none 0 0 0 0))).rn 0 rfl) (by first | exact (H_a1.out).rn 1 rfl | exact (((H_a1.out).alloc' (a1.heap.size) rfl (nd_rat false none none 0 0 0 0))).rn 1 rfl) (by have := HL1.out; omega) (by have := HL1.out; omega) (by have := HL1.out; omega)).mono ?_
           rintro e_ a2 ⟨b2, A2, c2, x2, B2, d2, y2, rfl, HQa2, HQb2, HQc2, hx2, hy2, hB⟩
           have H_a2 := Lib.hid (Mo.num (Mo.num (Mo.call (by first | exact H_a1.out | exact ((H_a1.out).alloc' (a1.heap.size) rfl (nd_rat false none none 0 0 0 0))) hB) hx2) hy2)
           have k0a2c0 := ((H_a2.out.var 0 rfl)).cell 0 rfl
           have k0a2c1 := ((H_a2.out.var 0 rfl)).cell 1 rfl
           have k0a2c2 := ((H_a2.out.var 0 rfl)).cell 2 rfl
           rw [HX.out, HV1.out, HY.out] at HQa2 HQb2 HQc2
           try have x0c0a2 := (H_a2.out.var 2 rfl).cell 0 rfl
           try have x0f0a2 := (H_a2.out.var 2 rfl).thaw 0
           try have x0c1a2 := (H_a2.out.var 2 rfl).cell 1 rfl
           try have x0f1a2 := (H_a2.out.var 2 rfl).thaw 1
           try have x0c2a2 := (H_a2.out.var 2 rfl).cell 2 rfl
           try have x0f2a2 := (H_a2.out.var 2 rfl).thaw 2
           try have x0n0a2 := H_a2.out.apart 2 0 _ _ _ _ _ _ rfl rfl (by decide)
           try have x0n1a2 := H_a2.out.apart 2 1 _ _ _ _ _ _ rfl rfl (by decide)
           try have p0ca2 := ((((H_a2.out).alloc' (t := 28) (cs := #[.bool false, .slice none 0 0, .slice none 0 0]) (a2.heap.size) rfl (nd_rat _ _ _ _ _ _ _))).var 2 rfl).cell 0 rfl
           try have p0fa2 := ((((H_a2.out).alloc' (t := 28) (cs := #[.bool false, .slice none 0 0, .slice none 0 0]) (a2.heap.size) rfl (nd_rat _ _ _ _ _ _ _))).var 2 rfl).thaw 0
           try have p1ca2 := ((((H_a2.out).alloc' (t := 28) (cs := #[.bool false, .slice none 0 0, .slice none 0 0]) (a2.heap.size) rfl (nd_rat _ _ _ _ _ _ _))).var 2 rfl).cell 1 rfl
           try have p1fa2 := ((((H_a2.out).alloc' (t := 28) (cs := #[.bool false, .slice none 0 0, .slice none 0 0]) (a2.heap.size) rfl (nd_rat _ _ _ _ _ _ _))).var 2 rfl).thaw 1
           try have p2ca2 := ((((H_a2.out).alloc' (t := 28) (cs := #[.bool false, .slice none 0 0, .slice none 0 0]) (a2.heap.size) rfl (nd_rat _ _ _ _ _ _ _))).var 2 rfl).cell 2 rfl
           try have p2fa2 := ((((H_a2.out).alloc' (t := 28) (cs := #[.bool false, .slice none 0 0, .slice none 0 0]) (a2.heap.size) rfl (nd_rat _ _ _ _ _ _ _))).var 2 rfl).thaw 2
           try have pn0a2 := (((H_a2.out).alloc' (t := 28) (cs := #[.bool false, .slice none 0 0, .slice none 0 0]) (a2.heap.size) rfl (nd_rat _ _ _ _ _ _ _))).apart 2 0 _ _ _ _ _ _ rfl rfl (by decide)
           try have pn1a2 := (((H_a2.out).alloc' (t := 28) (cs := #[.bool false, .slice none 0 0, .slice none 0 0]) (a2.heap.size) rfl (nd_rat _ _ _ _ _ _ _))).apart 2 1 _ _ _ _ _ _ rfl rfl (by decide)
           clear hB hx2 hy2))
    | fail
    all_goals (go_wp2_with fail; go_meet)
    · exact ⟨_, b2, A2, c2, x2, B2, d2, y2, rfl, HQa2, HQb2, HQc2, (((H_a2.out.sub [2, 3])).alloc' (t := 28) (cs := #[.bool b2, .slice A2 x2.length c2, .slice B2 y2.length d2]) (a2.heap.size) rfl (nd_rat _ _ _ _ _ _ _))⟩
    · exact ⟨_, b2, A2, c2, x2, B2, d2, y2, rfl, HQa2, HQb2, HQc2, (((((((H_a2.out.sub [2, 3])).set 2 (j := 0) (v := .bool b2) (cs' := #[.bool b2, .slice none 0 0, .slice none 0 0]) rfl rfl (nd_rat _ _ _ _ _ _ _))).set 2 (j := 1) (v := .slice A2 x2.length c2) (cs' := #[.bool b2, .slice A2 x2.length c2, .slice none 0 0]) rfl rfl (nd_rat _ _ _ _ _ _ _))).set 2 (j := 2) (v := .slice B2 y2.length d2) (cs' := #[.bool b2, .slice A2 x2.length c2, .slice B2 y2.length d2]) rfl rfl (nd_rat _ _ _ _ _ _ _))⟩
    · exact ⟨_, b2, A2, c2, x2, B2, d2, y2, rfl, HQa2, HQb2, HQc2, (((((((H_a2.out.sub [2, 3])).set 2 (j := 0) (v := .bool b2) (cs' := #[.bool b2, .slice none 0 0, .slice none 0 0]) rfl rfl (nd_rat _ _ _ _ _ _ _))).set 2 (j := 1) (v := .slice A2 x2.length c2) (cs' := #[.bool b2, .slice A2 x2.length c2, .slice none 0 0]) rfl rfl (nd_rat _ _ _ _ _ _ _))).set 2 (j := 2) (v := .slice B2 y2.length d2) (cs' := #[.bool b2, .slice A2 x2.length c2, .slice B2 y2.length d2]) rfl rfl (nd_rat _ _ _ _ _ _ _))⟩
  case rest =>
    obtain ⟨g, b2, A2, c2, x2, B2, d2, y2, rfl, HQa2, HQb2, HQc2, H_wc⟩ := hcut
    obtain ⟨wb, rfl⟩ : ∃ W, W = wc := ⟨_, rfl⟩
    have H_wb := H_wc
    have HV2 : Hid (qv b2 x2 y2 = y) := qv_nf HQa2.out HQb2.out HQc2.out
    have HL2 : Hid (x2.length ≤ 35184372088310 ∧ y2.length ≤ 35184372088310) := szl HQb2.out HQc2.out (HSY.out)
    have k2wbc0 := ((H_wb.out.var 2 rfl)).cell 0 rfl
    have k2wbc1 := ((H_wb.out.var 2 rfl)).cell 1 rfl
    have k2wbc2 := ((H_wb.out.var 2 rfl)).cell 2 rfl
    go_wp2_with fail
    refine (qsign_ok wb b2 A2 B2 c2 d2 x2 y2 (H_wb.out.rn 0 rfl) (H_wb.out.rn 1 rfl) (by have := HL2.out; omega) (by have := HL2.out; omega)).mono ?_
    rw [sign_qv ((H_wb.out.rn 1 rfl)).2, HV2.out]
    rintro e_ w3 ⟨rfl, hB⟩
    have H_w3 := Lib.hid (Mo.call H_wb.out hB)
    clear hB
    obtain ⟨s, hs⟩ : ∃ s, cmpQ y 0 = s := ⟨_, rfl⟩
    have HS := Lib.hid hs
    rw [hs]
    clear hs
    by_cases h1 : s ≤ 0
    · have dd1 : decide (s ≤ 0) = true := decide_eq_true h1
      obtain rfl : R = 0 := by rw [HR2.out, HS.out, if_pos h1]
      clear h1
      go_wp2_with fail
      refine (ewhole_ok w3 0 (by omega) (by omega)).mono ?_
      rintro e_ w4 ⟨b9, A9, c9, x9, B9, d9, y9, rfl, HQa9, HQb9, HQc9, hx9, hy9, hB⟩
      have H_w4 := Lib.hid (Mo.num (Mo.num (Mo.call H_w3.out hB) hx9) hy9)
      have k1w4c0 := ((H_w4.out.var 1 rfl)).cell 0 rfl
      have k1w4c1 := ((H_w4.out.var 1 rfl)).cell 1 rfl
      have k1w4c2 := ((H_w4.out.var 1 rfl)).cell 2 rfl
      have k1w4f0 := ((H_w4.out.var 1 rfl)).thaw 0
      have k1w4f1 := ((H_w4.out.var 1 rfl)).thaw 1
      have k1w4f2 := ((H_w4.out.var 1 rfl)).thaw 2
      clear hB hx9 hy9
      go_wp2_with fail
      have hr0 := (H_w4.out).set 1 (j := 0) (v := .bool b9) (cs' := #[.bool b9, .slice none 0 0, .slice none 0 0]) rfl rfl (nd_rat _ _ _ _ _ _ _)
      have hr1 := (hr0).set 1 (j := 1) (v := .slice A9 x9.length c9) (cs' := #[.bool b9, .slice A9 x9.length c9, .slice none 0 0]) rfl rfl (nd_rat _ _ _ _ _ _ _)
      have hr2 := (hr1).set 1 (j := 2) (v := .slice B9 y9.length d9) (cs' := #[.bool b9, .slice A9 x9.length c9, .slice B9 y9.length d9]) rfl rfl (nd_rat _ _ _ _ _ _ _)
      have v3 : Vr (((w4.setCell ⟨gW1, 0, none⟩ (.bool b9)).setCell ⟨gW1, 1, none⟩ (.slice A9 x9.length c9)).setCell ⟨gW1, 2, none⟩ (.slice B9 y9.length d9)) gW1 28 #[.bool b9, .slice A9 x9.length c9, .slice B9 y9.length d9] := hr2.var 1 rfl
      refine bodyPost_ret (v := .tuple #[.agg #[.bool b9, .slice A9 x9.length c9, .slice B9 y9.length d9], .int .i64 0]) (by simp [results, Tryz.results6, go_sem, v3.cell 0 rfl, v3.cell 1 rfl, v3.cell 2 rfl]) rfl ?_
      exact ⟨b9, A9, c9, x9, B9, d9, y9, rfl, HQa9, HQb9, HQc9, hr2.rn 2 rfl, hr2.rn 3 rfl, hr2.below⟩
    have dd1 : decide (s ≤ 0) = false := decide_eq_false h1
    have HS1 : Hid (0 < cmpQ y 0) := by show _ < _; rw [HS.out]; omega
    have HR3 : Hid (R = if 0 ≤ cmpQ y ((f.length : Int) : Rat) then 1 else rankM f y) := by show _ = _; rw [HR2.out, if_neg (by have := HS1.out; omega)]
    clear h1
    go_upto_region 7 with fail
    have k2w3c0 := ((H_w3.out.var 2 rfl)).cell 0 rfl
    have k2w3c1 := ((H_w3.out.var 2 rfl)).cell 1 rfl
    have k2w3c2 := ((H_w3.out.var 2 rfl)).cell 2 rfl
    have H_w3d := Lib.hid H_w3.out.drew
    first
    | go_region_held3 (fun w' => w'.cell? ⟨g, 0, none⟩ = some (.bool b2) ∧ w'.cell? ⟨g, 1, none⟩ = some (.slice A2 x2.length c2) ∧ w'.cell? ⟨g, 2, none⟩ = some (.slice B2 y2.length d2)) (go_keep)
       (first
        | (go_at_call 23
           refine (ewhole_ok _ (f.length : Int) (by omega) (by omega)).mono ?_
           rintro e_ a3 ⟨b3, A3, c3, x3, B3, d3, y3, rfl, HQa3, HQb3, HQc3, hx3, hy3, hB⟩
           have H_a3 := Lib.hid (Mo.num (Mo.num (Mo.call H_w3d.out hB) hx3) hy3)
           have k2a3c0 := ((H_a3.out.var 2 rfl)).cell 0 rfl
           have k2a3c1 := ((H_a3.out.var 2 rfl)).cell 1 rfl
           have k2a3c2 := ((H_a3.out.var 2 rfl)).cell 2 rfl
           have HV3 : Hid (qv b3 x3 y3 = ((f.length : Int) : Rat)) := qv_nf HQa3.out HQb3.out HQc3.out
           have HL3 : Hid (x3.length ≤ 1 ∧ y3.length ≤ 1) := szl HQb3.out HQc3.out (sz_int (by omega))
           clear hB hx3 hy3)
        | (go_at_call 27
           refine (qcmp_ok a3 b2 b3 A2 B2 A3 B3 c2 d2 c3 d3 x2 y2 x3 y3 (H_a3.out.rn 0 rfl) (H_a3.out.rn 1 rfl) (H_a3.out.rn 2 rfl) (H_a3.out.rn 3 rfl) (by have := HL2.out; omega) (by have := HL2.out; omega) (by have := HL3.out; omega) (by have := HL3.out; omega)).mono ?_
           rw [cmp_qv ((H_a3.out.rn 1 rfl)).2 ((H_a3.out.rn 3 rfl)).2, HV2.out, HV3.out]
           rintro e_ a4 ⟨rfl, hB⟩
           have H_a4 := Lib.hid (Mo.call H_a3.out hB)
           have k2a4c0 := ((H_a4.out.var 2 rfl)).cell 0 rfl
           have k2a4c1 := ((H_a4.out.var 2 rfl)).cell 1 rfl
           have k2a4c2 := ((H_a4.out.var 2 rfl)).cell 2 rfl
           clear hB))
    | fail
    obtain ⟨s2, hs⟩ : ∃ s2, cmpQ y ((f.length : Int) : Rat) = s2 := ⟨_, rfl⟩
    have HS2 := Lib.hid hs
    rw [hs]
    clear hs
    by_cases h1 : 0 ≤ s2
    · have dd2 : decide (0 ≤ s2) = true := decide_eq_true h1
      obtain rfl : R = 1 := by rw [HR3.out, HS2.out, if_pos h1]
      go_wp2_with fail
      refine (ewhole_ok a4 1 (by omega) (by omega)).mono ?_
      rintro e_ w5 ⟨b9, A9, c9, x9, B9, d9, y9, rfl, HQa9, HQb9, HQc9, hx9, hy9, hB⟩
      have H_w5 := Lib.hid (Mo.num (Mo.num (Mo.call H_a4.out hB) hx9) hy9)
      have k1w5c0 := ((H_w5.out.var 1 rfl)).cell 0 rfl
      have k1w5c1 := ((H_w5.out.var 1 rfl)).cell 1 rfl
      have k1w5c2 := ((H_w5.out.var 1 rfl)).cell 2 rfl
      have k1w5f0 := ((H_w5.out.var 1 rfl)).thaw 0
      have k1w5f1 := ((H_w5.out.var 1 rfl)).thaw 1
      have k1w5f2 := ((H_w5.out.var 1 rfl)).thaw 2
      clear hB hx9 hy9
      go_wp2_with fail
      have hr0 := (H_w5.out).set 1 (j := 0) (v := .bool b9) (cs' := #[.bool b9, .slice none 0 0, .slice none 0 0]) rfl rfl (nd_rat _ _ _ _ _ _ _)
      have hr1 := (hr0).set 1 (j := 1) (v := .slice A9 x9.length c9) (cs' := #[.bool b9, .slice A9 x9.length c9, .slice none 0 0]) rfl rfl (nd_rat _ _ _ _ _ _ _)
      have hr2 := (hr1).set 1 (j := 2) (v := .slice B9 y9.length d9) (cs' := #[.bool b9, .slice A9 x9.length c9, .slice B9 y9.length d9]) rfl rfl (nd_rat _ _ _ _ _ _ _)
      have v3 : Vr (((w5.setCell ⟨gW1, 0, none⟩ (.bool b9)).setCell ⟨gW1, 1, none⟩ (.slice A9 x9.length c9)).setCell ⟨gW1, 2, none⟩ (.slice B9 y9.length d9)) gW1 28 #[.bool b9, .slice A9 x9.length c9, .slice B9 y9.length d9] := hr2.var 1 rfl
      refine bodyPost_ret (v := .tuple #[.agg #[.bool b9, .slice A9 x9.length c9, .slice B9 y9.length d9], .int .i64 0]) (by simp [results, Tryz.results6, go_sem, v3.cell 0 rfl, v3.cell 1 rfl, v3.cell 2 rfl]) rfl ?_
      exact ⟨b9, A9, c9, x9, B9, d9, y9, rfl, HQa9, HQb9, HQc9, hr2.rn 4 rfl, hr2.rn 5 rfl, hr2.below⟩
    have dd2 : decide (0 ≤ s2) = false := decide_eq_false h1
    have HR4 : Hid (R = rankM f y) := by show _ = _; rw [HR3.out, HS2.out, if_neg h1]
    obtain ⟨k1, k2⟩ := flr_range (n := (f.length : Int)) (q := y) (Rat.not_le.2 (Classical.not_not.1 (fun h => by have h2 := HS1.out; have h3 := cmpQ_leE.2 h; omega))) (by have h8 : ¬ 0 ≤ cmpQ y ((f.length : Int) : Rat) := (by rw [HS2.out]; exact h1); rw [cmpQ_geE] at h8; exact Classical.not_not.1 h8)
    obtain ⟨k, hk⟩ : ∃ k : Nat, flr y = (k : Int) := ⟨(flr y).toNat, by omega⟩
    have hkl : k < f.length := by omega
    have hkb := tot_bound HFQ.out k (by omega)
    have hfb := HFQ.out k hkl
    obtain ⟨ad, rfl, hcf⟩ := HR.out.2.2 k hkl
    obtain ⟨fk, hfk⟩ : ∃ fk, dg f k = fk := ⟨_, rfl⟩
    obtain ⟨sk, hsk⟩ : ∃ sk, tot f k = sk := ⟨_, rfl⟩
    rw [hfk] at hfb hcf
    rw [hsk] at hkb
    have HR5 : Hid (R = (((sk : Int) : Rat) + ((fk : Int) : Rat) * (y - (((k : Int) : Int) : Rat))) / ((T : Int) : Rat)) := by show _ = _; rw [HR4.out]; unfold rankM; rw [hk, Int.toNat_natCast, hfk, hsk, HT.out]
    have HK := Lib.hid hk
    have HSK := Lib.hid hsk
    have HCF := Lib.hid hcf
    have HBF : Hid ((ad.add k).block < w.heap.size) := World.block_lt_of_cell? w _ hcf
    have hs2n : s2 < 0 := by omega
    clear h1 k1 k2 hk hfk hsk hcf HR2 HR3 HR4
    have k2a4c0 := ((H_a4.out.var 2 rfl)).cell 0 rfl
    have k2a4c1 := ((H_a4.out.var 2 rfl)).cell 1 rfl
    have k2a4c2 := ((H_a4.out.var 2 rfl)).cell 2 rfl
    go_wp2_with fail
    refine (qfloorF_ok a4 b2 A2 B2 c2 d2 x2 y2 (H_a4.out.rn 0 rfl) (H_a4.out.rn 1 rfl) (by have := HL2.out; omega) (by have := HL2.out; omega)).mono ?_
    rw [HV2.out, show y.num / (y.den : Int) = (k : Int) from HK.out]
    rintro e_ a5 ⟨b4, A4, c4, z4, rfl, HB4, HZ4, hz4, hB⟩
    have H_a5 := Lib.hid (Mo.num (Mo.call H_a4.out hB) hz4)
    clear hB hz4
    go_wp2_with fail
    refine (int64_ok a5 b4 A4 c4 z4 (H_a5.out.rn 4 rfl) (by rw [HZ4.out, V_limbs]; omega)).mono ?_
    rw [show zv b4 z4 = (k : Int) from by rw [HB4.out, HZ4.out]; exact zv_norm _]
    rintro e_ a6 ⟨rfl, hB⟩
    have H_a6 := Lib.hid (Mo.call H_a5.out hB)
    clear hB
    have bk1 : (0 : Int) ≤ (k : Int) := by omega
    have bk2 : (k : Int) < (f.length : Int) := by omega
    have bk3 : (k : Int) ≤ (fc : Int) := by omega
    have bk4 : k ≤ fc := by omega
    go_upto_region 11 with fail
    obtain ⟨pt, hpt⟩ : ∃ pt, ((fk : Int) : Rat) * (y - (((k : Int) : Int) : Rat)) = pt := ⟨_, rfl⟩
    have HPT := Lib.hid hpt
    have HSP : Hid (sz pt 35184372088320) := by show sz _ _; rw [← hpt]; exact (sz_mul (sz_int (by omega)) (sz_sub HSY.out (sz_int (by omega)))).mono (by omega)
    rw [hpt] at HR5
    clear hpt
    go_cut [11] (fun s_ wc => ∃ (g11 : Nat) (b8 : Bool) (A8 : Option Addr) (c8 : Nat) (x8 : List Int) (B8 : Option Addr) (d8 : Nat) (y8 : List Int), s_ = .pointer (some ⟨g11, 0, none⟩) ∧ Hid (b8 = decide ((pt).num < 0)) ∧ Hid (x8 = limbs (pt).num.natAbs) ∧ Hid (y8 = limbs (pt).den) ∧ Hid (Mo w wc [(w.heap.size, 28, #[.bool xb, .slice XA xn.length xc, .slice XD xd.length xe]), (gW1, 28, #[.bool false, .slice none 0 0, .slice none 0 0]), (g, 28, #[.bool b2, .slice A2 x2.length c2, .slice B2 y2.length d2]), (g11, 28, #[.bool b8, .slice A8 x8.length c8, .slice B8 y8.length d8])] [(A8, c8, x8), (B8, d8, y8)]))
    case first =>
      have k2a6c0 := ((H_a6.out.var 2 rfl)).cell 0 rfl
      have k2a6c1 := ((H_a6.out.var 2 rfl)).cell 1 rfl
      have k2a6c2 := ((H_a6.out.var 2 rfl)).cell 2 rfl
      have nea601 : w.heap.size ≠ gW1 := H_a6.out.apart 0 1 _ _ _ _ _ _ rfl rfl (by decide)
      have nea602 : w.heap.size ≠ g := H_a6.out.apart 0 2 _ _ _ _ _ _ rfl rfl (by decide)
      have nea610 : gW1 ≠ w.heap.size := H_a6.out.apart 1 0 _ _ _ _ _ _ rfl rfl (by decide)
      have nea612 : gW1 ≠ g := H_a6.out.apart 1 2 _ _ _ _ _ _ rfl rfl (by decide)
      have nea620 : g ≠ w.heap.size := H_a6.out.apart 2 0 _ _ _ _ _ _ rfl rfl (by decide)
      have nea621 : g ≠ gW1 := H_a6.out.apart 2 1 _ _ _ _ _ _ rfl rfl (by decide)
      have hcf := cell_belowE H_a6.out.below HCF.out
      have H_a6d := Lib.hid H_a6.out.drew
      first
      | go_region_held3 (fun w' => w'.cell? ⟨g, 0, none⟩ = some (.bool b2) ∧ w'.cell? ⟨g, 1, none⟩ = some (.slice A2 x2.length c2) ∧ w'.cell? ⟨g, 2, none⟩ = some (.slice B2 y2.length d2) ∧ w'.cell? (ad.add k) = some (.int .i64 fk)) (go_keep)
         (first
          | (go_at_call_of 23 fk
             refine (ewhole_ok _ fk (by omega) (by omega)).mono ?_
             rintro e_ u1 ⟨b5, A5, c5, x5, B5, d5, y5, rfl, HQa5, HQb5, HQc5, hx5, hy5, hB⟩
             have H_u1 := Lib.hid (Mo.num (Mo.num (Mo.call (by first | exact H_a6d.out | exact ((H_a6d.out).alloc' (a6.heap.size) rfl (nd_rat false none none 0 0 0 0))) hB) hx5) hy5)
             have k2u1c0 := ((H_u1.out.var 2 rfl)).cell 0 rfl
             have k2u1c1 := ((H_u1.out.var 2 rfl)).cell 1 rfl
             have k2u1c2 := ((H_u1.out.var 2 rfl)).cell 2 rfl
             have HV5 : Hid (qv b5 x5 y5 = ((fk : Int) : Rat)) := qv_nf HQa5.out HQb5.out HQc5.out
             have HL5 : Hid (x5.length ≤ 1 ∧ y5.length ≤ 1) := szl HQb5.out HQc5.out (sz_int (by omega))
             have hcfu1 := cell_belowE H_u1.out.below HCF.out
             try have hnfu1 := Nat.ne_of_gt (Nat.lt_of_lt_of_le HBF.out (H_u1.out.vars 3 _ _ _ rfl).2.2)
             try have x0c0u1 := (H_u1.out.var 3 rfl).cell 0 rfl
             try have x0f0u1 := (H_u1.out.var 3 rfl).thaw 0
             try have x0c1u1 := (H_u1.out.var 3 rfl).cell 1 rfl
             try have x0f1u1 := (H_u1.out.var 3 rfl).thaw 1
             try have x0c2u1 := (H_u1.out.var 3 rfl).cell 2 rfl
             try have x0f2u1 := (H_u1.out.var 3 rfl).thaw 2
             try have x0n0u1 := H_u1.out.apart 3 0 _ _ _ _ _ _ rfl rfl (by decide)
             try have x0n1u1 := H_u1.out.apart 3 1 _ _ _ _ _ _ rfl rfl (by decide)
             try have x0n2u1 := H_u1.out.apart 3 2 _ _ _ _ _ _ rfl rfl (by decide)
             clear hB hx5 hy5)
          | (go_at_call_of 23 k
             refine (ewhole_ok _ (k : Int) (by omega) (by omega)).mono ?_
             rintro e_ u2 ⟨b6, A6, c6, x6, B6, d6, y6, rfl, HQa6, HQb6, HQc6, hx6, hy6, hB⟩
             have H_u2 := Lib.hid (Mo.num (Mo.num (Mo.call (by first | exact H_u1.out | exact ((H_u1.out).alloc' (u1.heap.size) rfl (nd_rat false none none 0 0 0 0))) hB) hx6) hy6)
             have k2u2c0 := ((H_u2.out.var 2 rfl)).cell 0 rfl
             have k2u2c1 := ((H_u2.out.var 2 rfl)).cell 1 rfl
             have k2u2c2 := ((H_u2.out.var 2 rfl)).cell 2 rfl
             have HV6 : Hid (qv b6 x6 y6 = (((k : Int) : Int) : Rat)) := qv_nf HQa6.out HQb6.out HQc6.out
             have HL6 : Hid (x6.length ≤ 1 ∧ y6.length ≤ 1) := szl HQb6.out HQc6.out (sz_int (by omega))
             have hcfu2 := cell_belowE H_u2.out.below HCF.out
             try have hnfu2 := Nat.ne_of_gt (Nat.lt_of_lt_of_le HBF.out (H_u2.out.vars 3 _ _ _ rfl).2.2)
             try have x0c0u2 := (H_u2.out.var 3 rfl).cell 0 rfl
             try have x0f0u2 := (H_u2.out.var 3 rfl).thaw 0
             try have x0c1u2 := (H_u2.out.var 3 rfl).cell 1 rfl
             try have x0f1u2 := (H_u2.out.var 3 rfl).thaw 1
             try have x0c2u2 := (H_u2.out.var 3 rfl).cell 2 rfl
             try have x0f2u2 := (H_u2.out.var 3 rfl).thaw 2
             try have x0n0u2 := H_u2.out.apart 3 0 _ _ _ _ _ _ rfl rfl (by decide)
             try have x0n1u2 := H_u2.out.apart 3 1 _ _ _ _ _ _ rfl rfl (by decide)
             try have x0n2u2 := H_u2.out.apart 3 2 _ _ _ _ _ _ rfl rfl (by decide)
             clear hB hx6 hy6)
          | (go_at_call 31
             refine (qsubF_ok _ b2 b6 A2 B2 A6 B6 c2 d2 c6 d6 x2 y2 x6 y6 (by first | exact (H_u2.out).rn 0 rfl | exact (((H_u2.out).alloc' (u2.heap.size) rfl (nd_rat false none none 0 0 0 0))).rn 0 rfl) (by first | exact (H_u2.out).rn 1 rfl | exact (((H_u2.out).alloc' (u2.heap.size) rfl (nd_rat false none none 0 0 0 0))).rn 1 rfl) (by first | exact (H_u2.out).rn 7 rfl | exact (((H_u2.out).alloc' (u2.heap.size) rfl (nd_rat false none none 0 0 0 0))).rn 7 rfl) (by first | exact (H_u2.out).rn 8 rfl | exact (((H_u2.out).alloc' (u2.heap.size) rfl (nd_rat false none none 0 0 0 0))).rn 8 rfl) (by have := HL2.out; have := HL6.out; omega) (by have := HL2.out; have := HL6.out; omega) (by have := HL2.out; have := HL6.out; omega)).mono ?_
             rintro e_ u3 ⟨b7, A7, c7, x7, B7, d7, y7, rfl, HQa7, HQb7, HQc7, hx7, hy7, hB⟩
             have H_u3 := Lib.hid (Mo.num (Mo.num (Mo.call (by first | exact H_u2.out | exact ((H_u2.out).alloc' (u2.heap.size) rfl (nd_rat false none none 0 0 0 0))) hB) hx7) hy7)
             have k2u3c0 := ((H_u3.out.var 2 rfl)).cell 0 rfl
             have k2u3c1 := ((H_u3.out.var 2 rfl)).cell 1 rfl
             have k2u3c2 := ((H_u3.out.var 2 rfl)).cell 2 rfl
             rw [HV2.out, HV6.out] at HQa7 HQb7 HQc7
             have HV7 : Hid (qv b7 x7 y7 = y - (((k : Int) : Int) : Rat)) := qv_nf HQa7.out HQb7.out HQc7.out
             have HL7 : Hid (x7.length ≤ 35184372088315 ∧ y7.length ≤ 35184372088315) := szl HQb7.out HQc7.out ((sz_sub HSY.out (sz_int (n := (k : Int)) (by omega))).mono (by omega))
             have hcfu3 := cell_belowE H_u3.out.below HCF.out
             try have hnfu3 := Nat.ne_of_gt (Nat.lt_of_lt_of_le HBF.out (H_u3.out.vars 3 _ _ _ rfl).2.2)
             try have x0c0u3 := (H_u3.out.var 3 rfl).cell 0 rfl
             try have x0f0u3 := (H_u3.out.var 3 rfl).thaw 0
             try have x0c1u3 := (H_u3.out.var 3 rfl).cell 1 rfl
             try have x0f1u3 := (H_u3.out.var 3 rfl).thaw 1
             try have x0c2u3 := (H_u3.out.var 3 rfl).cell 2 rfl
             try have x0f2u3 := (H_u3.out.var 3 rfl).thaw 2
             try have x0n0u3 := H_u3.out.apart 3 0 _ _ _ _ _ _ rfl rfl (by decide)
             try have x0n1u3 := H_u3.out.apart 3 1 _ _ _ _ _ _ rfl rfl (by decide)
             try have x0n2u3 := H_u3.out.apart 3 2 _ _ _ _ _ _ rfl rfl (by decide)
             clear hB hx7 hy7)
          | (go_at_call 30
             refine (qmulF_ok _ b5 b7 A5 B5 A7 B7 c5 d5 c7 d7 x5 y5 x7 y7 (by first | exact (H_u3.out).rn 5 rfl | exact (((H_u3.out).alloc' (u3.heap.size) rfl (nd_rat false none none 0 0 0 0))).rn 5 rfl) (by first | exact (H_u3.out).rn 6 rfl | exact (((H_u3.out).alloc' (u3.heap.size) rfl (nd_rat false none none 0 0 0 0))).rn 6 rfl) (by first | exact (H_u3.out).rn 9 rfl | exact (((H_u3.out).alloc' (u3.heap.size) rfl (nd_rat false none none 0 0 0 0))).rn 9 rfl) (by first | exact (H_u3.out).rn 10 rfl | exact (((H_u3.out).alloc' (u3.heap.size) rfl (nd_rat false none none 0 0 0 0))).rn 10 rfl) (by have := HL5.out; have := HL7.out; omega) (by have := HL5.out; have := HL7.out; omega)).mono ?_
             rintro e_ u4 ⟨b8, A8, c8, x8, B8, d8, y8, rfl, HQa8, HQb8, HQc8, hx8, hy8, hB⟩
             have H_u4 := Lib.hid (Mo.num (Mo.num (Mo.call (by first | exact H_u3.out | exact ((H_u3.out).alloc' (u3.heap.size) rfl (nd_rat false none none 0 0 0 0))) hB) hx8) hy8)
             have k2u4c0 := ((H_u4.out.var 2 rfl)).cell 0 rfl
             have k2u4c1 := ((H_u4.out.var 2 rfl)).cell 1 rfl
             have k2u4c2 := ((H_u4.out.var 2 rfl)).cell 2 rfl
             rw [HV5.out, HV7.out, HPT.out] at HQa8 HQb8 HQc8
             have hcfu4 := cell_belowE H_u4.out.below HCF.out
             try have hnfu4 := Nat.ne_of_gt (Nat.lt_of_lt_of_le HBF.out (H_u4.out.vars 3 _ _ _ rfl).2.2)
             have hnl := Nat.ne_of_gt (Nat.lt_of_lt_of_le HBF.out H_u4.out.below.size)
             try have x0c0u4 := (H_u4.out.var 3 rfl).cell 0 rfl
             try have x0f0u4 := (H_u4.out.var 3 rfl).thaw 0
             try have x0c1u4 := (H_u4.out.var 3 rfl).cell 1 rfl
             try have x0f1u4 := (H_u4.out.var 3 rfl).thaw 1
             try have x0c2u4 := (H_u4.out.var 3 rfl).cell 2 rfl
             try have x0f2u4 := (H_u4.out.var 3 rfl).thaw 2
             try have x0n0u4 := H_u4.out.apart 3 0 _ _ _ _ _ _ rfl rfl (by decide)
             try have x0n1u4 := H_u4.out.apart 3 1 _ _ _ _ _ _ rfl rfl (by decide)
             try have x0n2u4 := H_u4.out.apart 3 2 _ _ _ _ _ _ rfl rfl (by decide)
             try have p0cu4 := ((((H_u4.out).alloc' (t := 28) (cs := #[.bool false, .slice none 0 0, .slice none 0 0]) (u4.heap.size) rfl (nd_rat _ _ _ _ _ _ _))).var 3 rfl).cell 0 rfl
             try have p0fu4 := ((((H_u4.out).alloc' (t := 28) (cs := #[.bool false, .slice none 0 0, .slice none 0 0]) (u4.heap.size) rfl (nd_rat _ _ _ _ _ _ _))).var 3 rfl).thaw 0
             try have p1cu4 := ((((H_u4.out).alloc' (t := 28) (cs := #[.bool false, .slice none 0 0, .slice none 0 0]) (u4.heap.size) rfl (nd_rat _ _ _ _ _ _ _))).var 3 rfl).cell 1 rfl
             try have p1fu4 := ((((H_u4.out).alloc' (t := 28) (cs := #[.bool false, .slice none 0 0, .slice none 0 0]) (u4.heap.size) rfl (nd_rat _ _ _ _ _ _ _))).var 3 rfl).thaw 1
             try have p2cu4 := ((((H_u4.out).alloc' (t := 28) (cs := #[.bool false, .slice none 0 0, .slice none 0 0]) (u4.heap.size) rfl (nd_rat _ _ _ _ _ _ _))).var 3 rfl).cell 2 rfl
             try have p2fu4 := ((((H_u4.out).alloc' (t := 28) (cs := #[.bool false, .slice none 0 0, .slice none 0 0]) (u4.heap.size) rfl (nd_rat _ _ _ _ _ _ _))).var 3 rfl).thaw 2
             try have pn0u4 := (((H_u4.out).alloc' (t := 28) (cs := #[.bool false, .slice none 0 0, .slice none 0 0]) (u4.heap.size) rfl (nd_rat _ _ _ _ _ _ _))).apart 3 0 _ _ _ _ _ _ rfl rfl (by decide)
             try have pn1u4 := (((H_u4.out).alloc' (t := 28) (cs := #[.bool false, .slice none 0 0, .slice none 0 0]) (u4.heap.size) rfl (nd_rat _ _ _ _ _ _ _))).apart 3 1 _ _ _ _ _ _ rfl rfl (by decide)
             try have pn2u4 := (((H_u4.out).alloc' (t := 28) (cs := #[.bool false, .slice none 0 0, .slice none 0 0]) (u4.heap.size) rfl (nd_rat _ _ _ _ _ _ _))).apart 3 2 _ _ _ _ _ _ rfl rfl (by decide)
             clear hB hx8 hy8))
      | fail
      all_goals (go_wp2_with fail; go_meet)
      · exact ⟨_, b8, A8, c8, x8, B8, d8, y8, rfl, HQa8, HQb8, HQc8, (((H_u4.out.sub [11, 12])).alloc' (t := 28) (cs := #[.bool b8, .slice A8 x8.length c8, .slice B8 y8.length d8]) (u4.heap.size) rfl (nd_rat _ _ _ _ _ _ _))⟩
      · exact ⟨_, b8, A8, c8, x8, B8, d8, y8, rfl, HQa8, HQb8, HQc8, (((((((H_u4.out.sub [11, 12])).set 3 (j := 0) (v := .bool b8) (cs' := #[.bool b8, .slice none 0 0, .slice none 0 0]) rfl rfl (nd_rat _ _ _ _ _ _ _))).set 3 (j := 1) (v := .slice A8 x8.length c8) (cs' := #[.bool b8, .slice A8 x8.length c8, .slice none 0 0]) rfl rfl (nd_rat _ _ _ _ _ _ _))).set 3 (j := 2) (v := .slice B8 y8.length d8) (cs' := #[.bool b8, .slice A8 x8.length c8, .slice B8 y8.length d8]) rfl rfl (nd_rat _ _ _ _ _ _ _))⟩
      · exact ⟨_, b8, A8, c8, x8, B8, d8, y8, rfl, HQa8, HQb8, HQc8, (((((((H_u4.out.sub [11, 12])).set 3 (j := 0) (v := .bool b8) (cs' := #[.bool b8, .slice none 0 0, .slice none 0 0]) rfl rfl (nd_rat _ _ _ _ _ _ _))).set 3 (j := 1) (v := .slice A8 x8.length c8) (cs' := #[.bool b8, .slice A8 x8.length c8, .slice none 0 0]) rfl rfl (nd_rat _ _ _ _ _ _ _))).set 3 (j := 2) (v := .slice B8 y8.length d8) (cs' := #[.bool b8, .slice A8 x8.length c8, .slice B8 y8.length d8]) rfl rfl (nd_rat _ _ _ _ _ _ _))⟩
      · exact ⟨_, b8, A8, c8, x8, B8, d8, y8, rfl, HQa8, HQb8, HQc8, (((((((H_u4.out.sub [11, 12])).set 3 (j := 0) (v := .bool b8) (cs' := #[.bool b8, .slice none 0 0, .slice none 0 0]) rfl rfl (nd_rat _ _ _ _ _ _ _))).set 3 (j := 1) (v := .slice A8 x8.length c8) (cs' := #[.bool b8, .slice A8 x8.length c8, .slice none 0 0]) rfl rfl (nd_rat _ _ _ _ _ _ _))).set 3 (j := 2) (v := .slice B8 y8.length d8) (cs' := #[.bool b8, .slice A8 x8.length c8, .slice B8 y8.length d8]) rfl rfl (nd_rat _ _ _ _ _ _ _))⟩
      · exact ⟨_, b8, A8, c8, x8, B8, d8, y8, rfl, HQa8, HQb8, HQc8, (((((((H_u4.out.sub [11, 12])).set 3 (j := 0) (v := .bool b8) (cs' := #[.bool b8, .slice none 0 0, .slice none 0 0]) rfl rfl (nd_rat _ _ _ _ _ _ _))).set 3 (j := 1) (v := .slice A8 x8.length c8) (cs' := #[.bool b8, .slice A8 x8.length c8, .slice none 0 0]) rfl rfl (nd_rat _ _ _ _ _ _ _))).set 3 (j := 2) (v := .slice B8 y8.length d8) (cs' := #[.bool b8, .slice A8 x8.length c8, .slice B8 y8.length d8]) rfl rfl (nd_rat _ _ _ _ _ _ _))⟩
    case rest =>
      obtain ⟨g11, b8, A8, c8, x8, B8, d8, y8, rfl, HQa8, HQb8, HQc8, H_wd⟩ := hcut
      obtain ⟨wd, rfl⟩ : ∃ W, W = wc := ⟨_, rfl⟩
      have HV8 : Hid (qv b8 x8 y8 = pt) := qv_nf HQa8.out HQb8.out HQc8.out
      have HL8 : Hid (x8.length ≤ 35184372088320 ∧ y8.length ≤ 35184372088320) := szl HQb8.out HQc8.out (HSP.out)
      obtain ⟨su, hsu⟩ : ∃ su, ((sk : Int) : Rat) + pt = su := ⟨_, rfl⟩
      have HSU := Lib.hid hsu
      have HSS : Hid (sz su 35184372088325) := by show sz _ _; rw [← hsu]; exact (sz_add (sz_int (by omega)) HSP.out).mono (by omega)
      rw [hsu] at HR5
      clear hsu
      have HRT : Hid (Rk w .i64 (some ad) fc (f.take k)) := HR.out.takeC (by omega)
      have hkt : (f.take k).length = k := by rw [List.length_take]; omega
      have HKT := Lib.hid hkt
      have HTK : Hid (tot (f.take k) (f.take k).length = sk) := by show _ = _; rw [hkt, tot_take f k k (Nat.le_refl _)]; exact HSK.out
      have HFT : Hid (freq (f.take k)) := HFQ.out.take k
      clear hkt
      go_upto_region 12 with fail
      go_cut [12] (fun s_ wc => ∃ (g12 : Nat) (b15 : Bool) (A15 : Option Addr) (c15 : Nat) (x15 : List Int) (B15 : Option Addr) (d15 : Nat) (y15 : List Int), s_ = .pointer (some ⟨g12, 0, none⟩) ∧ Hid (b15 = decide ((R).num < 0)) ∧ Hid (x15 = limbs (R).num.natAbs) ∧ Hid (y15 = limbs (R).den) ∧ Hid (Mo w wc [(w.heap.size, 28, #[.bool xb, .slice XA xn.length xc, .slice XD xd.length xe]), (gW1, 28, #[.bool false, .slice none 0 0, .slice none 0 0]), (g, 28, #[.bool b2, .slice A2 x2.length c2, .slice B2 y2.length d2]), (g11, 28, #[.bool b8, .slice A8 x8.length c8, .slice B8 y8.length d8]), (g12, 28, #[.bool b15, .slice A15 x15.length c15, .slice B15 y15.length d15])] [(A15, c15, x15), (B15, d15, y15)]))
      case first =>
        have k3wdc0 := ((H_wd.out.var 3 rfl)).cell 0 rfl
        have k3wdc1 := ((H_wd.out.var 3 rfl)).cell 1 rfl
        have k3wdc2 := ((H_wd.out.var 3 rfl)).cell 2 rfl
        have newd01 : w.heap.size ≠ gW1 := H_wd.out.apart 0 1 _ _ _ _ _ _ rfl rfl (by decide)
        have newd02 : w.heap.size ≠ g := H_wd.out.apart 0 2 _ _ _ _ _ _ rfl rfl (by decide)
        have newd03 : w.heap.size ≠ g11 := H_wd.out.apart 0 3 _ _ _ _ _ _ rfl rfl (by decide)
        have newd10 : gW1 ≠ w.heap.size := H_wd.out.apart 1 0 _ _ _ _ _ _ rfl rfl (by decide)
        have newd12 : gW1 ≠ g := H_wd.out.apart 1 2 _ _ _ _ _ _ rfl rfl (by decide)
        have newd13 : gW1 ≠ g11 := H_wd.out.apart 1 3 _ _ _ _ _ _ rfl rfl (by decide)
        have newd20 : g ≠ w.heap.size := H_wd.out.apart 2 0 _ _ _ _ _ _ rfl rfl (by decide)
        have newd21 : g ≠ gW1 := H_wd.out.apart 2 1 _ _ _ _ _ _ rfl rfl (by decide)
        have newd23 : g ≠ g11 := H_wd.out.apart 2 3 _ _ _ _ _ _ rfl rfl (by decide)
        have newd30 : g11 ≠ w.heap.size := H_wd.out.apart 3 0 _ _ _ _ _ _ rfl rfl (by decide)
        have newd31 : g11 ≠ gW1 := H_wd.out.apart 3 1 _ _ _ _ _ _ rfl rfl (by decide)
        have newd32 : g11 ≠ g := H_wd.out.apart 3 2 _ _ _ _ _ _ rfl rfl (by decide)
        have H_wdd := Lib.hid H_wd.out.drew
        first
        | go_region_held3 (fun w' => w'.cell? ⟨g11, 0, none⟩ = some (.bool b8) ∧ w'.cell? ⟨g11, 1, none⟩ = some (.slice A8 x8.length c8) ∧ w'.cell? ⟨g11, 2, none⟩ = some (.slice B8 y8.length d8)) (go_keep)
           (first
            | (go_at_call_of 33 k
               refine (tot_callN _ (some ad) fc k (f.take k) HKT.out (by first | exact HRT.out.below (H_wdd.out).below | exact HRT.out.below (((H_wdd.out).alloc' (wd.heap.size) rfl (nd_rat false none none 0 0 0 0))).below) (by rw [HKT.out]; omega) HFT.out HTK.out).mono ?_
               rintro e_ t1 ⟨rfl, hB⟩
               have H_t1 := Lib.hid (Mo.call (by first | exact H_wdd.out | exact ((H_wdd.out).alloc' (wd.heap.size) rfl (nd_rat false none none 0 0 0 0))) hB)
               have k3t1c0 := ((H_t1.out.var 3 rfl)).cell 0 rfl
               have k3t1c1 := ((H_t1.out.var 3 rfl)).cell 1 rfl
               have k3t1c2 := ((H_t1.out.var 3 rfl)).cell 2 rfl
               try have x0c0t1 := (H_t1.out.var 4 rfl).cell 0 rfl
               try have x0f0t1 := (H_t1.out.var 4 rfl).thaw 0
               try have x0c1t1 := (H_t1.out.var 4 rfl).cell 1 rfl
               try have x0f1t1 := (H_t1.out.var 4 rfl).thaw 1
               try have x0c2t1 := (H_t1.out.var 4 rfl).cell 2 rfl
               try have x0f2t1 := (H_t1.out.var 4 rfl).thaw 2
               try have x0n0t1 := H_t1.out.apart 4 0 _ _ _ _ _ _ rfl rfl (by decide)
               try have x0n1t1 := H_t1.out.apart 4 1 _ _ _ _ _ _ rfl rfl (by decide)
               try have x0n2t1 := H_t1.out.apart 4 2 _ _ _ _ _ _ rfl rfl (by decide)
               try have x0n3t1 := H_t1.out.apart 4 3 _ _ _ _ _ _ rfl rfl (by decide)
               clear hB)
            | (go_at_call_of 23 sk
               refine (ewhole_ok _ sk (by omega) (by omega)).mono ?_
               rintro e_ t2 ⟨b10, A10, c10, x10, B10, d10, y10, rfl, HQa10, HQb10, HQc10, hx10, hy10, hB⟩
               have H_t2 := Lib.hid (Mo.num (Mo.num (Mo.call (by first | exact H_t1.out | exact ((H_t1.out).alloc' (t1.heap.size) rfl (nd_rat false none none 0 0 0 0))) hB) hx10) hy10)
               have k3t2c0 := ((H_t2.out.var 3 rfl)).cell 0 rfl
               have k3t2c1 := ((H_t2.out.var 3 rfl)).cell 1 rfl
               have k3t2c2 := ((H_t2.out.var 3 rfl)).cell 2 rfl
               have HV10 : Hid (qv b10 x10 y10 = ((sk : Int) : Rat)) := qv_nf HQa10.out HQb10.out HQc10.out
               have HL10 : Hid (x10.length ≤ 1 ∧ y10.length ≤ 1) := szl HQb10.out HQc10.out (sz_int (by omega))
               try have x0c0t2 := (H_t2.out.var 4 rfl).cell 0 rfl
               try have x0f0t2 := (H_t2.out.var 4 rfl).thaw 0
               try have x0c1t2 := (H_t2.out.var 4 rfl).cell 1 rfl
               try have x0f1t2 := (H_t2.out.var 4 rfl).thaw 1
               try have x0c2t2 := (H_t2.out.var 4 rfl).cell 2 rfl
               try have x0f2t2 := (H_t2.out.var 4 rfl).thaw 2
               try have x0n0t2 := H_t2.out.apart 4 0 _ _ _ _ _ _ rfl rfl (by decide)
               try have x0n1t2 := H_t2.out.apart 4 1 _ _ _ _ _ _ rfl rfl (by decide)
               try have x0n2t2 := H_t2.out.apart 4 2 _ _ _ _ _ _ rfl rfl (by decide)
               try have x0n3t2 := H_t2.out.apart 4 3 _ _ _ _ _ _ rfl rfl (by decide)
               clear hB hx10 hy10)
            | (go_at_call 24
               refine (qaddF_ok _ b10 b8 A10 B10 A8 B8 c10 d10 c8 d8 x10 y10 x8 y8 (by first | exact (H_t2.out).rn 2 rfl | exact (((H_t2.out).alloc' (t2.heap.size) rfl (nd_rat false none none 0 0 0 0))).rn 2 rfl) (by first | exact (H_t2.out).rn 3 rfl | exact (((H_t2.out).alloc' (t2.heap.size) rfl (nd_rat false none none 0 0 0 0))).rn 3 rfl) (by first | exact (H_t2.out).rn 0 rfl | exact (((H_t2.out).alloc' (t2.heap.size) rfl (nd_rat false none none 0 0 0 0))).rn 0 rfl) (by first | exact (H_t2.out).rn 1 rfl | exact (((H_t2.out).alloc' (t2.heap.size) rfl (nd_rat false none none 0 0 0 0))).rn 1 rfl) (by have := HL10.out; have := HL8.out; omega) (by have := HL10.out; have := HL8.out; omega) (by have := HL10.out; have := HL8.out; omega)).mono ?_
               rintro e_ t3 ⟨b11, A11, c11, x11, B11, d11, y11, rfl, HQa11, HQb11, HQc11, hx11, hy11, hB⟩
               have H_t3 := Lib.hid (Mo.num (Mo.num (Mo.call (by first | exact H_t2.out | exact ((H_t2.out).alloc' (t2.heap.size) rfl (nd_rat false none none 0 0 0 0))) hB) hx11) hy11)
               have k3t3c0 := ((H_t3.out.var 3 rfl)).cell 0 rfl
               have k3t3c1 := ((H_t3.out.var 3 rfl)).cell 1 rfl
               have k3t3c2 := ((H_t3.out.var 3 rfl)).cell 2 rfl
               rw [HV10.out, HV8.out, HSU.out] at HQa11 HQb11 HQc11
               have HV11 : Hid (qv b11 x11 y11 = su) := qv_nf HQa11.out HQb11.out HQc11.out
               have HL11 : Hid (x11.length ≤ 35184372088325 ∧ y11.length ≤ 35184372088325) := szl HQb11.out HQc11.out (HSS.out)
               try have x0c0t3 := (H_t3.out.var 4 rfl).cell 0 rfl
               try have x0f0t3 := (H_t3.out.var 4 rfl).thaw 0
               try have x0c1t3 := (H_t3.out.var 4 rfl).cell 1 rfl
               try have x0f1t3 := (H_t3.out.var 4 rfl).thaw 1
               try have x0c2t3 := (H_t3.out.var 4 rfl).cell 2 rfl
               try have x0f2t3 := (H_t3.out.var 4 rfl).thaw 2
               try have x0n0t3 := H_t3.out.apart 4 0 _ _ _ _ _ _ rfl rfl (by decide)
               try have x0n1t3 := H_t3.out.apart 4 1 _ _ _ _ _ _ rfl rfl (by decide)
               try have x0n2t3 := H_t3.out.apart 4 2 _ _ _ _ _ _ rfl rfl (by decide)
               try have x0n3t3 := H_t3.out.apart 4 3 _ _ _ _ _ _ rfl rfl (by decide)
               clear hB hx11 hy11)
            | (go_at_call_of 33 f.length
               refine (tot_call _ (some ad) fc f (by first | exact HR.out.below (H_t3.out).below | exact HR.out.below (((H_t3.out).alloc' (t3.heap.size) rfl (nd_rat false none none 0 0 0 0))).below) hl61 HFQ.out HT.out).mono ?_
               rintro e_ t4 ⟨rfl, hB⟩
               have H_t4 := Lib.hid (Mo.call (by first | exact H_t3.out | exact ((H_t3.out).alloc' (t3.heap.size) rfl (nd_rat false none none 0 0 0 0))) hB)
               have k3t4c0 := ((H_t4.out.var 3 rfl)).cell 0 rfl
               have k3t4c1 := ((H_t4.out.var 3 rfl)).cell 1 rfl
               have k3t4c2 := ((H_t4.out.var 3 rfl)).cell 2 rfl
               try have x0c0t4 := (H_t4.out.var 4 rfl).cell 0 rfl
               try have x0f0t4 := (H_t4.out.var 4 rfl).thaw 0
               try have x0c1t4 := (H_t4.out.var 4 rfl).cell 1 rfl
               try have x0f1t4 := (H_t4.out.var 4 rfl).thaw 1
               try have x0c2t4 := (H_t4.out.var 4 rfl).cell 2 rfl
               try have x0f2t4 := (H_t4.out.var 4 rfl).thaw 2
               try have x0n0t4 := H_t4.out.apart 4 0 _ _ _ _ _ _ rfl rfl (by decide)
               try have x0n1t4 := H_t4.out.apart 4 1 _ _ _ _ _ _ rfl rfl (by decide)
               try have x0n2t4 := H_t4.out.apart 4 2 _ _ _ _ _ _ rfl rfl (by decide)
               try have x0n3t4 := H_t4.out.apart 4 3 _ _ _ _ _ _ rfl rfl (by decide)
               clear hB)
            | (go_at_call_of 23 T
               refine (ewhole_ok _ T (by omega) (by omega)).mono ?_
               rintro e_ t5 ⟨b12, A12, c12, x12, B12, d12, y12, rfl, HQa12, HQb12, HQc12, hx12, hy12, hB⟩
               have H_t5 := Lib.hid (Mo.num (Mo.num (Mo.call (by first | exact H_t4.out | exact ((H_t4.out).alloc' (t4.heap.size) rfl (nd_rat false none none 0 0 0 0))) hB) hx12) hy12)
               have k3t5c0 := ((H_t5.out.var 3 rfl)).cell 0 rfl
               have k3t5c1 := ((H_t5.out.var 3 rfl)).cell 1 rfl
               have k3t5c2 := ((H_t5.out.var 3 rfl)).cell 2 rfl
               have HV12 : Hid (qv b12 x12 y12 = ((T : Int) : Rat)) := qv_nf HQa12.out HQb12.out HQc12.out
               have HL12 : Hid (x12.length ≤ 1 ∧ y12.length ≤ 1) := szl HQb12.out HQc12.out (sz_int (by omega))
               have HP12 : Hid (0 < qn b12 x12 y12) := by show 0 < _; have h1 := HQc12.out; rw [Rat.den_intCast] at h1; have h2 := HQb12.out; rw [Rat.num_intCast] at h2; have h3 := HQa12.out; rw [Rat.num_intCast] at h3; unfold qn; rw [h1, V_limbs, if_neg (by decide), h3, h2, zv_norm]; exact hTp
               try have x0c0t5 := (H_t5.out.var 4 rfl).cell 0 rfl
               try have x0f0t5 := (H_t5.out.var 4 rfl).thaw 0
               try have x0c1t5 := (H_t5.out.var 4 rfl).cell 1 rfl
               try have x0f1t5 := (H_t5.out.var 4 rfl).thaw 1
               try have x0c2t5 := (H_t5.out.var 4 rfl).cell 2 rfl
               try have x0f2t5 := (H_t5.out.var 4 rfl).thaw 2
               try have x0n0t5 := H_t5.out.apart 4 0 _ _ _ _ _ _ rfl rfl (by decide)
               try have x0n1t5 := H_t5.out.apart 4 1 _ _ _ _ _ _ rfl rfl (by decide)
               try have x0n2t5 := H_t5.out.apart 4 2 _ _ _ _ _ _ rfl rfl (by decide)
               try have x0n3t5 := H_t5.out.apart 4 3 _ _ _ _ _ _ rfl rfl (by decide)
               clear hB hx12 hy12)
            | (go_at_call 32
               refine (qdivF_ok _ b11 b12 A11 B11 A12 B12 c11 d11 c12 d12 x11 y11 x12 y12 (by first | exact (H_t5.out).rn 4 rfl | exact (((H_t5.out).alloc' (t5.heap.size) rfl (nd_rat false none none 0 0 0 0))).rn 4 rfl) (by first | exact (H_t5.out).rn 5 rfl | exact (((H_t5.out).alloc' (t5.heap.size) rfl (nd_rat false none none 0 0 0 0))).rn 5 rfl) (by first | exact (H_t5.out).rn 6 rfl | exact (((H_t5.out).alloc' (t5.heap.size) rfl (nd_rat false none none 0 0 0 0))).rn 6 rfl) (by first | exact (H_t5.out).rn 7 rfl | exact (((H_t5.out).alloc' (t5.heap.size) rfl (nd_rat false none none 0 0 0 0))).rn 7 rfl) (by have := HL11.out; have := HL12.out; omega) (by have := HL11.out; have := HL12.out; omega) HP12.out).mono ?_
               rintro e_ t6 ⟨b15, A15, c15, x15, B15, d15, y15, rfl, HQa15, HQb15, HQc15, hx15, hy15, hB⟩
               have H_t6 := Lib.hid (Mo.num (Mo.num (Mo.call (by first | exact H_t5.out | exact ((H_t5.out).alloc' (t5.heap.size) rfl (nd_rat false none none 0 0 0 0))) hB) hx15) hy15)
               have k3t6c0 := ((H_t6.out.var 3 rfl)).cell 0 rfl
               have k3t6c1 := ((H_t6.out.var 3 rfl)).cell 1 rfl
               have k3t6c2 := ((H_t6.out.var 3 rfl)).cell 2 rfl
               rw [HV11.out, HV12.out, ← HR5.out] at HQa15 HQb15 HQc15
               try have x0c0t6 := (H_t6.out.var 4 rfl).cell 0 rfl
               try have x0f0t6 := (H_t6.out.var 4 rfl).thaw 0
               try have x0c1t6 := (H_t6.out.var 4 rfl).cell 1 rfl
               try have x0f1t6 := (H_t6.out.var 4 rfl).thaw 1
               try have x0c2t6 := (H_t6.out.var 4 rfl).cell 2 rfl
               try have x0f2t6 := (H_t6.out.var 4 rfl).thaw 2
               try have x0n0t6 := H_t6.out.apart 4 0 _ _ _ _ _ _ rfl rfl (by decide)
               try have x0n1t6 := H_t6.out.apart 4 1 _ _ _ _ _ _ rfl rfl (by decide)
               try have x0n2t6 := H_t6.out.apart 4 2 _ _ _ _ _ _ rfl rfl (by decide)
               try have x0n3t6 := H_t6.out.apart 4 3 _ _ _ _ _ _ rfl rfl (by decide)
               try have p0ct6 := ((((H_t6.out).alloc' (t := 28) (cs := #[.bool false, .slice none 0 0, .slice none 0 0]) (t6.heap.size) rfl (nd_rat _ _ _ _ _ _ _))).var 4 rfl).cell 0 rfl
               try have p0ft6 := ((((H_t6.out).alloc' (t := 28) (cs := #[.bool false, .slice none 0 0, .slice none 0 0]) (t6.heap.size) rfl (nd_rat _ _ _ _ _ _ _))).var 4 rfl).thaw 0
               try have p1ct6 := ((((H_t6.out).alloc' (t := 28) (cs := #[.bool false, .slice none 0 0, .slice none 0 0]) (t6.heap.size) rfl (nd_rat _ _ _ _ _ _ _))).var 4 rfl).cell 1 rfl
               try have p1ft6 := ((((H_t6.out).alloc' (t := 28) (cs := #[.bool false, .slice none 0 0, .slice none 0 0]) (t6.heap.size) rfl (nd_rat _ _ _ _ _ _ _))).var 4 rfl).thaw 1
               try have p2ct6 := ((((H_t6.out).alloc' (t := 28) (cs := #[.bool false, .slice none 0 0, .slice none 0 0]) (t6.heap.size) rfl (nd_rat _ _ _ _ _ _ _))).var 4 rfl).cell 2 rfl
               try have p2ft6 := ((((H_t6.out).alloc' (t := 28) (cs := #[.bool false, .slice none 0 0, .slice none 0 0]) (t6.heap.size) rfl (nd_rat _ _ _ _ _ _ _))).var 4 rfl).thaw 2
               try have pn0t6 := (((H_t6.out).alloc' (t := 28) (cs := #[.bool false, .slice none 0 0, .slice none 0 0]) (t6.heap.size) rfl (nd_rat _ _ _ _ _ _ _))).apart 4 0 _ _ _ _ _ _ rfl rfl (by decide)
               try have pn1t6 := (((H_t6.out).alloc' (t := 28) (cs := #[.bool false, .slice none 0 0, .slice none 0 0]) (t6.heap.size) rfl (nd_rat _ _ _ _ _ _ _))).apart 4 1 _ _ _ _ _ _ rfl rfl (by decide)
               try have pn2t6 := (((H_t6.out).alloc' (t := 28) (cs := #[.bool false, .slice none 0 0, .slice none 0 0]) (t6.heap.size) rfl (nd_rat _ _ _ _ _ _ _))).apart 4 2 _ _ _ _ _ _ rfl rfl (by decide)
               try have pn3t6 := (((H_t6.out).alloc' (t := 28) (cs := #[.bool false, .slice none 0 0, .slice none 0 0]) (t6.heap.size) rfl (nd_rat _ _ _ _ _ _ _))).apart 4 3 _ _ _ _ _ _ rfl rfl (by decide)
               clear hB hx15 hy15))
        | fail
        all_goals (go_wp2_with fail; go_meet)
        · exact ⟨_, b15, A15, c15, x15, B15, d15, y15, rfl, HQa15, HQb15, HQc15, (((H_t6.out.sub [8, 9])).alloc' (t := 28) (cs := #[.bool b15, .slice A15 x15.length c15, .slice B15 y15.length d15]) (t6.heap.size) rfl (nd_rat _ _ _ _ _ _ _))⟩
        · exact ⟨_, b15, A15, c15, x15, B15, d15, y15, rfl, HQa15, HQb15, HQc15, (((((((H_t6.out.sub [8, 9])).set 4 (j := 0) (v := .bool b15) (cs' := #[.bool b15, .slice none 0 0, .slice none 0 0]) rfl rfl (nd_rat _ _ _ _ _ _ _))).set 4 (j := 1) (v := .slice A15 x15.length c15) (cs' := #[.bool b15, .slice A15 x15.length c15, .slice none 0 0]) rfl rfl (nd_rat _ _ _ _ _ _ _))).set 4 (j := 2) (v := .slice B15 y15.length d15) (cs' := #[.bool b15, .slice A15 x15.length c15, .slice B15 y15.length d15]) rfl rfl (nd_rat _ _ _ _ _ _ _))⟩
        · exact ⟨_, b15, A15, c15, x15, B15, d15, y15, rfl, HQa15, HQb15, HQc15, (((((((H_t6.out.sub [8, 9])).set 4 (j := 0) (v := .bool b15) (cs' := #[.bool b15, .slice none 0 0, .slice none 0 0]) rfl rfl (nd_rat _ _ _ _ _ _ _))).set 4 (j := 1) (v := .slice A15 x15.length c15) (cs' := #[.bool b15, .slice A15 x15.length c15, .slice none 0 0]) rfl rfl (nd_rat _ _ _ _ _ _ _))).set 4 (j := 2) (v := .slice B15 y15.length d15) (cs' := #[.bool b15, .slice A15 x15.length c15, .slice B15 y15.length d15]) rfl rfl (nd_rat _ _ _ _ _ _ _))⟩
        · exact ⟨_, b15, A15, c15, x15, B15, d15, y15, rfl, HQa15, HQb15, HQc15, (((((((H_t6.out.sub [8, 9])).set 4 (j := 0) (v := .bool b15) (cs' := #[.bool b15, .slice none 0 0, .slice none 0 0]) rfl rfl (nd_rat _ _ _ _ _ _ _))).set 4 (j := 1) (v := .slice A15 x15.length c15) (cs' := #[.bool b15, .slice A15 x15.length c15, .slice none 0 0]) rfl rfl (nd_rat _ _ _ _ _ _ _))).set 4 (j := 2) (v := .slice B15 y15.length d15) (cs' := #[.bool b15, .slice A15 x15.length c15, .slice B15 y15.length d15]) rfl rfl (nd_rat _ _ _ _ _ _ _))⟩
        · exact ⟨_, b15, A15, c15, x15, B15, d15, y15, rfl, HQa15, HQb15, HQc15, (((((((H_t6.out.sub [8, 9])).set 4 (j := 0) (v := .bool b15) (cs' := #[.bool b15, .slice none 0 0, .slice none 0 0]) rfl rfl (nd_rat _ _ _ _ _ _ _))).set 4 (j := 1) (v := .slice A15 x15.length c15) (cs' := #[.bool b15, .slice A15 x15.length c15, .slice none 0 0]) rfl rfl (nd_rat _ _ _ _ _ _ _))).set 4 (j := 2) (v := .slice B15 y15.length d15) (cs' := #[.bool b15, .slice A15 x15.length c15, .slice B15 y15.length d15]) rfl rfl (nd_rat _ _ _ _ _ _ _))⟩
        · exact ⟨_, b15, A15, c15, x15, B15, d15, y15, rfl, HQa15, HQb15, HQc15, (((((((H_t6.out.sub [8, 9])).set 4 (j := 0) (v := .bool b15) (cs' := #[.bool b15, .slice none 0 0, .slice none 0 0]) rfl rfl (nd_rat _ _ _ _ _ _ _))).set 4 (j := 1) (v := .slice A15 x15.length c15) (cs' := #[.bool b15, .slice A15 x15.length c15, .slice none 0 0]) rfl rfl (nd_rat _ _ _ _ _ _ _))).set 4 (j := 2) (v := .slice B15 y15.length d15) (cs' := #[.bool b15, .slice A15 x15.length c15, .slice B15 y15.length d15]) rfl rfl (nd_rat _ _ _ _ _ _ _))⟩
        · exact ⟨_, b15, A15, c15, x15, B15, d15, y15, rfl, HQa15, HQb15, HQc15, (((((((H_t6.out.sub [8, 9])).set 4 (j := 0) (v := .bool b15) (cs' := #[.bool b15, .slice none 0 0, .slice none 0 0]) rfl rfl (nd_rat _ _ _ _ _ _ _))).set 4 (j := 1) (v := .slice A15 x15.length c15) (cs' := #[.bool b15, .slice A15 x15.length c15, .slice none 0 0]) rfl rfl (nd_rat _ _ _ _ _ _ _))).set 4 (j := 2) (v := .slice B15 y15.length d15) (cs' := #[.bool b15, .slice A15 x15.length c15, .slice B15 y15.length d15]) rfl rfl (nd_rat _ _ _ _ _ _ _))⟩
      case rest =>
        obtain ⟨g12, b15, A15, c15, x15, B15, d15, y15, rfl, HQa15, HQb15, HQc15, H_we⟩ := hcut
        obtain ⟨we, rfl⟩ : ∃ W, W = wc := ⟨_, rfl⟩
        have k4wec0 := ((H_we.out.var 4 rfl)).cell 0 rfl
        have k4wec1 := ((H_we.out.var 4 rfl)).cell 1 rfl
        have k4wec2 := ((H_we.out.var 4 rfl)).cell 2 rfl
        have k1wec0 := ((H_we.out.var 1 rfl)).cell 0 rfl
        have k1wec1 := ((H_we.out.var 1 rfl)).cell 1 rfl
        have k1wec2 := ((H_we.out.var 1 rfl)).cell 2 rfl
        have k1wef0 := ((H_we.out.var 1 rfl)).thaw 0
        have k1wef1 := ((H_we.out.var 1 rfl)).thaw 1
        have k1wef2 := ((H_we.out.var 1 rfl)).thaw 2
        go_wp2_with fail
        have hr0 := (H_we.out).set 1 (j := 0) (v := .bool b15) (cs' := #[.bool b15, .slice none 0 0, .slice none 0 0]) rfl rfl (nd_rat _ _ _ _ _ _ _)
        have hr1 := (hr0).set 1 (j := 1) (v := .slice A15 x15.length c15) (cs' := #[.bool b15, .slice A15 x15.length c15, .slice none 0 0]) rfl rfl (nd_rat _ _ _ _ _ _ _)
        have hr2 := (hr1).set 1 (j := 2) (v := .slice B15 y15.length d15) (cs' := #[.bool b15, .slice A15 x15.length c15, .slice B15 y15.length d15]) rfl rfl (nd_rat _ _ _ _ _ _ _)
        have v3 : Vr (((we.setCell ⟨gW1, 0, none⟩ (.bool b15)).setCell ⟨gW1, 1, none⟩ (.slice A15 x15.length c15)).setCell ⟨gW1, 2, none⟩ (.slice B15 y15.length d15)) gW1 28 #[.bool b15, .slice A15 x15.length c15, .slice B15 y15.length d15] := hr2.var 1 rfl
        refine bodyPost_ret (v := .tuple #[.agg #[.bool b15, .slice A15 x15.length c15, .slice B15 y15.length d15], .int .i64 0]) (by simp [results, Tryz.results6, go_sem, v3.cell 0 rfl, v3.cell 1 rfl, v3.cell 2 rfl]) rfl ?_
        exact ⟨b15, A15, c15, x15, B15, d15, y15, rfl, HQa15, HQb15, HQc15, hr2.rn 0 rfl, hr2.rn 1 rfl, hr2.below⟩

end Go.Proofs.YtocpncjmcaecoaaGreat.M
