/- Rounding by the reference. -/
import Derived.Test.YtocpncjmcaecoaaGreatRefFlo
import Derived.Test.YtocpncjmcaecoaaGreatDec
namespace Go.Proofs.YtocpncjmcaecoaaGreat.M
set_option maxRecDepth 10000
open Go.RowKit
set_option linter.unusedVariables false
set_option linter.unusedSimpArgs false
theorem nd_dec (b : Bool) (A : Option Addr) (m c : Nat) (k : Int) : NoDigits #[.bool b, .slice A m c, .int .i64 k] := by
  intro j n
  match j with
  | 0 => simp
  | 1 => simp
  | 2 => simp
  | k + 3 => simp
/-- A new block that holds one digit. -/
theorem Mo.lit {w0 w : World} {m : List (Nat × Nat × Array Value)} {ns : List (Option Addr × Nat × List Int)} (H : Mo w0 w m ns) (k : Int) (h0 : 0 ≤ k) (h1 : k ≤ 4294967295) : Mo w0 (w.alloc (.cells #[.int .u32 k] 83 (0, 0))) m (ns ++ [(some ⟨w.heap.size, 0, none⟩, 1, [k])]) := by
  have hk : Bk (w.alloc (.cells #[.int .u32 k] 83 (0, 0))) w.heap.size 83 .u32 [k] := Bk.lit (w := w) (e := 83) (k := .u32) [k]
  exact (H.call ((Below.refl _ _).alloc (Nat.le_refl _) _)).num ⟨hk.reads (by simp), Lim.of_mem (by simp; omega)⟩
theorem Mo.lit' {w0 w : World} {m : List (Nat × Nat × Array Value)} {ns : List (Option Addr × Nat × List Int)} (H : Mo w0 w m ns) (g : Nat) (hg : g = w.heap.size) (k : Int) (h0 : 0 ≤ k) (h1 : k ≤ 4294967295) : Mo w0 (w.alloc (.cells #[.int .u32 k] 83 (0, 0))) m (ns ++ [(some ⟨g, 0, none⟩, 1, [k])]) := by
  rw [hg]
  exact H.lit k h0 h1
theorem V_one (k : Int) : V [k] = k := by
  show S (dg [k]) 1 = k
  rw [S_succ, S_zero, pw_zero]
  show 0 + k * 1 = k
  omega
/-- Whether the number a fraction is cut to becomes the next one. -/
def upQ (r : Rat) (mode : Int) (q : Rat) (F : Int) : Bool := if r = 0 then false else rup mode (cmpQ r (mkRat 1 2)) (decide (cmpQ q 0 < 0)) F
theorem cut_off (q : Rat) : q - ((q.num / (q.den : Int) : Int) : Rat) = mkRat (q.num % (q.den : Int)) q.den := by
  have h0 := q.den_nz
  have e1 : q = mkRat q.num q.den := (Rat.mkRat_self q).symm
  have e2 : -(((q.num / (q.den : Int) : Int)) : Rat) = mkRat (-(q.num / (q.den : Int))) 1 := by
    rw [← Rat.intCast_neg, Rat.mkRat_one]
  rw [Rat.sub_eq_add_neg, e2]
  conv => lhs; lhs; rw [e1]
  rw [Rat.mkRat_add_mkRat _ _ h0 (by decide)]
  congr 1
  · have := Int.emod_def q.num (q.den : Int)
    have e3 : -(q.num / (q.den : Int)) * (q.den : Int) = -((q.den : Int) * (q.num / (q.den : Int))) := by rw [Int.neg_mul, Int.mul_comm]
    omega
  · omega
theorem upQ_rnd (q : Rat) (mode : Int) : rnd q mode = if upQ (q - ((q.num / (q.den : Int) : Int) : Rat)) mode q (q.num / (q.den : Int)) then q.num / (q.den : Int) + 1 else q.num / (q.den : Int) := by
  have h0 := q.den_nz
  unfold rnd upQ
  rw [cut_off]
  have e1 : cmpQ (mkRat (q.num % (q.den : Int)) q.den) (mkRat 1 2) = cmpI (q.num % q.den + q.num % q.den) q.den := by
    rw [← cmpQ_mk h0 (by decide)]
    congr 1 <;> omega
  have e2 : decide (cmpQ q 0 < 0) = decide (q.num < 0) := by
    refine decide_eq_decide.2 (cmpQ_lt.trans ?_)
    have h := mk_lt (n := q.num) (n' := 0) (d := q.den) (d' := 1) h0 (by decide)
    rw [Rat.mkRat_self, Rat.zero_mkRat] at h
    rw [h]
    omega
  rw [e1, e2]
  by_cases h : q.num % (q.den : Int) = 0
  · rw [if_pos h, h, Rat.zero_mkRat, if_pos rfl]
    rfl
  · rw [if_neg h, if_neg (fun h2 => h ((Rat.mkRat_eq_zero h0).1 h2))]
theorem half_qv : qv false [1] [2] = mkRat 1 2 := by
  unfold qv
  rw [zv_f, V_one, V_one]
  rfl
/-- A decimal number with no places and no error. -/
def RetDE (z : Int) (w : World) (e : Ending) (w' : World) : Prop := ∃ b A c xs, e = .returned (.tuple #[.agg #[.bool b, .slice A xs.length c, .int .i64 0], .int .i64 0]) ∧ Hid (b = decide (z < 0)) ∧ Hid (xs = limbs z.natAbs) ∧ RN w' A c xs ∧ Below w.heap.size w w'
/-- An integer and no error. -/
def RetIE (z : Int) (w : World) (e : Ending) (w' : World) : Prop := ∃ b A c xs, e = .returned (.tuple #[.agg #[.bool b, .slice A xs.length c], .int .i64 0]) ∧ Hid (b = decide (z < 0)) ∧ Hid (xs = limbs z.natAbs) ∧ RN w' A c xs ∧ Below w.heap.size w w'
/-- The integer part times the denominator is about as long as the fraction's parts. -/
theorem flden_len (q : Rat) {m n : Nat} (h1 : (limbs q.num.natAbs).length ≤ m) (h2 : (limbs q.den).length ≤ n) : (limbs (q.num / (q.den : Int) * (q.den : Int)).natAbs).length ≤ max m n + 1 := by
  refine limbs_len ?_
  have k1 := limbs_lt q.num.natAbs
  have k2 := limbs_lt q.den
  have k3 := pw_le (Nat.le_trans h1 (Nat.le_max_left m n))
  have k4 := pw_le (Nat.le_trans h2 (Nat.le_max_right m n))
  have h0 := q.den_nz
  have e1 := Int.emod_def q.num (q.den : Int)
  have e2 := Int.emod_nonneg q.num (show (q.den : Int) ≠ 0 by omega)
  have e3 := Int.emod_lt_of_pos q.num (show 0 < (q.den : Int) by omega)
  rw [Int.mul_comm] 
  rw [pw_succ]
  omega

set_option maxHeartbeats 400000 in
theorem rplaces0_ok (w : World)  :
    Calls Tryz.prog 104 #[.int .i64 0] w (fun e w' => e = .returned (.bool true) ∧ w' = w) := by
  go_enter Tryz.func104, Tryz.ntmps104
  go_wp2_with fail
  go_ret
  exact ⟨rfl, rfl⟩

set_option maxHeartbeats 400000 in
theorem rmode_ok (w : World) (mode : Int) (hm : 1 ≤ mode ∧ mode ≤ 7) :
    Calls Tryz.prog 105 #[.int .i64 mode] w (fun e w' => e = .returned (.bool true) ∧ w' = w) := by
  go_enter Tryz.func105, Tryz.ntmps105
  have e1 : decide (1 ≤ mode) = true := decide_eq_true (by omega)
  have e2 : decide (mode ≤ 7) = true := decide_eq_true (by omega)
  go_wp2_with fail
  go_ret
  exact ⟨rfl, rfl⟩

set_option maxHeartbeats 400000 in
theorem rpower0_ok (w : World)  :
    Calls Tryz.prog 107 #[.int .i64 0] w (RetN 1 w) := by
  go_enter Tryz.func107, Tryz.ntmps107
  go_wp2_with fail
  refine (rpow0_ok _ _ _ _).mono ?_
  rintro e_ w1 ⟨A, c, z, rfl, HZ, hz, hB⟩
  have HB := Lib.hid (below_seq ((Below.refl w.heap.size w).alloc (Nat.le_refl _) _) hB)
  have HR := Lib.hid hz
  clear hB hz
  go_wp2_with fail
  go_ret
  exact ⟨A, c, z, rfl, HZ, HR.out, HB.out⟩
theorem limbs_one_nf : Nf [1] := ⟨Lim.of_mem (by simp), fun h => by simp [dg]⟩

set_option maxHeartbeats 800000 in
theorem rwhole_ok (w : World) (b : Bool) (A : Option Addr) (c : Nat) (xs : List Int) (hx : RN w A c xs) (hs : xs.length ≤ 70368744177664) :
    Calls Tryz.prog 106 #[.agg #[.bool b, .slice A xs.length c]] w (RetQ ((zv b xs : Int) : Rat) w) := by
  have HX := Lib.hid hx
  clear hx
  go_enter Tryz.func106, Tryz.ntmps106
  go_upto_region 1 with fail
  obtain ⟨W, hW⟩ : ∃ W, W = ((w.alloc (.cells #[.bool b, .slice A xs.length c] 26)).alloc (.cells #[.bool false, .slice none 0 0, .slice none 0 0] 28)) := ⟨_, rfl⟩
  rw [← hW]
  have H_W : Mo w W [(w.heap.size, 26, #[.bool b, .slice A xs.length c]), (w.heap.size + 1, 28, #[.bool false, .slice none 0 0, .slice none 0 0])] [] := by
    rw [hW]
    have h := (((Mo.start w).alloc (t := 26) (cs := #[.bool b, .slice A xs.length c]) (nd_int _ _ _ _)).alloc (t := 28) (cs := #[.bool false, .slice none 0 0, .slice none 0 0]) (nd_rat _ _ _ _ _ _ _))
    simp only [size_alloc, List.nil_append, List.cons_append] at h
    exact h
  clear hW
  obtain ⟨gW1, hgW1⟩ : ∃ g, w.heap.size + 1 = g := ⟨_, rfl⟩
  rw [hgW1] at H_W ⊢
  clear hgW1
  have neW01 : w.heap.size ≠ gW1 := H_W.apart 0 1 _ _ _ _ _ _ rfl rfl (by decide)
  have neW10 : gW1 ≠ w.heap.size := H_W.apart 1 0 _ _ _ _ _ _ rfl rfl (by decide)
  have H_W := Lib.hid H_W
  have k0Wc0 := ((H_W.out.var 0 rfl)).cell 0 rfl
  have k0Wc1 := ((H_W.out.var 0 rfl)).cell 1 rfl
  go_wp2_with fail
  refine (rinorm_ok W b A c xs (HX.out.below H_W.out.below) hs).mono ?_
  rintro e_ w1 ⟨b1, A1, c1, x, rfl, HB1, HX1, hx1, hB⟩
  have H_w1 := Lib.hid (Mo.num (Mo.call H_W.out hB) hx1)
  have k1w1c0 := ((H_w1.out.var 1 rfl)).cell 0 rfl
  have k1w1c1 := ((H_w1.out.var 1 rfl)).cell 1 rfl
  have k1w1c2 := ((H_w1.out.var 1 rfl)).cell 2 rfl
  have k1w1f0 := ((H_w1.out.var 1 rfl)).thaw 0
  have k1w1f1 := ((H_w1.out.var 1 rfl)).thaw 1
  have k1w1f2 := ((H_w1.out.var 1 rfl)).thaw 2
  clear hB hx1
  have H_l := Lib.hid (H_w1.out.lit 1 (by omega) (by omega))
  have klc0 := ((H_l.out.var 1 rfl)).cell 0 rfl
  have klc1 := ((H_l.out.var 1 rfl)).cell 1 rfl
  have klc2 := ((H_l.out.var 1 rfl)).cell 2 rfl
  have klf0 := ((H_l.out.var 1 rfl)).thaw 0
  have klf1 := ((H_l.out.var 1 rfl)).thaw 1
  have klf2 := ((H_l.out.var 1 rfl)).thaw 2
  go_wp2_with fail
  have hr0 := (H_l.out).set 1 (j := 0) (v := .bool b1) (cs' := #[.bool b1, .slice none 0 0, .slice none 0 0]) rfl rfl (nd_rat _ _ _ _ _ _ _)
  have hr1 := (hr0).set 1 (j := 1) (v := .slice A1 x.length c1) (cs' := #[.bool b1, .slice A1 x.length c1, .slice none 0 0]) rfl rfl (nd_rat _ _ _ _ _ _ _)
  have hr2 := (hr1).set 1 (j := 2) (v := .slice (some ⟨w1.heap.size, 0, none⟩) 1 1) (cs' := #[.bool b1, .slice A1 x.length c1, .slice (some ⟨w1.heap.size, 0, none⟩) 1 1]) rfl rfl (nd_rat _ _ _ _ _ _ _)
  have v3 : Vr ((((w1.alloc (.cells #[.int .u32 1] 83 (0, 0))).setCell ⟨gW1, 0, none⟩ (.bool b1)).setCell ⟨gW1, 1, none⟩ (.slice A1 x.length c1)).setCell ⟨gW1, 2, none⟩ (.slice (some ⟨w1.heap.size, 0, none⟩) 1 1)) gW1 28 #[.bool b1, .slice A1 x.length c1, .slice (some ⟨w1.heap.size, 0, none⟩) 1 1] := hr2.var 1 rfl
  refine bodyPost_ret (v := .agg #[.bool b1, .slice A1 x.length c1, .slice (some ⟨w1.heap.size, 0, none⟩) 1 1]) (by simp [results, Tryz.results106, go_sem, v3.cell 0 rfl, v3.cell 1 rfl, v3.cell 2 rfl]) rfl ?_
  exact ⟨b1, A1, c1, x, (some ⟨w1.heap.size, 0, none⟩), 1, [1], rfl, by rw [Rat.num_intCast]; exact HB1, by rw [Rat.num_intCast]; exact HX1, by rw [Rat.den_intCast]; exact limbs_of (limbs_one_nf) (V_one 1), hr2.rn 0 rfl, hr2.rn 1 rfl, hr2.below⟩

set_option maxHeartbeats 3200000 in
theorem rup_ok (w : World) (p q : Bool) (P P2 Q Q2 : Option Addr) (cp cp2 cq cq2 : Nat) (xs ys us vs : List Int) (hx : RN w P cp xs) (hy : RN w P2 cp2 ys) (hu : RN w Q cq us) (hw : RN w Q2 cq2 vs) (b : Bool) (A : Option Addr) (c : Nat) (zs : List Int) (hzs : RN w A c zs) (mode : Int) (hm : 1 ≤ mode ∧ mode ≤ 7) (hsxs : xs.length ≤ 35184372088790) (hsys : ys.length ≤ 35184372088790) (hsus : us.length ≤ 35184372088790) (hsvs : vs.length ≤ 35184372088790) :
    Calls Tryz.prog 109 #[.agg #[.bool p, .slice P xs.length cp, .slice P2 ys.length cp2], .agg #[.bool b, .slice A zs.length c], .agg #[.bool q, .slice Q us.length cq, .slice Q2 vs.length cq2], .int .i64 mode] w (fun e w' => e = .returned (.bool (upQ (qv q us vs) mode (qv p xs ys) (zv b zs))) ∧ Below w.heap.size w w') := by
  have HX := Lib.hid hx
  have HY := Lib.hid hy
  have HU := Lib.hid hu
  have HW := Lib.hid hw
  clear hx hy hu hw
  have HZ := Lib.hid hzs
  clear hzs
  go_enter Tryz.func109, Tryz.ntmps109
  obtain ⟨x, hx0⟩ : ∃ x, qv p xs ys = x := ⟨_, rfl⟩
  obtain ⟨r, hr0⟩ : ∃ r, qv q us vs = r := ⟨_, rfl⟩
  have HX0 := Lib.hid hx0
  have HR0 := Lib.hid hr0
  rw [hx0, hr0]
  clear hx0 hr0
  go_upto_region 1 with fail
  obtain ⟨W, hW⟩ : ∃ W, W = (((w.alloc (.cells #[.bool p, .slice P xs.length cp, .slice P2 ys.length cp2] 28)).alloc (.cells #[.bool b, .slice A zs.length c] 26)).alloc (.cells #[.bool q, .slice Q us.length cq, .slice Q2 vs.length cq2] 28)) := ⟨_, rfl⟩
  rw [← hW]
  have H_W : Mo w W [(w.heap.size, 28, #[.bool p, .slice P xs.length cp, .slice P2 ys.length cp2]), (w.heap.size + 1, 26, #[.bool b, .slice A zs.length c]), (w.heap.size + 1 + 1, 28, #[.bool q, .slice Q us.length cq, .slice Q2 vs.length cq2])] [] := by
    rw [hW]
    have h := ((((Mo.start w).alloc (t := 28) (cs := #[.bool p, .slice P xs.length cp, .slice P2 ys.length cp2]) (nd_rat _ _ _ _ _ _ _)).alloc (t := 26) (cs := #[.bool b, .slice A zs.length c]) (nd_int _ _ _ _)).alloc (t := 28) (cs := #[.bool q, .slice Q us.length cq, .slice Q2 vs.length cq2]) (nd_rat _ _ _ _ _ _ _))
    simp only [size_alloc, List.nil_append, List.cons_append] at h
    exact h
  clear hW
  obtain ⟨gW2, hgW2⟩ : ∃ g, w.heap.size + 1 + 1 = g := ⟨_, rfl⟩
  rw [hgW2] at H_W ⊢
  clear hgW2
  obtain ⟨gW1, hgW1⟩ : ∃ g, w.heap.size + 1 = g := ⟨_, rfl⟩
  rw [hgW1] at H_W ⊢
  clear hgW1
  have neW01 : w.heap.size ≠ gW1 := H_W.apart 0 1 _ _ _ _ _ _ rfl rfl (by decide)
  have neW02 : w.heap.size ≠ gW2 := H_W.apart 0 2 _ _ _ _ _ _ rfl rfl (by decide)
  have neW10 : gW1 ≠ w.heap.size := H_W.apart 1 0 _ _ _ _ _ _ rfl rfl (by decide)
  have neW12 : gW1 ≠ gW2 := H_W.apart 1 2 _ _ _ _ _ _ rfl rfl (by decide)
  have neW20 : gW2 ≠ w.heap.size := H_W.apart 2 0 _ _ _ _ _ _ rfl rfl (by decide)
  have neW21 : gW2 ≠ gW1 := H_W.apart 2 1 _ _ _ _ _ _ rfl rfl (by decide)
  have H_W := Lib.hid H_W
  have k2Wc0 := ((H_W.out.var 2 rfl)).cell 0 rfl
  have k2Wc1 := ((H_W.out.var 2 rfl)).cell 1 rfl
  have k2Wc2 := ((H_W.out.var 2 rfl)).cell 2 rfl
  go_wp2_with fail
  refine (rqsign_ok W q Q Q2 cq cq2 us vs (HU.out.below H_W.out.below) (HW.out.below H_W.out.below) (by omega) (by omega)).mono ?_
  rw [HR0.out]
  rintro e_ w1 ⟨rfl, hB⟩
  have H_w1 := Lib.hid (Mo.call H_W.out hB)
  have k0w1c0 := ((H_w1.out.var 0 rfl)).cell 0 rfl
  have k0w1c1 := ((H_w1.out.var 0 rfl)).cell 1 rfl
  have k0w1c2 := ((H_w1.out.var 0 rfl)).cell 2 rfl
  clear hB
  by_cases h0 : r = 0
  · have e0 : cmpQ r 0 = 0 := by rw [h0]; rfl
    have HE : Hid (upQ r mode x (zv b zs) = false) := by show _ = _; unfold upQ; rw [if_pos h0]
    rw [e0]
    clear h0 e0
    go_wp2_with fail
    go_ret
    exact ⟨by rw [HE.out]; rfl, H_w1.out.below⟩
  · have e0 : (cmpQ r 0 == 0) = false := beq_eq_false_iff_ne.2 (by
      unfold cmpQ
      rw [if_neg h0]
      split <;> decide)
    have HE0 : Hid (upQ r mode x (zv b zs) = rup mode (cmpQ r (mkRat 1 2)) (decide (cmpQ x 0 < 0)) (zv b zs)) := by show _ = _; unfold upQ; rw [if_neg h0]
    clear h0
    go_wp2_with fail
    refine (rqsign_ok w1 p P P2 cp cp2 xs ys (HX.out.below H_w1.out.below) (HY.out.below H_w1.out.below) (by omega) (by omega)).mono ?_
    rw [HX0.out]
    rintro e_ w2 ⟨rfl, hB⟩
    have H_w2 := Lib.hid (Mo.call H_w1.out hB)
    have k2w2c0 := ((H_w2.out.var 2 rfl)).cell 0 rfl
    have k2w2c1 := ((H_w2.out.var 2 rfl)).cell 1 rfl
    have k2w2c2 := ((H_w2.out.var 2 rfl)).cell 2 rfl
    clear hB
    obtain ⟨neg, hneg⟩ : ∃ neg, decide (cmpQ x 0 < 0) = neg := ⟨_, rfl⟩
    have HE1 : Hid (upQ r mode x (zv b zs) = rup mode (cmpQ r (mkRat 1 2)) neg (zv b zs)) := by show _ = _; rw [HE0.out, hneg]
    clear HE0
    rcases (show mode = 6 ∨ mode = 7 ∨ mode = 4 ∨ mode = 5 ∨ mode = 1 ∨ mode = 2 ∨ mode = 3 by omega) with rfl | rfl | rfl | rfl | hmm
    · go_wp2_with fail
      go_ret
      exact ⟨by rw [HE1.out]; rfl, H_w2.out.below⟩
    · go_wp2_with fail
      go_ret
      exact ⟨by rw [HE1.out]; rfl, H_w2.out.below⟩
    · go_wp2_with fail
      go_ret
      exact ⟨by rw [HE1.out]; rfl, H_w2.out.below⟩
    · go_wp2_with fail
      go_ret
      exact ⟨by rw [HE1.out]; rfl, H_w2.out.below⟩
    · have f1 : (mode == 6) = false := beq_eq_false_iff_ne.2 (by omega)
      have f2 : (mode == 7) = false := beq_eq_false_iff_ne.2 (by omega)
      have f3 : (mode == 5) = false := beq_eq_false_iff_ne.2 (by omega)
      have f4 : (mode == 4) = false := beq_eq_false_iff_ne.2 (by omega)
      have HMM := Lib.hid hmm
      clear hmm
      have H_l := Lib.hid ((H_w2.out.lit 1 (by omega) (by omega)).lit' (w2.heap.size + 1) (by rw [size_alloc]) 2 (by omega) (by omega))
      go_wp2_with fail
      refine (rqcmp_ok _ q false Q Q2 _ _ cq cq2 _ _ us vs [1] [2] (HU.out.below H_l.out.below) (HW.out.below H_l.out.below) (H_l.out.rn 0 rfl) (H_l.out.rn 1 rfl) (by omega) (by omega) (by decide) (by decide)).mono ?_
      rw [HR0.out, half_qv]
      rintro e_ w3 ⟨rfl, hB⟩
      have H_w3 := Lib.hid (Mo.call H_l.out hB)
      clear hB
      obtain ⟨half, hh⟩ : ∃ half, cmpQ r (mkRat 1 2) = half := ⟨_, rfl⟩
      rw [hh] at HE1 ⊢
      clear hh
      by_cases hz : half = 0
      · obtain rfl := hz
        rcases HMM.out with rfl | rfl | rfl
        · have HE2 : Hid (upQ r 1 x (zv b zs) = decide (zv b zs % 2 = 1)) := HE1
          clear HE1 HMM
          have k1w3c0 := ((H_w3.out.var 1 rfl)).cell 0 rfl
          have k1w3c1 := ((H_w3.out.var 1 rfl)).cell 1 rfl
          by_cases h0 : zs.length = 0
          · have e1 : decide ((0 : Int) < (zs.length : Int)) = false := decide_eq_false (by omega)
            have e2 : decide (0 < zs.length) = false := decide_eq_false (by omega)
            have HE : Hid (decide (zv b zs % 2 = 1) = false) := by
              show _ = _
              have h1 : V zs = 0 := by rw [List.length_eq_zero_iff.1 h0]; rfl
              refine decide_eq_false ?_
              cases b
              · rw [zv_f, h1]; decide
              · rw [zv_t, h1]; decide
            clear h0
            go_wp2_with fail
            go_ret
            exact ⟨by rw [HE2.out, HE.out]; rfl, H_w3.out.below⟩
          · obtain ⟨ad, rfl, hc⟩ := (HZ.out.below H_w3.out.below).1.2.2 0 (by omega)
            have hc0 : w3.cell? ad = some (.int .u32 (dg zs 0)) := by
              have h : ad.add 0 = ad := by unfold Addr.add; split <;> simp_all
              rw [← h]
              exact hc
            have bx := HZ.out.2 0
            have hm : V zs % 2 = dg zs 0 % 2 := by
              obtain ⟨n, hn⟩ : ∃ n, zs.length = n + 1 := ⟨zs.length - 1, by omega⟩
              unfold V
              rw [hn, S_shift]
              omega
            have HE : Hid (decide (zv b zs % 2 = 1) = (dg zs 0 % 2 == 1)) := by
              show _ = _
              have h2 : zv b zs % 2 = dg zs 0 % 2 := by
                cases b
                · rw [zv_f]; exact hm
                · rw [zv_t]; omega
              rw [h2]
              by_cases h3 : dg zs 0 % 2 = 1
              · rw [decide_eq_true h3, h3]; rfl
              · rw [decide_eq_false h3]; exact (beq_eq_false_iff_ne.2 h3).symm
            have hpos : 0 < zs.length := by omega
            have hpos' : (0 : Int) < (zs.length : Int) := by omega
            have hcl := HZ.out.1.1
            have hcm := HZ.out.1.2.1
            have em : Int.tmod (dg zs 0) 2 = dg zs 0 % 2 := Int.tmod_eq_emod_of_nonneg bx.1
            clear h0 hc hm
            go_wp2_with fail
            go_ret
            refine ⟨?_, H_w3.out.below⟩
            rw [HE2.out, HE.out]
            first | rfl | (rw [← em]; rfl)
        · go_wp2_with fail
          go_ret
          exact ⟨by rw [HE1.out]; rfl, H_w3.out.below⟩
        · go_wp2_with fail
          go_ret
          exact ⟨by rw [HE1.out]; rfl, H_w3.out.below⟩
      · have e1 : (half == 0) = false := beq_eq_false_iff_ne.2 hz
        have HE2 : Hid (upQ r mode x (zv b zs) = decide (0 < half)) := by
          show _ = _
          rw [HE1.out]
          unfold rup
          have := HMM.out
          rw [if_neg (by omega), if_neg (by omega), if_neg (by omega), if_neg (by omega), if_pos hz]
        clear hz
        go_wp2_with fail
        go_ret
        exact ⟨by rw [HE2.out]; rfl, H_w3.out.below⟩

set_option maxHeartbeats 6400000 in
theorem rround0_ok (w : World) (b : Bool) (A B : Option Addr) (c d : Nat) (xs ys : List Int) (hx : RN w A c xs) (hy : RN w B d ys) (hsx : xs.length ≤ 35184372088010) (hsy : ys.length ≤ 35184372088010) (mode : Int) (hm : 1 ≤ mode ∧ mode ≤ 7) :
    Calls Tryz.prog 75 #[.agg #[.bool b, .slice A xs.length c, .slice B ys.length d], .int .i64 0, .int .i64 mode] w (RetDE (rnd (qv b xs ys) mode) w) := by
  have HX := Lib.hid hx
  have HY := Lib.hid hy
  clear hx hy
  go_enter Tryz.func75, Tryz.ntmps75
  obtain ⟨q, hq⟩ : ∃ q, qv b xs ys = q := ⟨_, rfl⟩
  have HQV := Lib.hid hq
  have hle := qlen (b := b) HX.out.2 HY.out.2
  rw [hq] at hle ⊢
  have HLE := Lib.hid hle
  clear hq hle
  go_upto_region 1 with fail
  obtain ⟨W, hW⟩ : ∃ W, W = ((w.alloc (.cells #[.bool b, .slice A xs.length c, .slice B ys.length d] 28)).alloc (.cells #[.bool false, .slice none 0 0, .int .i64 0] 87)) := ⟨_, rfl⟩
  rw [← hW]
  have H_W : Mo w W [(w.heap.size, 28, #[.bool b, .slice A xs.length c, .slice B ys.length d]), (w.heap.size + 1, 87, #[.bool false, .slice none 0 0, .int .i64 0])] [] := by
    rw [hW]
    have h := (((Mo.start w).alloc (t := 28) (cs := #[.bool b, .slice A xs.length c, .slice B ys.length d]) (nd_rat _ _ _ _ _ _ _)).alloc (t := 87) (cs := #[.bool false, .slice none 0 0, .int .i64 0]) (nd_dec _ _ _ _ _))
    simp only [size_alloc, List.nil_append, List.cons_append] at h
    exact h
  clear hW
  obtain ⟨gW1, hgW1⟩ : ∃ g, w.heap.size + 1 = g := ⟨_, rfl⟩
  rw [hgW1] at H_W ⊢
  clear hgW1
  have neW01 : w.heap.size ≠ gW1 := H_W.apart 0 1 _ _ _ _ _ _ rfl rfl (by decide)
  have neW10 : gW1 ≠ w.heap.size := H_W.apart 1 0 _ _ _ _ _ _ rfl rfl (by decide)
  have H_W := Lib.hid H_W
  go_wp2_with fail
  refine (rplaces0_ok W).mono ?_
  rintro e_ W ⟨rfl, rfl⟩
  go_wp2_with fail
  refine (rmode_ok W mode hm).mono ?_
  rintro e_ W ⟨rfl, rfl⟩
  go_upto_region 5 with fail
  go_cut [8] (fun s8 wc => ∃ (g : Nat) (b3 : Bool) (A3 : Option Addr) (c3 : Nat) (x3 : List Int) (B3 : Option Addr) (d3 : Nat) (y3 : List Int), s8 = .pointer (some ⟨g, 0, none⟩) ∧ Hid (b3 = decide (q.num < 0)) ∧ Hid (x3 = limbs q.num.natAbs) ∧ Hid (y3 = limbs q.den) ∧ Hid (Mo w wc [(w.heap.size, 28, #[.bool b, .slice A xs.length c, .slice B ys.length d]), (gW1, 87, #[.bool false, .slice none 0 0, .int .i64 0]), (g, 28, #[.bool b3, .slice A3 x3.length c3, .slice B3 y3.length d3])] [(A3, c3, x3), (B3, d3, y3)]))
  case first =>
    have k0Wc0 := ((H_W.out.var 0 rfl)).cell 0 rfl
    have k0Wc1 := ((H_W.out.var 0 rfl)).cell 1 rfl
    have k0Wc2 := ((H_W.out.var 0 rfl)).cell 2 rfl
    have neW01 : w.heap.size ≠ gW1 := H_W.out.apart 0 1 _ _ _ _ _ _ rfl rfl (by decide)
    have neW10 : gW1 ≠ w.heap.size := H_W.out.apart 1 0 _ _ _ _ _ _ rfl rfl (by decide)
    have H_Wd := Lib.hid H_W.out.drew
    first
    | go_region_held3 (fun w' => w'.cell? ⟨w.heap.size, 0, none⟩ = some (.bool b) ∧ w'.cell? ⟨w.heap.size, 1, none⟩ = some (.slice A xs.length c) ∧ w'.cell? ⟨w.heap.size, 2, none⟩ = some (.slice B ys.length d)) (go_keep)
       (first
        | (go_at_call 107
           refine (rpower0_ok _).mono ?_
           rintro e_ a1 ⟨A1, c1, p1, rfl, HP1, hp1, hB⟩
           have H_a1 := Lib.hid (Mo.num (Mo.call (by first | exact H_Wd.out | exact ((H_Wd.out).alloc' (W.heap.size) rfl (nd_rat false none none 0 0 0 0))) hB) hp1)
           have k0a1c0 := ((H_a1.out.var 0 rfl)).cell 0 rfl
           have k0a1c1 := ((H_a1.out.var 0 rfl)).cell 1 rfl
           have k0a1c2 := ((H_a1.out.var 0 rfl)).cell 2 rfl
           have HV1 : Hid (zv false p1 = 1) := by show _ = _; rw [HP1.out, zv_f, V_limbs]; rfl
           have HL1 : Hid (p1.length ≤ 1) := by show _ ≤ _; rw [HP1.out]; exact limbs_len (m := 1) (by decide)
           try have x0c0a1 := (H_a1.out.var 2 rfl).cell 0 rfl
           try have x0f0a1 := (H_a1.out.var 2 rfl).thaw 0
           try have x0c1a1 := (H_a1.out.var 2 rfl).cell 1 rfl
           try have x0f1a1 := (H_a1.out.var 2 rfl).thaw 1
           try have x0c2a1 := (H_a1.out.var 2 rfl).cell 2 rfl
           try have x0f2a1 := (H_a1.out.var 2 rfl).thaw 2
           try have x0n0a1 := H_a1.out.apart 2 0 _ _ _ _ _ _ rfl rfl (by decide)
           try have x0n1a1 := H_a1.out.apart 2 1 _ _ _ _ _ _ rfl rfl (by decide)
           clear hB hp1)
        | (go_at_call 106
           refine (rwhole_ok _ false A1 c1 p1 (by first | exact (H_a1.out).rn 0 rfl | exact (((H_a1.out).alloc' (a1.heap.size) rfl (nd_rat false none none 0 0 0 0))).rn 0 rfl) (by have := HL1.out; omega)).mono ?_
           rw [HV1.out]
           rintro e_ a2 ⟨b2, A2, c2, x2, B2, d2, y2, rfl, HQ21, HQ22, HQ23, hx2, hy2, hB⟩
           have H_a2 := Lib.hid (Mo.num (Mo.num (Mo.call (by first | exact H_a1.out | exact ((H_a1.out).alloc' (a1.heap.size) rfl (nd_rat false none none 0 0 0 0))) hB) hx2) hy2)
           have k0a2c0 := ((H_a2.out.var 0 rfl)).cell 0 rfl
           have k0a2c1 := ((H_a2.out.var 0 rfl)).cell 1 rfl
           have k0a2c2 := ((H_a2.out.var 0 rfl)).cell 2 rfl
           have HQ2 : Hid (qv b2 x2 y2 = 1) := by show _ = _; rw [HQ21.out, HQ22.out, HQ23.out, qv_norm]; rfl
           have HL2 : Hid (x2.length ≤ 1) := by show _ ≤ _; rw [HQ22.out]; exact limbs_len (m := 1) (by decide)
           have HL2y : Hid (y2.length ≤ 1) := by show _ ≤ _; rw [HQ23.out]; exact limbs_len (m := 1) (by decide)
           try have x0c0a2 := (H_a2.out.var 2 rfl).cell 0 rfl
           try have x0f0a2 := (H_a2.out.var 2 rfl).thaw 0
           try have x0c1a2 := (H_a2.out.var 2 rfl).cell 1 rfl
           try have x0f1a2 := (H_a2.out.var 2 rfl).thaw 1
           try have x0c2a2 := (H_a2.out.var 2 rfl).cell 2 rfl
           try have x0f2a2 := (H_a2.out.var 2 rfl).thaw 2
           try have x0n0a2 := H_a2.out.apart 2 0 _ _ _ _ _ _ rfl rfl (by decide)
           try have x0n1a2 := H_a2.out.apart 2 1 _ _ _ _ _ _ rfl rfl (by decide)
           clear hB hx2 hy2)
        | (go_at_call 37
           refine (rqmul_ok _ b b2 A B A2 B2 c d c2 d2 xs ys x2 y2 (by first | exact HX.out.below (H_a2.out).below | exact HX.out.below (((H_a2.out).alloc' (a2.heap.size) rfl (nd_rat false none none 0 0 0 0))).below) (by first | exact HY.out.below (H_a2.out).below | exact HY.out.below (((H_a2.out).alloc' (a2.heap.size) rfl (nd_rat false none none 0 0 0 0))).below) (by first | exact (H_a2.out).rn 1 rfl | exact (((H_a2.out).alloc' (a2.heap.size) rfl (nd_rat false none none 0 0 0 0))).rn 1 rfl) (by first | exact (H_a2.out).rn 2 rfl | exact (((H_a2.out).alloc' (a2.heap.size) rfl (nd_rat false none none 0 0 0 0))).rn 2 rfl) (by omega) (by omega) (by have := HL2.out; omega) (by have := HL2y.out; omega) (by have := HL2.out; omega) (by have := HL2y.out; omega)).mono ?_
           rintro e_ a3 ⟨b3, A3, c3, x3, B3, d3, y3, rfl, HR1, HR2, HR3, hx3, hy3, hB⟩
           have H_a3 := Lib.hid (Mo.num (Mo.num (Mo.call (by first | exact H_a2.out | exact ((H_a2.out).alloc' (a2.heap.size) rfl (nd_rat false none none 0 0 0 0))) hB) hx3) hy3)
           have k0a3c0 := ((H_a3.out.var 0 rfl)).cell 0 rfl
           have k0a3c1 := ((H_a3.out.var 0 rfl)).cell 1 rfl
           have k0a3c2 := ((H_a3.out.var 0 rfl)).cell 2 rfl
           rw [HQV.out, HQ2.out, Rat.mul_one] at HR1 HR2 HR3
           try have x0c0a3 := (H_a3.out.var 2 rfl).cell 0 rfl
           try have x0f0a3 := (H_a3.out.var 2 rfl).thaw 0
           try have x0c1a3 := (H_a3.out.var 2 rfl).cell 1 rfl
           try have x0f1a3 := (H_a3.out.var 2 rfl).thaw 1
           try have x0c2a3 := (H_a3.out.var 2 rfl).cell 2 rfl
           try have x0f2a3 := (H_a3.out.var 2 rfl).thaw 2
           try have x0n0a3 := H_a3.out.apart 2 0 _ _ _ _ _ _ rfl rfl (by decide)
           try have x0n1a3 := H_a3.out.apart 2 1 _ _ _ _ _ _ rfl rfl (by decide)
           try have p0c := ((((H_a3.out).alloc' (t := 28) (cs := #[.bool false, .slice none 0 0, .slice none 0 0]) (a3.heap.size) rfl (nd_rat _ _ _ _ _ _ _))).var 2 rfl).cell 0 rfl
           try have p0f := ((((H_a3.out).alloc' (t := 28) (cs := #[.bool false, .slice none 0 0, .slice none 0 0]) (a3.heap.size) rfl (nd_rat _ _ _ _ _ _ _))).var 2 rfl).thaw 0
           try have p1c := ((((H_a3.out).alloc' (t := 28) (cs := #[.bool false, .slice none 0 0, .slice none 0 0]) (a3.heap.size) rfl (nd_rat _ _ _ _ _ _ _))).var 2 rfl).cell 1 rfl
           try have p1f := ((((H_a3.out).alloc' (t := 28) (cs := #[.bool false, .slice none 0 0, .slice none 0 0]) (a3.heap.size) rfl (nd_rat _ _ _ _ _ _ _))).var 2 rfl).thaw 1
           try have p2c := ((((H_a3.out).alloc' (t := 28) (cs := #[.bool false, .slice none 0 0, .slice none 0 0]) (a3.heap.size) rfl (nd_rat _ _ _ _ _ _ _))).var 2 rfl).cell 2 rfl
           try have p2f := ((((H_a3.out).alloc' (t := 28) (cs := #[.bool false, .slice none 0 0, .slice none 0 0]) (a3.heap.size) rfl (nd_rat _ _ _ _ _ _ _))).var 2 rfl).thaw 2
           try have pn0 := (((H_a3.out).alloc' (t := 28) (cs := #[.bool false, .slice none 0 0, .slice none 0 0]) (a3.heap.size) rfl (nd_rat _ _ _ _ _ _ _))).apart 2 0 _ _ _ _ _ _ rfl rfl (by decide)
           try have pn1 := (((H_a3.out).alloc' (t := 28) (cs := #[.bool false, .slice none 0 0, .slice none 0 0]) (a3.heap.size) rfl (nd_rat _ _ _ _ _ _ _))).apart 2 1 _ _ _ _ _ _ rfl rfl (by decide)
           clear hB hx3 hy3))
    | fail
    all_goals (go_wp2_with fail; go_meet)
    · exact ⟨_, b3, A3, c3, x3, B3, d3, y3, rfl, HR1, HR2, HR3, (((H_a3.out.sub [3, 4])).alloc' (t := 28) (cs := #[.bool b3, .slice A3 x3.length c3, .slice B3 y3.length d3]) (a3.heap.size) rfl (nd_rat _ _ _ _ _ _ _))⟩
    · exact ⟨_, b3, A3, c3, x3, B3, d3, y3, rfl, HR1, HR2, HR3, (((((((H_a3.out.sub [3, 4])).set 2 (j := 0) (v := .bool b3) (cs' := #[.bool b3, .slice none 0 0, .slice none 0 0]) rfl rfl (nd_rat _ _ _ _ _ _ _))).set 2 (j := 1) (v := .slice A3 x3.length c3) (cs' := #[.bool b3, .slice A3 x3.length c3, .slice none 0 0]) rfl rfl (nd_rat _ _ _ _ _ _ _))).set 2 (j := 2) (v := .slice B3 y3.length d3) (cs' := #[.bool b3, .slice A3 x3.length c3, .slice B3 y3.length d3]) rfl rfl (nd_rat _ _ _ _ _ _ _))⟩
    · exact ⟨_, b3, A3, c3, x3, B3, d3, y3, rfl, HR1, HR2, HR3, (((((((H_a3.out.sub [3, 4])).set 2 (j := 0) (v := .bool b3) (cs' := #[.bool b3, .slice none 0 0, .slice none 0 0]) rfl rfl (nd_rat _ _ _ _ _ _ _))).set 2 (j := 1) (v := .slice A3 x3.length c3) (cs' := #[.bool b3, .slice A3 x3.length c3, .slice none 0 0]) rfl rfl (nd_rat _ _ _ _ _ _ _))).set 2 (j := 2) (v := .slice B3 y3.length d3) (cs' := #[.bool b3, .slice A3 x3.length c3, .slice B3 y3.length d3]) rfl rfl (nd_rat _ _ _ _ _ _ _))⟩
    · exact ⟨_, b3, A3, c3, x3, B3, d3, y3, rfl, HR1, HR2, HR3, (((((((H_a3.out.sub [3, 4])).set 2 (j := 0) (v := .bool b3) (cs' := #[.bool b3, .slice none 0 0, .slice none 0 0]) rfl rfl (nd_rat _ _ _ _ _ _ _))).set 2 (j := 1) (v := .slice A3 x3.length c3) (cs' := #[.bool b3, .slice A3 x3.length c3, .slice none 0 0]) rfl rfl (nd_rat _ _ _ _ _ _ _))).set 2 (j := 2) (v := .slice B3 y3.length d3) (cs' := #[.bool b3, .slice A3 x3.length c3, .slice B3 y3.length d3]) rfl rfl (nd_rat _ _ _ _ _ _ _))⟩
  case rest =>
    obtain ⟨g, b3, A3, c3, x3, B3, d3, y3, rfl, HR1, HR2, HR3, H_wc⟩ := hcut
    have HQ3 : Hid (qv b3 x3 y3 = q) := by show _ = _; rw [HR1.out, HR2.out, HR3.out]; exact qv_norm _
    have HLX : Hid (x3.length ≤ xs.length) := by show _ ≤ _; rw [HR2.out]; exact HLE.out.1
    have HLY : Hid (y3.length ≤ ys.length + 1) := by show _ ≤ _; rw [HR3.out]; exact HLE.out.2
    obtain ⟨F, hF⟩ : ∃ F, q.num / (q.den : Int) = F := ⟨_, rfl⟩
    have HFL : Hid ((limbs F.natAbs).length ≤ xs.length) := by
      show _ ≤ _
      rw [← hF]
      exact Nat.le_trans (nat_le_len (Int.natAbs_ediv_le_natAbs _ _)) HLE.out.1
    have hup := upQ_rnd q mode
    rw [hF] at hup
    have HUP := Lib.hid hup
    have HF := Lib.hid hF
    clear hF hup
    have k2wcc0 := ((H_wc.out.var 2 rfl)).cell 0 rfl
    have k2wcc1 := ((H_wc.out.var 2 rfl)).cell 1 rfl
    have k2wcc2 := ((H_wc.out.var 2 rfl)).cell 2 rfl
    go_wp2_with fail
    refine (rqfloor_ok wc b3 A3 B3 c3 d3 x3 y3 (H_wc.out.rn 0 rfl) (H_wc.out.rn 1 rfl) (by have := HLX.out; omega) (by have := HLY.out; omega)).mono ?_
    rw [HQ3.out, HF.out]
    rintro e_ w4 ⟨b4, A4, c4, z4, rfl, HB4, HZ4, hz4, hB⟩
    have H_w4 := Lib.hid (Mo.num (Mo.call H_wc.out hB) hz4)
    have HE4 : Hid (zv b4 z4 = F) := by show _ = _; rw [HB4.out, HZ4.out]; exact zv_norm _
    have HL4 : Hid (z4.length ≤ xs.length) := by show _ ≤ _; rw [HZ4.out]; exact HFL.out
    clear hB hz4
    go_wp2_with fail
    refine (rinorm_ok w4 b4 A4 c4 z4 (H_w4.out.rn 2 rfl) (by have := HL4.out; omega)).mono ?_
    rw [HE4.out]
    rintro e_ w5 ⟨b5, A5, c5, z5, rfl, HB5, HZ5, hz5, hB⟩
    have H_w5 := Lib.hid (Mo.num (Mo.call H_w4.out hB) hz5)
    have HE5 : Hid (zv b5 z5 = F) := by show _ = _; rw [HB5.out, HZ5.out]; exact zv_norm _
    have HL5 : Hid (z5.length ≤ xs.length) := by show _ ≤ _; rw [HZ5.out]; exact HFL.out
    clear hB hz5
    go_upto_region 7 with fail
    obtain ⟨T, hT⟩ : ∃ T, T = w5.alloc (.cells #[.bool b5, .slice A5 z5.length c5] 26) := ⟨_, rfl⟩
    rw [← hT]
    have H_T : Hid (Mo w T _ _) := Lib.hid (by rw [hT]; exact H_w5.out.alloc (t := 26) (cs := #[.bool b5, .slice A5 z5.length c5]) (nd_int _ _ _ _))
    clear hT
    have k2Tc0 := ((H_T.out.var 2 rfl)).cell 0 rfl
    have k2Tc1 := ((H_T.out.var 2 rfl)).cell 1 rfl
    have k2Tc2 := ((H_T.out.var 2 rfl)).cell 2 rfl
    have k3Tc0 := ((H_T.out.var 3 rfl)).cell 0 rfl
    have k3Tc1 := ((H_T.out.var 3 rfl)).cell 1 rfl
    have H_Td := Lib.hid H_T.out.drew
    first
    | go_region_held3 (fun w' => w'.cell? ⟨g, 0, none⟩ = some (.bool b3) ∧ w'.cell? ⟨g, 1, none⟩ = some (.slice A3 x3.length c3) ∧ w'.cell? ⟨g, 2, none⟩ = some (.slice B3 y3.length d3) ∧ w'.cell? ⟨w5.heap.size, 0, none⟩ = some (.bool b5) ∧ w'.cell? ⟨w5.heap.size, 1, none⟩ = some (.slice A5 z5.length c5)) (go_keep)
       (first
        | (go_at_call 106
           refine (rwhole_ok T.drew b5 A5 c5 z5 (H_Td.out.rn 3 rfl) (by have := HL5.out; omega)).mono ?_
           rw [HE5.out]
           rintro e_ u1 ⟨b6, A6, c6, x6, B6, d6, y6, rfl, HQ61, HQ62, HQ63, hx6, hy6, hB⟩
           have H_u1 := Lib.hid (Mo.num (Mo.num (Mo.call H_Td.out hB) hx6) hy6)
           have k2u1c0 := ((H_u1.out.var 2 rfl)).cell 0 rfl
           have k2u1c1 := ((H_u1.out.var 2 rfl)).cell 1 rfl
           have k2u1c2 := ((H_u1.out.var 2 rfl)).cell 2 rfl
           have k3u1c0 := ((H_u1.out.var 3 rfl)).cell 0 rfl
           have k3u1c1 := ((H_u1.out.var 3 rfl)).cell 1 rfl
           have HQ6 : Hid (qv b6 x6 y6 = ((F : Int) : Rat)) := by show _ = _; rw [HQ61.out, HQ62.out, HQ63.out, qv_norm]
           have HL6 : Hid (x6.length ≤ xs.length) := by show _ ≤ _; rw [HQ62.out, Rat.num_intCast]; exact HFL.out
           have HL6y : Hid (y6.length ≤ 1) := by show _ ≤ _; rw [HQ63.out, Rat.den_intCast]; exact limbs_len (m := 1) (by decide)
           clear hB hx6 hy6)
        | (go_at_call 38
           refine (rqsubV_ok u1 b3 b6 A3 B3 A6 B6 c3 d3 c6 d6 x3 y3 x6 y6 (H_u1.out.rn 0 rfl) (H_u1.out.rn 1 rfl) (H_u1.out.rn 4 rfl) (H_u1.out.rn 5 rfl) (by have := HLX.out; omega) (by have := HLY.out; omega) (by have := HL6.out; omega) (by have := HL6y.out; omega) (by have := HLX.out; have := HL6y.out; omega) (by have := HL6.out; have := HLY.out; omega) (by have := HL6y.out; have := HLY.out; omega) (by rw [HQ6.out, (nq_parts HR1.out HR2.out HR3.out).1, Rat.den_intCast, show ((1 : Nat) : Int) = 1 from rfl, Int.mul_one]; exact Nat.le_trans HLE.out.1 (by omega)) (by rw [HQ6.out, (nq_parts HR1.out HR2.out HR3.out).2, Rat.num_intCast, ← HF.out]; exact Nat.le_trans (flden_len q HLE.out.1 HLE.out.2) (by omega))).mono ?_
           rw [HQ3.out, HQ6.out]
           rintro e_ u2 ⟨b7, A7, c7, x7, B7, d7, y7, rfl, HQ71, HQ72, HQ73, hx7, hy7, hB⟩
           have H_u2 := Lib.hid (Mo.num (Mo.num (Mo.call H_u1.out hB) hx7) hy7)
           have k2u2c0 := ((H_u2.out.var 2 rfl)).cell 0 rfl
           have k2u2c1 := ((H_u2.out.var 2 rfl)).cell 1 rfl
           have k2u2c2 := ((H_u2.out.var 2 rfl)).cell 2 rfl
           have k3u2c0 := ((H_u2.out.var 3 rfl)).cell 0 rfl
           have k3u2c1 := ((H_u2.out.var 3 rfl)).cell 1 rfl
           have HQ7 : Hid (qv b7 x7 y7 = q - ((F : Int) : Rat)) := qv_is2 HQ71.out HQ72.out HQ73.out
           have hco := cut_off q
           rw [HF.out] at hco
           have hms := mk_small (n := q.num % (q.den : Int)) (d := q.den) q.den_nz
           have hmm : (q.num % (q.den : Int)).natAbs ≤ q.den := by have h1 := Int.emod_nonneg q.num (show (q.den : Int) ≠ 0 from by have := q.den_nz; omega); have h2 := Int.emod_lt_of_pos q.num (show 0 < (q.den : Int) from by have := q.den_nz; omega); omega
           have HL7 : Hid (x7.length ≤ ys.length + 1) := by show _ ≤ _; rw [HQ72.out, hco]; exact Nat.le_trans (nat_le_len (Nat.le_trans hms.1 hmm)) HLE.out.2
           have HL7y : Hid (y7.length ≤ ys.length + 1) := by show _ ≤ _; rw [HQ73.out, hco]; exact Nat.le_trans (nat_le_len hms.2) HLE.out.2
           clear hco hms hmm
           clear hB hx7 hy7)
        | (go_at_call 109
           refine (rup_ok u2 b3 b7 A3 B3 A7 B7 c3 d3 c7 d7 x3 y3 x7 y7 (H_u2.out.rn 0 rfl) (H_u2.out.rn 1 rfl) (H_u2.out.rn 6 rfl) (H_u2.out.rn 7 rfl) b5 A5 c5 z5 (H_u2.out.rn 3 rfl) mode hm (by have := HLX.out; omega) (by have := HLY.out; omega) (by have := HL7.out; omega) (by have := HL7y.out; omega)).mono ?_
           rw [HQ7.out, HQ3.out, HE5.out]
           rintro e_ u3 ⟨rfl, hB⟩
           have H_u3 := Lib.hid (Mo.call H_u2.out hB)
           have k2u3c0 := ((H_u3.out.var 2 rfl)).cell 0 rfl
           have k2u3c1 := ((H_u3.out.var 2 rfl)).cell 1 rfl
           have k2u3c2 := ((H_u3.out.var 2 rfl)).cell 2 rfl
           have k3u3c0 := ((H_u3.out.var 3 rfl)).cell 0 rfl
           have k3u3c1 := ((H_u3.out.var 3 rfl)).cell 1 rfl
           have k3u3f0 := ((H_u3.out.var 3 rfl)).thaw 0
           have k3u3f1 := ((H_u3.out.var 3 rfl)).thaw 1
           have k1u3c0 := ((H_u3.out.var 1 rfl)).cell 0 rfl
           have k1u3c1 := ((H_u3.out.var 1 rfl)).cell 1 rfl
           have k1u3c2 := ((H_u3.out.var 1 rfl)).cell 2 rfl
           have k1u3f0 := ((H_u3.out.var 1 rfl)).thaw 0
           have k1u3f1 := ((H_u3.out.var 1 rfl)).thaw 1
           have k1u3f2 := ((H_u3.out.var 1 rfl)).thaw 2
           clear hB))
    | fail
    obtain ⟨up, hu⟩ : ∃ up, upQ (q - ((F : Int) : Rat)) mode q F = up := ⟨_, rfl⟩
    have hrn : rnd q mode = if up then F + 1 else F := by rw [HUP.out, hu]
    rw [hu]
    have HRN := Lib.hid hrn
    clear hu hrn
    cases up
    · rw [if_neg (by decide)] at HRN
      go_wp2_with fail
      have hr0 := (H_u3.out).set 1 (j := 0) (v := .bool b5) (cs' := #[.bool b5, .slice none 0 0, .int .i64 0]) rfl rfl (nd_dec _ _ _ _ _)
      have hr1 := (hr0).set 1 (j := 1) (v := .slice A5 z5.length c5) (cs' := #[.bool b5, .slice A5 z5.length c5, .int .i64 0]) rfl rfl (nd_dec _ _ _ _ _)
      have hr2 := (hr1).set 1 (j := 2) (v := .int .i64 0) (cs' := #[.bool b5, .slice A5 z5.length c5, .int .i64 0]) rfl rfl (nd_dec _ _ _ _ _)
      have v3 : Vr (((u3.setCell ⟨gW1, 0, none⟩ (.bool b5)).setCell ⟨gW1, 1, none⟩ (.slice A5 z5.length c5)).setCell ⟨gW1, 2, none⟩ (.int .i64 0)) gW1 87 #[.bool b5, .slice A5 z5.length c5, .int .i64 0] := hr2.var 1 rfl
      refine bodyPost_ret (v := .tuple #[.agg #[.bool b5, .slice A5 z5.length c5, .int .i64 0], .int .i64 0]) (by simp [results, Tryz.results75, go_sem, v3.cell 0 rfl, v3.cell 1 rfl, v3.cell 2 rfl]) rfl ?_
      exact ⟨b5, A5, c5, z5, rfl, by rw [HRN.out]; exact HB5, by rw [HRN.out]; exact HZ5, hr2.rn 3 rfl, hr2.below⟩
    · rw [if_pos rfl] at HRN
      have H_l := Lib.hid (H_u3.out.lit 1 (by omega) (by omega))
      go_wp2_with fail
      refine (riadd_ok _ b5 false A5 _ c5 _ z5 [1] (H_l.out.rn 3 rfl) (H_l.out.rn 8 rfl) (by have := HL5.out; omega) (by decide)).mono ?_
      rw [HE5.out, zv_f, V_one]
      rintro e_ u4 ⟨b8, A8, c8, z8, rfl, HB8, HZ8, hz8, hB⟩
      have H_u4 := Lib.hid (Mo.num (Mo.call H_l.out hB) hz8)
      clear hB hz8
      have k1u4c0 := ((H_u4.out.var 1 rfl)).cell 0 rfl
      have k1u4c1 := ((H_u4.out.var 1 rfl)).cell 1 rfl
      have k1u4c2 := ((H_u4.out.var 1 rfl)).cell 2 rfl
      have k1u4f0 := ((H_u4.out.var 1 rfl)).thaw 0
      have k1u4f1 := ((H_u4.out.var 1 rfl)).thaw 1
      have k1u4f2 := ((H_u4.out.var 1 rfl)).thaw 2
      have k3u4c0 := ((H_u4.out.var 3 rfl)).cell 0 rfl
      have k3u4c1 := ((H_u4.out.var 3 rfl)).cell 1 rfl
      have k3u4f0 := ((H_u4.out.var 3 rfl)).thaw 0
      have k3u4f1 := ((H_u4.out.var 3 rfl)).thaw 1
      have neu410 : gW1 ≠ w.heap.size := H_u4.out.apart 1 0 _ _ _ _ _ _ rfl rfl (by decide)
      have neu412 : gW1 ≠ g := H_u4.out.apart 1 2 _ _ _ _ _ _ rfl rfl (by decide)
      have neu413 : gW1 ≠ w5.heap.size := H_u4.out.apart 1 3 _ _ _ _ _ _ rfl rfl (by decide)
      have neu430 : w5.heap.size ≠ w.heap.size := H_u4.out.apart 3 0 _ _ _ _ _ _ rfl rfl (by decide)
      have neu431 : w5.heap.size ≠ gW1 := H_u4.out.apart 3 1 _ _ _ _ _ _ rfl rfl (by decide)
      have neu432 : w5.heap.size ≠ g := H_u4.out.apart 3 2 _ _ _ _ _ _ rfl rfl (by decide)
      go_upto_region 9 with fail
      obtain ⟨Z, hZ⟩ : ∃ Z, Z = ((u4.setCell ⟨w5.heap.size, 0, none⟩ (.bool b8)).setCell ⟨w5.heap.size, 1, none⟩ (.slice A8 z8.length c8)) := ⟨_, rfl⟩
      rw [← hZ]
      have H_Z : Hid (Mo w Z _ _) := Lib.hid (by rw [hZ]; exact (H_u4.out.set 3 (j := 0) (v := .bool b8) (cs' := #[.bool b8, .slice A5 z5.length c5]) rfl rfl (nd_int _ _ _ _)).set 3 (j := 1) (v := .slice A8 z8.length c8) (cs' := #[.bool b8, .slice A8 z8.length c8]) rfl rfl (nd_int _ _ _ _))
      clear hZ
      have k1Zc0 := ((H_Z.out.var 1 rfl)).cell 0 rfl
      have k1Zc1 := ((H_Z.out.var 1 rfl)).cell 1 rfl
      have k1Zc2 := ((H_Z.out.var 1 rfl)).cell 2 rfl
      have k1Zf0 := ((H_Z.out.var 1 rfl)).thaw 0
      have k1Zf1 := ((H_Z.out.var 1 rfl)).thaw 1
      have k1Zf2 := ((H_Z.out.var 1 rfl)).thaw 2
      have k3Zc0 := ((H_Z.out.var 3 rfl)).cell 0 rfl
      have k3Zc1 := ((H_Z.out.var 3 rfl)).cell 1 rfl
      go_wp2_with fail
      have hr0 := (H_Z.out).set 1 (j := 0) (v := .bool b8) (cs' := #[.bool b8, .slice none 0 0, .int .i64 0]) rfl rfl (nd_dec _ _ _ _ _)
      have hr1 := (hr0).set 1 (j := 1) (v := .slice A8 z8.length c8) (cs' := #[.bool b8, .slice A8 z8.length c8, .int .i64 0]) rfl rfl (nd_dec _ _ _ _ _)
      have hr2 := (hr1).set 1 (j := 2) (v := .int .i64 0) (cs' := #[.bool b8, .slice A8 z8.length c8, .int .i64 0]) rfl rfl (nd_dec _ _ _ _ _)
      have v3 : Vr (((Z.setCell ⟨gW1, 0, none⟩ (.bool b8)).setCell ⟨gW1, 1, none⟩ (.slice A8 z8.length c8)).setCell ⟨gW1, 2, none⟩ (.int .i64 0)) gW1 87 #[.bool b8, .slice A8 z8.length c8, .int .i64 0] := hr2.var 1 rfl
      refine bodyPost_ret (v := .tuple #[.agg #[.bool b8, .slice A8 z8.length c8, .int .i64 0], .int .i64 0]) (by simp [results, Tryz.results75, go_sem, v3.cell 0 rfl, v3.cell 1 rfl, v3.cell 2 rfl]) rfl ?_
      exact ⟨b8, A8, c8, z8, rfl, by rw [HRN.out]; exact HB8, by rw [HRN.out]; exact HZ8, hr2.rn 9 rfl, hr2.below⟩

set_option maxHeartbeats 1600000 in
theorem rinteger_ok (w : World) (b : Bool) (A B : Option Addr) (c d : Nat) (xs ys : List Int) (hx : RN w A c xs) (hy : RN w B d ys) (hsx : xs.length ≤ 35184372088010) (hsy : ys.length ≤ 35184372088010) (mode : Int) (hm : 1 ≤ mode ∧ mode ≤ 7) :
    Calls Tryz.prog 46 #[.agg #[.bool b, .slice A xs.length c, .slice B ys.length d], .int .i64 mode] w (RetIE (rnd (qv b xs ys) mode) w) := by
  have HX := Lib.hid hx
  have HY := Lib.hid hy
  clear hx hy
  go_enter Tryz.func46, Tryz.ntmps46
  go_upto_region 1 with fail
  obtain ⟨W, hW⟩ : ∃ W, W = ((w.alloc (.cells #[.bool b, .slice A xs.length c, .slice B ys.length d] 28)).alloc (.cells #[.bool false, .slice none 0 0] 26)) := ⟨_, rfl⟩
  rw [← hW]
  have H_W : Mo w W [(w.heap.size, 28, #[.bool b, .slice A xs.length c, .slice B ys.length d]), (w.heap.size + 1, 26, #[.bool false, .slice none 0 0])] [] := by
    rw [hW]
    have h := (((Mo.start w).alloc (t := 28) (cs := #[.bool b, .slice A xs.length c, .slice B ys.length d]) (nd_rat _ _ _ _ _ _ _)).alloc (t := 26) (cs := #[.bool false, .slice none 0 0]) (nd_int _ _ _ _))
    simp only [size_alloc, List.nil_append, List.cons_append] at h
    exact h
  clear hW
  obtain ⟨gW1, hgW1⟩ : ∃ g, w.heap.size + 1 = g := ⟨_, rfl⟩
  rw [hgW1] at H_W ⊢
  clear hgW1
  have neW01 : w.heap.size ≠ gW1 := H_W.apart 0 1 _ _ _ _ _ _ rfl rfl (by decide)
  have neW10 : gW1 ≠ w.heap.size := H_W.apart 1 0 _ _ _ _ _ _ rfl rfl (by decide)
  have H_W := Lib.hid H_W
  have k0Wc0 := ((H_W.out.var 0 rfl)).cell 0 rfl
  have k0Wc1 := ((H_W.out.var 0 rfl)).cell 1 rfl
  have k0Wc2 := ((H_W.out.var 0 rfl)).cell 2 rfl
  go_wp2_with fail
  refine (rround0_ok W b A B c d xs ys (HX.out.below H_W.out.below) (HY.out.below H_W.out.below) hsx hsy mode hm).mono ?_
  rintro e_ w1 ⟨b1, A1, c1, z, rfl, HB1, HZ1, hz, hB⟩
  have H_w1 := Lib.hid (Mo.num (Mo.call H_W.out hB) hz)
  clear hB hz
  go_upto_region 2 with fail
  obtain ⟨T, hT⟩ : ∃ T, T = w1.alloc (.cells #[.bool b1, .slice A1 z.length c1, .int .i64 0] 87) := ⟨_, rfl⟩
  rw [← hT]
  have H_T : Hid (Mo w T _ _) := Lib.hid (by rw [hT]; exact H_w1.out.alloc (t := 87) (cs := #[.bool b1, .slice A1 z.length c1, .int .i64 0]) (nd_dec _ _ _ _ _))
  clear hT
  have k2Tc0 := ((H_T.out.var 2 rfl)).cell 0 rfl
  have k2Tc1 := ((H_T.out.var 2 rfl)).cell 1 rfl
  have k2Tc2 := ((H_T.out.var 2 rfl)).cell 2 rfl
  have k1Tc0 := ((H_T.out.var 1 rfl)).cell 0 rfl
  have k1Tc1 := ((H_T.out.var 1 rfl)).cell 1 rfl
  have k1Tf0 := ((H_T.out.var 1 rfl)).thaw 0
  have k1Tf1 := ((H_T.out.var 1 rfl)).thaw 1
  have neT10 : gW1 ≠ w.heap.size := H_T.out.apart 1 0 _ _ _ _ _ _ rfl rfl (by decide)
  have neT12 : gW1 ≠ w1.heap.size := H_T.out.apart 1 2 _ _ _ _ _ _ rfl rfl (by decide)
  go_wp2_with fail
  have hz1 := H_T.out.set 1 (j := 0) (v := .bool b1) (cs' := #[.bool b1, .slice none 0 0]) rfl rfl (nd_int _ _ _ _)
  have hz2 := hz1.set 1 (j := 1) (v := .slice A1 z.length c1) (cs' := #[.bool b1, .slice A1 z.length c1]) rfl rfl (nd_int _ _ _ _)
  have v3 : Vr ((T.setCell ⟨gW1, 0, none⟩ (.bool b1)).setCell ⟨gW1, 1, none⟩ (.slice A1 z.length c1)) gW1 26 #[.bool b1, .slice A1 z.length c1] := hz2.var 1 rfl
  refine bodyPost_ret (v := .tuple #[.agg #[.bool b1, .slice A1 z.length c1], .int .i64 0]) (by simp [results, Tryz.results46, go_sem, v3.cell 0 rfl, v3.cell 1 rfl]) rfl ?_
  exact ⟨b1, A1, c1, z, rfl, HB1, HZ1, hz2.rn 0 rfl, hz2.below⟩

end Go.Proofs.YtocpncjmcaecoaaGreat.M
