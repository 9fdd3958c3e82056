/- Integers of the reference: division by a number above 0. -/
import Derived.Test.YtocpncjmcaecoaaGreatRefIntB
namespace Go.Proofs.YtocpncjmcaecoaaGreat.M
set_option maxRecDepth 10000
open Go.RowKit
set_option linter.unusedVariables false
set_option linter.unusedSimpArgs false
theorem nat_add_len2 (a b : Nat) : (limbs (a + b)).length ≤ (limbs a).length + (limbs b).length + 1 := by
  have h := add_len (limbs_nf a).1 (limbs_nf b).1
  rwa [V_limbs, V_limbs, Int.toNat_natCast, Int.toNat_natCast] at h
theorem z9_len {b : Bool} {z9 z7 : List Int} {K : Int} {n : Nat} (h1 : z9 = limbs K.natAbs) (h2 : zv b z7 - 1 = K) (h3 : Lim z7) (h4 : z7.length ≤ n) : z9.length ≤ n + 2 := by
  rw [h1, ← h2]
  refine Nat.le_trans (nat_le_len (b := (V z7).toNat + 1) ?_) (Nat.le_trans (nat_add_len2 _ _) ?_)
  · have := zv_abs b h3
    omega
  · have k1 := limbs_le_len h3 (Nat.le_refl _)
    have k2 : (limbs 1).length ≤ 1 := limbs_len (m := 1) (by decide)
    omega
theorem divmul_len {b : Bool} {xs ys : List Int} (hx : Lim xs) (hy : Lim ys) (hp : 0 < V ys) {K : Int} (hK : K = V ys * (zv b xs / V ys)) : (limbs K.natAbs).length ≤ max xs.length ys.length + 1 := by
  refine limbs_len ?_
  have h1 := zv_abs b hx
  have h3 := V_lt hx
  have h4 := V_lt hy
  have h5 := V_nonneg hx
  have h7 := pw_le (Nat.le_max_left xs.length ys.length)
  have h8 := pw_le (Nat.le_max_right xs.length ys.length)
  have e1 := Int.emod_def (zv b xs) (V ys)
  have e2 := Int.emod_nonneg (zv b xs) (show V ys ≠ 0 by omega)
  have e3 := Int.emod_lt_of_pos (zv b xs) hp
  rw [pw_succ]
  omega
set_option maxHeartbeats 3200000 in
theorem ridivMod_ok (w : World) (b1 : Bool) (A B : Option Addr) (c d : Nat) (xs ys : List Int) (hx : RN w A c xs) (hy : RN w B d ys) (hsx : xs.length ≤ 35184372088800) (hsy : ys.length ≤ 35184372088800) (hp : 0 < V ys) :
    Calls Tryz.prog 126 #[.agg #[.bool b1, .slice A xs.length c], .agg #[.bool false, .slice B ys.length d]] w (RetII (zv b1 xs / V ys) (zv b1 xs % V ys) w) := by
  have HX := Lib.hid hx
  have HY := Lib.hid hy
  have HP := Lib.hid hp
  clear hx hy hp
  go_enter Tryz.func126, Tryz.ntmps126
  go_upto_region 1 with fail
  obtain ⟨W, hW⟩ : ∃ W, W = ((((w.alloc (.cells #[.bool b1, .slice A xs.length c] 26)).alloc (.cells #[.bool false, .slice B ys.length d] 26)).alloc (.cells #[.bool false, .slice none 0 0] 26)).alloc (.cells #[.bool false, .slice none 0 0] 26)) := ⟨_, rfl⟩
  rw [← hW]
  have H_W : Mo w W [(w.heap.size, 26, #[.bool b1, .slice A xs.length c]), (w.heap.size + 1, 26, #[.bool false, .slice B ys.length d]), (w.heap.size + 1 + 1, 26, #[.bool false, .slice none 0 0]), (w.heap.size + 1 + 1 + 1, 26, #[.bool false, .slice none 0 0])] [] := by
    rw [hW]
    have h := (((((Mo.start w).alloc (t := 26) (cs := #[.bool b1, .slice A xs.length c]) (nd_int _ _ _ _)).alloc (t := 26) (cs := #[.bool false, .slice B ys.length d]) (nd_int _ _ _ _)).alloc (t := 26) (cs := #[.bool false, .slice none 0 0]) (nd_int _ _ _ _)).alloc (t := 26) (cs := #[.bool false, .slice none 0 0]) (nd_int _ _ _ _))
    simp only [size_alloc, List.nil_append, List.cons_append] at h
    exact h
  clear hW
  obtain ⟨gW3, hgW3⟩ : ∃ g, w.heap.size + 1 + 1 + 1 = g := ⟨_, rfl⟩
  rw [hgW3] at H_W ⊢
  clear hgW3
  obtain ⟨gW2, hgW2⟩ : ∃ g, w.heap.size + 1 + 1 = g := ⟨_, rfl⟩
  rw [hgW2] at H_W ⊢
  clear hgW2
  obtain ⟨gW1, hgW1⟩ : ∃ g, w.heap.size + 1 = g := ⟨_, rfl⟩
  rw [hgW1] at H_W ⊢
  clear hgW1
  have neW01 : w.heap.size ≠ gW1 := H_W.apart 0 1 _ _ _ _ _ _ rfl rfl (by decide)
  have neW02 : w.heap.size ≠ gW2 := H_W.apart 0 2 _ _ _ _ _ _ rfl rfl (by decide)
  have neW03 : w.heap.size ≠ gW3 := H_W.apart 0 3 _ _ _ _ _ _ rfl rfl (by decide)
  have neW10 : gW1 ≠ w.heap.size := H_W.apart 1 0 _ _ _ _ _ _ rfl rfl (by decide)
  have neW12 : gW1 ≠ gW2 := H_W.apart 1 2 _ _ _ _ _ _ rfl rfl (by decide)
  have neW13 : gW1 ≠ gW3 := H_W.apart 1 3 _ _ _ _ _ _ rfl rfl (by decide)
  have neW20 : gW2 ≠ w.heap.size := H_W.apart 2 0 _ _ _ _ _ _ rfl rfl (by decide)
  have neW21 : gW2 ≠ gW1 := H_W.apart 2 1 _ _ _ _ _ _ rfl rfl (by decide)
  have neW23 : gW2 ≠ gW3 := H_W.apart 2 3 _ _ _ _ _ _ rfl rfl (by decide)
  have neW30 : gW3 ≠ w.heap.size := H_W.apart 3 0 _ _ _ _ _ _ rfl rfl (by decide)
  have neW31 : gW3 ≠ gW1 := H_W.apart 3 1 _ _ _ _ _ _ rfl rfl (by decide)
  have neW32 : gW3 ≠ gW2 := H_W.apart 3 2 _ _ _ _ _ _ rfl rfl (by decide)
  have H_W := Lib.hid H_W
  have k0Wc0 := ((H_W.out.var 0 rfl)).cell 0 rfl
  have k0Wc1 := ((H_W.out.var 0 rfl)).cell 1 rfl
  have k1Wc0 := ((H_W.out.var 1 rfl)).cell 0 rfl
  have k1Wc1 := ((H_W.out.var 1 rfl)).cell 1 rfl
  go_wp2_with fail
  refine (rinorm_ok W b1 A c xs (HX.out.below H_W.out.below) (by omega)).mono ?_
  rintro e_ w1 ⟨b3, A3, c3, x, rfl, HB3, HX3, hx3, hB⟩
  have H_w1 := Lib.hid (Mo.num (Mo.call H_W.out hB) hx3)
  clear hB hx3
  go_upto_region 2 with fail
  obtain ⟨T1, hT1⟩ : ∃ T1, T1 = w1.alloc (.cells #[.bool b3, .slice A3 x.length c3] 26) := ⟨_, rfl⟩
  rw [← hT1]
  have H_T1 : Hid (Mo w T1 _ _) := Lib.hid (by rw [hT1]; exact H_w1.out.alloc (t := 26) (cs := #[.bool b3, .slice A3 x.length c3]) (nd_int _ _ _ _))
  clear hT1
  have k1T1c0 := ((H_T1.out.var 1 rfl)).cell 0 rfl
  have k1T1c1 := ((H_T1.out.var 1 rfl)).cell 1 rfl
  go_wp2_with fail
  refine (rinorm_ok T1 false B d ys (HY.out.below H_T1.out.below) (by omega)).mono ?_
  rintro e_ w2 ⟨b4, A4, c4, y, rfl, HB4, HY4, hy4, hB⟩
  have H_w2 := Lib.hid (Mo.num (Mo.call H_T1.out hB) hy4)
  obtain rfl : b4 = false := by rw [HB4.out, zv_f]; exact decide_eq_false (by have := HP.out; omega)
  clear hB hy4
  go_upto_region 3 with fail
  obtain ⟨T2, hT2⟩ : ∃ T2, T2 = w2.alloc (.cells #[.bool false, .slice A4 y.length c4] 26) := ⟨_, rfl⟩
  rw [← hT2]
  have H_T2 : Hid (Mo w T2 _ _) := Lib.hid (by rw [hT2]; exact H_w2.out.alloc (t := 26) (cs := #[.bool false, .slice A4 y.length c4]) (nd_int _ _ _ _))
  clear hT2
  have k4T2c0 := ((H_T2.out.var 4 rfl)).cell 0 rfl
  have k4T2c1 := ((H_T2.out.var 4 rfl)).cell 1 rfl
  have k5T2c0 := ((H_T2.out.var 5 rfl)).cell 0 rfl
  have k5T2c1 := ((H_T2.out.var 5 rfl)).cell 1 rfl
  have HVX : Hid (V x = (((zv b1 xs).natAbs : Nat) : Int)) := by show _ = _; rw [HX3.out, V_limbs]
  have HVY : Hid (V y = V ys) := by show _ = _; rw [HY4.out, V_limbs, zv_f]; have := HP.out; omega
  have HZX : Hid (zv b3 x = zv b1 xs) := by show _ = _; rw [HB3.out, HX3.out]; exact zv_norm _
  have HLX : Hid (x.length ≤ xs.length) := by show _ ≤ _; rw [HX3.out, zv_abs b1 HX.out.2]; exact limbs_le_len HX.out.2 (Nat.le_refl _)
  have HLY : Hid (y.length ≤ ys.length) := by show _ ≤ _; rw [HY4.out, zv_abs false HY.out.2]; exact limbs_le_len HY.out.2 (Nat.le_refl _)
  go_wp2_with fail
  refine (rdivMod_ok T2 A3 A4 c3 c4 x y (H_T2.out.rn 0 rfl) (H_T2.out.rn 1 rfl) (by rw [HVY.out]; exact HP.out) (by have := HLX.out; have := HLY.out; omega)).mono ?_
  rintro e_ w3 ⟨A5, c5, q, A6, c6, r, rfl, HQ, HR, hq, hr, hB⟩
  have H_w3 := Lib.hid (Mo.num (Mo.num (Mo.call H_T2.out hB) hq) hr)
  have k4w3c0 := ((H_w3.out.var 4 rfl)).cell 0 rfl
  have k4w3c1 := ((H_w3.out.var 4 rfl)).cell 1 rfl
  have k5w3c0 := ((H_w3.out.var 5 rfl)).cell 0 rfl
  have k5w3c1 := ((H_w3.out.var 5 rfl)).cell 1 rfl
  have hvx0 : 0 ≤ V x := by have := HVX.out; omega
  have HVQ : Hid (V q = V x / V ys) := by show _ = _; rw [HQ.out, V_limbs, HVY.out]; exact (div_pos_parts hvx0 HP.out).1.symm
  have HVR : Hid (V r = V x % V ys) := by show _ = _; rw [HR.out, V_limbs, HVY.out]; exact (div_pos_parts hvx0 HP.out).2.symm
  have HLQ : Hid (q.length ≤ xs.length) := by show _ ≤ _; rw [HQ.out]; exact Nat.le_trans (limbs_le_len (H_T2.out.rn 0 rfl).2 (Nat.div_le_self _ _)) HLX.out
  have HLR : Hid (r.length ≤ xs.length) := by show _ ≤ _; rw [HR.out]; exact Nat.le_trans (limbs_le_len (H_T2.out.rn 0 rfl).2 (Nat.mod_le _ _)) HLX.out
  clear hvx0
  clear hB hq hr
  go_upto_region 6 with fail
  have hflag : (b3 != false) = b3 := by cases b3 <;> rfl
  go_wp2_with fail
  refine (rimake_ok w3 _ A5 c5 q (H_w3.out.rn 2 rfl) (by have := HLQ.out; omega)).mono ?_
  rintro e_ w4 ⟨b7, A7, c7, z7, rfl, HB7, HZ7, hz7, hB⟩
  have H_w4 := Lib.hid (Mo.num (Mo.call H_w3.out hB) hz7)
  have HE7 : Hid (zv b7 z7 = zv b3 q) := by show _ = _; rw [HB7.out, HZ7.out, zv_norm]
  have HL7 : Hid (z7.length ≤ xs.length) := by show _ ≤ _; rw [HZ7.out, zv_abs _ (H_w3.out.rn 2 rfl).2]; exact Nat.le_trans (limbs_le_len (H_w3.out.rn 2 rfl).2 (Nat.le_refl _)) HLQ.out
  clear hB hz7
  go_upto_region 7 with fail
  obtain ⟨T3, hT3⟩ : ∃ T3, T3 = w4.alloc (.cells #[.bool b7, .slice A7 z7.length c7] 26) := ⟨_, rfl⟩
  rw [← hT3]
  have H_T3 : Hid (Mo w T3 _ _) := Lib.hid (by rw [hT3]; exact H_w4.out.alloc (t := 26) (cs := #[.bool b7, .slice A7 z7.length c7]) (nd_int _ _ _ _))
  clear hT3
  have k4T3c0 := ((H_T3.out.var 4 rfl)).cell 0 rfl
  have k4T3c1 := ((H_T3.out.var 4 rfl)).cell 1 rfl
  have k5T3c0 := ((H_T3.out.var 5 rfl)).cell 0 rfl
  have k5T3c1 := ((H_T3.out.var 5 rfl)).cell 1 rfl
  clear hflag
  have hsg : (b3 = false ∧ zv b1 xs = V x) ∨ (b3 = true ∧ zv b1 xs = -V x) := by
    rw [← HZX.out]
    cases b3
    · exact .inl ⟨rfl, rfl⟩
    · exact .inr ⟨rfl, rfl⟩
  rcases hsg with ⟨rfl, h2⟩ | ⟨rfl, h2⟩
  · have HQE : Hid (zv b7 z7 = zv b1 xs / V ys) := by show _ = _; rw [HE7.out, zv_f, HVQ.out, h2]
    have HQB : Hid (b7 = decide (zv b1 xs / V ys < 0)) := by show _ = _; rw [HB7.out, ← HQE.out, HE7.out] <;> rfl
    have HQZ : Hid (z7 = limbs (zv b1 xs / V ys).natAbs) := by show _ = _; rw [HZ7.out, ← HQE.out, HE7.out] <;> rfl
    clear h2
    go_wp2_with fail
    go_upto_region 9 with fail
    have k4T3c0 := ((H_T3.out.var 4 rfl)).cell 0 rfl
    have k4T3c1 := ((H_T3.out.var 4 rfl)).cell 1 rfl
    have k5T3c0 := ((H_T3.out.var 5 rfl)).cell 0 rfl
    have k5T3c1 := ((H_T3.out.var 5 rfl)).cell 1 rfl
    have k6T3c0 := ((H_T3.out.var 6 rfl)).cell 0 rfl
    have k6T3c1 := ((H_T3.out.var 6 rfl)).cell 1 rfl
    have neT320 : gW2 ≠ w.heap.size := H_T3.out.apart 2 0 _ _ _ _ _ _ rfl rfl (by decide)
    have neT321 : gW2 ≠ gW1 := H_T3.out.apart 2 1 _ _ _ _ _ _ rfl rfl (by decide)
    have neT323 : gW2 ≠ gW3 := H_T3.out.apart 2 3 _ _ _ _ _ _ rfl rfl (by decide)
    have neT324 : gW2 ≠ w1.heap.size := H_T3.out.apart 2 4 _ _ _ _ _ _ rfl rfl (by decide)
    have neT325 : gW2 ≠ w2.heap.size := H_T3.out.apart 2 5 _ _ _ _ _ _ rfl rfl (by decide)
    have neT326 : gW2 ≠ w4.heap.size := H_T3.out.apart 2 6 _ _ _ _ _ _ rfl rfl (by decide)
    have neT330 : gW3 ≠ w.heap.size := H_T3.out.apart 3 0 _ _ _ _ _ _ rfl rfl (by decide)
    have neT331 : gW3 ≠ gW1 := H_T3.out.apart 3 1 _ _ _ _ _ _ rfl rfl (by decide)
    have neT332 : gW3 ≠ gW2 := H_T3.out.apart 3 2 _ _ _ _ _ _ rfl rfl (by decide)
    have neT334 : gW3 ≠ w1.heap.size := H_T3.out.apart 3 4 _ _ _ _ _ _ rfl rfl (by decide)
    have neT335 : gW3 ≠ w2.heap.size := H_T3.out.apart 3 5 _ _ _ _ _ _ rfl rfl (by decide)
    have neT336 : gW3 ≠ w4.heap.size := H_T3.out.apart 3 6 _ _ _ _ _ _ rfl rfl (by decide)
    have H_T3d := Lib.hid H_T3.out.drew
    first
    | go_region_held3 (fun w' => w'.cell? ⟨w1.heap.size, 0, none⟩ = some (.bool false) ∧ w'.cell? ⟨w1.heap.size, 1, none⟩ = some (.slice A3 x.length c3) ∧ w'.cell? ⟨w2.heap.size, 0, none⟩ = some (.bool false) ∧ w'.cell? ⟨w2.heap.size, 1, none⟩ = some (.slice A4 y.length c4) ∧ w'.cell? ⟨w4.heap.size, 0, none⟩ = some (.bool b7) ∧ w'.cell? ⟨w4.heap.size, 1, none⟩ = some (.slice A7 z7.length c7)) (go_keep)
       (first
        | (go_at_call 63
           refine (rimul_ok T3.drew false b7 A4 A7 c4 c7 y z7 (H_T3d.out.rn 1 rfl) (H_T3d.out.rn 4 rfl) (by have := HLY.out; have := HL7.out; omega)).mono ?_
           rintro e_ u1 ⟨b10, A10, c10, z10, rfl, HB10, HZ10, hz10, hB⟩
           have H_u1 := Lib.hid (Mo.num (Mo.call H_T3d.out hB) hz10)
           have k4u1c0 := ((H_u1.out.var 4 rfl)).cell 0 rfl
           have k4u1c1 := ((H_u1.out.var 4 rfl)).cell 1 rfl
           have k5u1c0 := ((H_u1.out.var 5 rfl)).cell 0 rfl
           have k5u1c1 := ((H_u1.out.var 5 rfl)).cell 1 rfl
           have k6u1c0 := ((H_u1.out.var 6 rfl)).cell 0 rfl
           have k6u1c1 := ((H_u1.out.var 6 rfl)).cell 1 rfl
           have HL10 : Hid (z10.length ≤ max xs.length ys.length + 1) := by show _ ≤ _; rw [HZ10.out]; exact divmul_len HX.out.2 HY.out.2 HP.out (by rw [zv_f, HVY.out, HQE.out])
           clear hB hz10)
        | (go_at_call 127
           refine (risub_ok u1 false b10 A3 A10 c3 c10 x z10 (H_u1.out.rn 0 rfl) (H_u1.out.rn 5 rfl) (by have := HLX.out; omega) (by have := HL10.out; omega)).mono ?_
           rw [HB10.out, HZ10.out, zv_norm]
           rintro e_ u2 ⟨b11, A11, c11, z11, rfl, HB11, HZ11, hz11, hB⟩
           have H_u2 := Lib.hid (Mo.num (Mo.call H_u1.out hB) hz11)
           have k4u2c0 := ((H_u2.out.var 4 rfl)).cell 0 rfl
           have k4u2c1 := ((H_u2.out.var 4 rfl)).cell 1 rfl
           have k5u2c0 := ((H_u2.out.var 5 rfl)).cell 0 rfl
           have k5u2c1 := ((H_u2.out.var 5 rfl)).cell 1 rfl
           have k6u2c0 := ((H_u2.out.var 6 rfl)).cell 0 rfl
           have k6u2c1 := ((H_u2.out.var 6 rfl)).cell 1 rfl
           have k2u2c0 := ((H_u2.out.var 2 rfl)).cell 0 rfl
           have k2u2c1 := ((H_u2.out.var 2 rfl)).cell 1 rfl
           have k2u2f0 := ((H_u2.out.var 2 rfl)).thaw 0
           have k2u2f1 := ((H_u2.out.var 2 rfl)).thaw 1
           have k3u2c0 := ((H_u2.out.var 3 rfl)).cell 0 rfl
           have k3u2c1 := ((H_u2.out.var 3 rfl)).cell 1 rfl
           have k3u2f0 := ((H_u2.out.var 3 rfl)).thaw 0
           have k3u2f1 := ((H_u2.out.var 3 rfl)).thaw 1
           clear hB hz11))
    | fail
    have hrem : zv false x - zv false y * zv b7 z7 = zv b1 xs % V ys := by
      rw [HZX.out, zv_f, HVY.out, HQE.out, Int.emod_def]
    rw [hrem] at HB11 HZ11
    clear hrem
    go_wp2_with fail
    have s20 := (H_u2.out).set 2 (j := 0) (v := .bool b7) (cs' := #[.bool b7, .slice none 0 0]) rfl rfl (nd_int _ _ _ _)
    have s21 := s20.set 2 (j := 1) (v := .slice A7 z7.length c7) (cs' := #[.bool b7, .slice A7 z7.length c7]) rfl rfl (nd_int _ _ _ _)
    have s30 := (s21).set 3 (j := 0) (v := .bool b11) (cs' := #[.bool b11, .slice none 0 0]) rfl rfl (nd_int _ _ _ _)
    have s31 := s30.set 3 (j := 1) (v := .slice A11 z11.length c11) (cs' := #[.bool b11, .slice A11 z11.length c11]) rfl rfl (nd_int _ _ _ _)
    have v4 : Vr ((((u2.setCell ⟨gW2, 0, none⟩ (.bool b7)).setCell ⟨gW2, 1, none⟩ (.slice A7 z7.length c7)).setCell ⟨gW3, 0, none⟩ (.bool b11)).setCell ⟨gW3, 1, none⟩ (.slice A11 z11.length c11)) gW2 26 #[.bool b7, .slice A7 z7.length c7] := s31.var 2 rfl
    have v5 : Vr ((((u2.setCell ⟨gW2, 0, none⟩ (.bool b7)).setCell ⟨gW2, 1, none⟩ (.slice A7 z7.length c7)).setCell ⟨gW3, 0, none⟩ (.bool b11)).setCell ⟨gW3, 1, none⟩ (.slice A11 z11.length c11)) gW3 26 #[.bool b11, .slice A11 z11.length c11] := s31.var 3 rfl
    refine bodyPost_ret (v := .tuple #[.agg #[.bool b7, .slice A7 z7.length c7], .agg #[.bool b11, .slice A11 z11.length c11], .bool true]) (by simp [results, Tryz.results126, go_sem, v4.cell 0 rfl, v4.cell 1 rfl, v5.cell 0 rfl, v5.cell 1 rfl]) rfl ?_
    exact ⟨b7, A7, c7, z7, b11, A11, c11, z11, rfl, HQB, HQZ, HB11, HZ11, s31.rn 4 rfl, s31.rn 6 rfl, s31.below⟩
  · go_wp2_with fail
    refine (rnorm_ok T3 A6 c6 r (H_T3.out.rn 3 rfl) (by have := HLR.out; omega)).mono ?_
    rintro e_ w5 ⟨A8, c8, n8, rfl, HN8, hn8, hB⟩
    have H_w5 := Lib.hid (Mo.num (Mo.call H_T3.out hB) hn8)
    have k4w5c0 := ((H_w5.out.var 4 rfl)).cell 0 rfl
    have k4w5c1 := ((H_w5.out.var 4 rfl)).cell 1 rfl
    have k5w5c0 := ((H_w5.out.var 5 rfl)).cell 0 rfl
    have k5w5c1 := ((H_w5.out.var 5 rfl)).cell 1 rfl
    have k6w5c0 := ((H_w5.out.var 6 rfl)).cell 0 rfl
    have k6w5c1 := ((H_w5.out.var 6 rfl)).cell 1 rfl
    have hvn : V n8 = V r := by rw [HN8.out, V_limbs]; have := V_nonneg (H_T3.out.rn 3 rfl).2; omega
    clear hB hn8
    by_cases h0 : n8.length = 0
    · have e1 : decide ((0 : Int) < (n8.length : Int)) = false := decide_eq_false (by omega)
      have e2 : decide (0 < n8.length) = false := decide_eq_false (by omega)
      have hr0 : V x % V ys = 0 := by rw [← HVR.out, ← hvn, List.length_eq_zero_iff.1 h0]; rfl
      have HQE : Hid (zv b7 z7 = zv b1 xs / V ys) := by show _ = _; rw [HE7.out, zv_t, HVQ.out, h2]; exact ((div_neg_parts HP.out).1 hr0).1.symm
      have HQB : Hid (b7 = decide (zv b1 xs / V ys < 0)) := by show _ = _; rw [HB7.out, ← HQE.out, HE7.out] <;> rfl
      have HQZ : Hid (z7 = limbs (zv b1 xs / V ys).natAbs) := by show _ = _; rw [HZ7.out, ← HQE.out, HE7.out] <;> rfl
      clear h0 hr0 h2 hvn
      go_upto_region 9 with fail
      have k4w5c0 := ((H_w5.out.var 4 rfl)).cell 0 rfl
      have k4w5c1 := ((H_w5.out.var 4 rfl)).cell 1 rfl
      have k5w5c0 := ((H_w5.out.var 5 rfl)).cell 0 rfl
      have k5w5c1 := ((H_w5.out.var 5 rfl)).cell 1 rfl
      have k6w5c0 := ((H_w5.out.var 6 rfl)).cell 0 rfl
      have k6w5c1 := ((H_w5.out.var 6 rfl)).cell 1 rfl
      have new520 : gW2 ≠ w.heap.size := H_w5.out.apart 2 0 _ _ _ _ _ _ rfl rfl (by decide)
      have new521 : gW2 ≠ gW1 := H_w5.out.apart 2 1 _ _ _ _ _ _ rfl rfl (by decide)
      have new523 : gW2 ≠ gW3 := H_w5.out.apart 2 3 _ _ _ _ _ _ rfl rfl (by decide)
      have new524 : gW2 ≠ w1.heap.size := H_w5.out.apart 2 4 _ _ _ _ _ _ rfl rfl (by decide)
      have new525 : gW2 ≠ w2.heap.size := H_w5.out.apart 2 5 _ _ _ _ _ _ rfl rfl (by decide)
      have new526 : gW2 ≠ w4.heap.size := H_w5.out.apart 2 6 _ _ _ _ _ _ rfl rfl (by decide)
      have new530 : gW3 ≠ w.heap.size := H_w5.out.apart 3 0 _ _ _ _ _ _ rfl rfl (by decide)
      have new531 : gW3 ≠ gW1 := H_w5.out.apart 3 1 _ _ _ _ _ _ rfl rfl (by decide)
      have new532 : gW3 ≠ gW2 := H_w5.out.apart 3 2 _ _ _ _ _ _ rfl rfl (by decide)
      have new534 : gW3 ≠ w1.heap.size := H_w5.out.apart 3 4 _ _ _ _ _ _ rfl rfl (by decide)
      have new535 : gW3 ≠ w2.heap.size := H_w5.out.apart 3 5 _ _ _ _ _ _ rfl rfl (by decide)
      have new536 : gW3 ≠ w4.heap.size := H_w5.out.apart 3 6 _ _ _ _ _ _ rfl rfl (by decide)
      have H_w5d := Lib.hid H_w5.out.drew
      first
      | go_region_held3 (fun w' => w'.cell? ⟨w1.heap.size, 0, none⟩ = some (.bool true) ∧ w'.cell? ⟨w1.heap.size, 1, none⟩ = some (.slice A3 x.length c3) ∧ w'.cell? ⟨w2.heap.size, 0, none⟩ = some (.bool false) ∧ w'.cell? ⟨w2.heap.size, 1, none⟩ = some (.slice A4 y.length c4) ∧ w'.cell? ⟨w4.heap.size, 0, none⟩ = some (.bool b7) ∧ w'.cell? ⟨w4.heap.size, 1, none⟩ = some (.slice A7 z7.length c7)) (go_keep)
         (first
          | (go_at_call 63
             refine (rimul_ok w5.drew false b7 A4 A7 c4 c7 y z7 (H_w5d.out.rn 1 rfl) (H_w5d.out.rn 4 rfl) (by have := HLY.out; have := HL7.out; omega)).mono ?_
             rintro e_ u1 ⟨b10, A10, c10, z10, rfl, HB10, HZ10, hz10, hB⟩
             have H_u1 := Lib.hid (Mo.num (Mo.call H_w5d.out hB) hz10)
             have k4u1c0 := ((H_u1.out.var 4 rfl)).cell 0 rfl
             have k4u1c1 := ((H_u1.out.var 4 rfl)).cell 1 rfl
             have k5u1c0 := ((H_u1.out.var 5 rfl)).cell 0 rfl
             have k5u1c1 := ((H_u1.out.var 5 rfl)).cell 1 rfl
             have k6u1c0 := ((H_u1.out.var 6 rfl)).cell 0 rfl
             have k6u1c1 := ((H_u1.out.var 6 rfl)).cell 1 rfl
             have HL10 : Hid (z10.length ≤ max xs.length ys.length + 1) := by show _ ≤ _; rw [HZ10.out]; exact divmul_len HX.out.2 HY.out.2 HP.out (by rw [zv_f, HVY.out, HQE.out])
             clear hB hz10)
          | (go_at_call 127
             refine (risub_ok u1 true b10 A3 A10 c3 c10 x z10 (H_u1.out.rn 0 rfl) (H_u1.out.rn 6 rfl) (by have := HLX.out; omega) (by have := HL10.out; omega)).mono ?_
             rw [HB10.out, HZ10.out, zv_norm]
             rintro e_ u2 ⟨b11, A11, c11, z11, rfl, HB11, HZ11, hz11, hB⟩
             have H_u2 := Lib.hid (Mo.num (Mo.call H_u1.out hB) hz11)
             have k4u2c0 := ((H_u2.out.var 4 rfl)).cell 0 rfl
             have k4u2c1 := ((H_u2.out.var 4 rfl)).cell 1 rfl
             have k5u2c0 := ((H_u2.out.var 5 rfl)).cell 0 rfl
             have k5u2c1 := ((H_u2.out.var 5 rfl)).cell 1 rfl
             have k6u2c0 := ((H_u2.out.var 6 rfl)).cell 0 rfl
             have k6u2c1 := ((H_u2.out.var 6 rfl)).cell 1 rfl
             have k2u2c0 := ((H_u2.out.var 2 rfl)).cell 0 rfl
             have k2u2c1 := ((H_u2.out.var 2 rfl)).cell 1 rfl
             have k2u2f0 := ((H_u2.out.var 2 rfl)).thaw 0
             have k2u2f1 := ((H_u2.out.var 2 rfl)).thaw 1
             have k3u2c0 := ((H_u2.out.var 3 rfl)).cell 0 rfl
             have k3u2c1 := ((H_u2.out.var 3 rfl)).cell 1 rfl
             have k3u2f0 := ((H_u2.out.var 3 rfl)).thaw 0
             have k3u2f1 := ((H_u2.out.var 3 rfl)).thaw 1
             clear hB hz11))
      | fail
      have hrem : zv true x - zv false y * zv b7 z7 = zv b1 xs % V ys := by
        rw [HZX.out, zv_f, HVY.out, HQE.out, Int.emod_def]
      rw [hrem] at HB11 HZ11
      clear hrem
      go_wp2_with fail
      have s20 := (H_u2.out).set 2 (j := 0) (v := .bool b7) (cs' := #[.bool b7, .slice none 0 0]) rfl rfl (nd_int _ _ _ _)
      have s21 := s20.set 2 (j := 1) (v := .slice A7 z7.length c7) (cs' := #[.bool b7, .slice A7 z7.length c7]) rfl rfl (nd_int _ _ _ _)
      have s30 := (s21).set 3 (j := 0) (v := .bool b11) (cs' := #[.bool b11, .slice none 0 0]) rfl rfl (nd_int _ _ _ _)
      have s31 := s30.set 3 (j := 1) (v := .slice A11 z11.length c11) (cs' := #[.bool b11, .slice A11 z11.length c11]) rfl rfl (nd_int _ _ _ _)
      have v4 : Vr ((((u2.setCell ⟨gW2, 0, none⟩ (.bool b7)).setCell ⟨gW2, 1, none⟩ (.slice A7 z7.length c7)).setCell ⟨gW3, 0, none⟩ (.bool b11)).setCell ⟨gW3, 1, none⟩ (.slice A11 z11.length c11)) gW2 26 #[.bool b7, .slice A7 z7.length c7] := s31.var 2 rfl
      have v5 : Vr ((((u2.setCell ⟨gW2, 0, none⟩ (.bool b7)).setCell ⟨gW2, 1, none⟩ (.slice A7 z7.length c7)).setCell ⟨gW3, 0, none⟩ (.bool b11)).setCell ⟨gW3, 1, none⟩ (.slice A11 z11.length c11)) gW3 26 #[.bool b11, .slice A11 z11.length c11] := s31.var 3 rfl
      refine bodyPost_ret (v := .tuple #[.agg #[.bool b7, .slice A7 z7.length c7], .agg #[.bool b11, .slice A11 z11.length c11], .bool true]) (by simp [results, Tryz.results126, go_sem, v4.cell 0 rfl, v4.cell 1 rfl, v5.cell 0 rfl, v5.cell 1 rfl]) rfl ?_
      exact ⟨b7, A7, c7, z7, b11, A11, c11, z11, rfl, HQB, HQZ, HB11, HZ11, s31.rn 4 rfl, s31.rn 7 rfl, s31.below⟩
    · have e1 : decide ((0 : Int) < (n8.length : Int)) = true := decide_eq_true (by omega)
      have e2 : decide (0 < n8.length) = true := decide_eq_true (by omega)
      have hr0 : V x % V ys ≠ 0 := by
        rw [← HVR.out, ← hvn]
        have h : Nf n8 := by rw [HN8.out]; exact limbs_nf _
        have := h.V_pos (by omega)
        omega
      have HQ1 : Hid (zv b7 z7 - 1 = zv b1 xs / V ys) := by show _ = _; rw [HE7.out, zv_t, HVQ.out, h2, ((div_neg_parts HP.out).2 hr0).1]; omega
      clear h0 hr0 h2 hvn
      go_upto_region 8 with fail
      have k6w5c0 := ((H_w5.out.var 6 rfl)).cell 0 rfl
      have k6w5c1 := ((H_w5.out.var 6 rfl)).cell 1 rfl
      have H_w5d := Lib.hid H_w5.out.drew
      first
      | go_region_with
         (first
          | (go_at_call 48
             refine (riof_ok w5.drew 1 (by omega) (by omega)).mono ?_
             rintro e_ v1 ⟨b8, A8x, c8x, o8, rfl, HB8, HO8, ho8, hB⟩
             have H_v1 := Lib.hid (Mo.num (Mo.call H_w5d.out hB) ho8)
             have k6v1c0 := ((H_v1.out.var 6 rfl)).cell 0 rfl
             have k6v1c1 := ((H_v1.out.var 6 rfl)).cell 1 rfl
             have HLO : Hid (o8.length ≤ 1) := by show _ ≤ _; rw [HO8.out]; exact limbs_len (m := 1) (by decide)
             clear hB ho8)
          | (go_at_call 127
             refine (risub_ok v1 b7 b8 A7 A8x c7 c8x z7 o8 (H_v1.out.rn 4 rfl) (H_v1.out.rn 6 rfl) (by have := HL7.out; omega) (by have := HLO.out; omega)).mono ?_
             rw [HB8.out, HO8.out, zv_norm, HQ1.out]
             rintro e_ v2 ⟨b9, A9, c9, z9, rfl, HQB, HQZ, hz9, hB⟩
             have H_v2 := Lib.hid (Mo.num (Mo.call H_v1.out hB) hz9)
             have k6v2c0 := ((H_v2.out.var 6 rfl)).cell 0 rfl
             have k6v2c1 := ((H_v2.out.var 6 rfl)).cell 1 rfl
             have k6v2f0 := ((H_v2.out.var 6 rfl)).thaw 0
             have k6v2f1 := ((H_v2.out.var 6 rfl)).thaw 1
             have HL9 : Hid (z9.length ≤ xs.length + 2) := z9_len HQZ.out HQ1.out ((H_v1.out.rn 4 rfl)).2 HL7.out
             clear hB hz9))
      | fail
      all_goals
        (obtain ⟨Z, hZ⟩ : ∃ Z, Z = ((v2.setCell ⟨w4.heap.size, 0, none⟩ (.bool b9)).setCell ⟨w4.heap.size, 1, none⟩ (.slice A9 z9.length c9)) := ⟨_, rfl⟩
         rw [← hZ]
         have H_Z : Hid (Mo w Z _ _) := Lib.hid (by rw [hZ]; exact (H_v2.out.set 6 (j := 0) (v := .bool b9) (cs' := #[.bool b9, .slice A7 z7.length c7]) rfl rfl (nd_int _ _ _ _)).set 6 (j := 1) (v := .slice A9 z9.length c9) (cs' := #[.bool b9, .slice A9 z9.length c9]) rfl rfl (nd_int _ _ _ _))
         clear hZ
         have HQE : Hid (zv b9 z9 = zv b1 xs / V ys) := by show _ = _; rw [HQB.out, HQZ.out]; exact zv_norm _
         go_upto_region 9 with fail
         have k4Zc0 := ((H_Z.out.var 4 rfl)).cell 0 rfl
         have k4Zc1 := ((H_Z.out.var 4 rfl)).cell 1 rfl
         have k5Zc0 := ((H_Z.out.var 5 rfl)).cell 0 rfl
         have k5Zc1 := ((H_Z.out.var 5 rfl)).cell 1 rfl
         have k6Zc0 := ((H_Z.out.var 6 rfl)).cell 0 rfl
         have k6Zc1 := ((H_Z.out.var 6 rfl)).cell 1 rfl
         have neZ20 : gW2 ≠ w.heap.size := H_Z.out.apart 2 0 _ _ _ _ _ _ rfl rfl (by decide)
         have neZ21 : gW2 ≠ gW1 := H_Z.out.apart 2 1 _ _ _ _ _ _ rfl rfl (by decide)
         have neZ23 : gW2 ≠ gW3 := H_Z.out.apart 2 3 _ _ _ _ _ _ rfl rfl (by decide)
         have neZ24 : gW2 ≠ w1.heap.size := H_Z.out.apart 2 4 _ _ _ _ _ _ rfl rfl (by decide)
         have neZ25 : gW2 ≠ w2.heap.size := H_Z.out.apart 2 5 _ _ _ _ _ _ rfl rfl (by decide)
         have neZ26 : gW2 ≠ w4.heap.size := H_Z.out.apart 2 6 _ _ _ _ _ _ rfl rfl (by decide)
         have neZ30 : gW3 ≠ w.heap.size := H_Z.out.apart 3 0 _ _ _ _ _ _ rfl rfl (by decide)
         have neZ31 : gW3 ≠ gW1 := H_Z.out.apart 3 1 _ _ _ _ _ _ rfl rfl (by decide)
         have neZ32 : gW3 ≠ gW2 := H_Z.out.apart 3 2 _ _ _ _ _ _ rfl rfl (by decide)
         have neZ34 : gW3 ≠ w1.heap.size := H_Z.out.apart 3 4 _ _ _ _ _ _ rfl rfl (by decide)
         have neZ35 : gW3 ≠ w2.heap.size := H_Z.out.apart 3 5 _ _ _ _ _ _ rfl rfl (by decide)
         have neZ36 : gW3 ≠ w4.heap.size := H_Z.out.apart 3 6 _ _ _ _ _ _ rfl rfl (by decide)
         have H_Zd := Lib.hid H_Z.out.drew
         first
         | go_region_held3 (fun w' => w'.cell? ⟨w1.heap.size, 0, none⟩ = some (.bool true) ∧ w'.cell? ⟨w1.heap.size, 1, none⟩ = some (.slice A3 x.length c3) ∧ w'.cell? ⟨w2.heap.size, 0, none⟩ = some (.bool false) ∧ w'.cell? ⟨w2.heap.size, 1, none⟩ = some (.slice A4 y.length c4) ∧ w'.cell? ⟨w4.heap.size, 0, none⟩ = some (.bool b9) ∧ w'.cell? ⟨w4.heap.size, 1, none⟩ = some (.slice A9 z9.length c9)) (go_keep)
            (first
             | (go_at_call 63
                refine (rimul_ok Z.drew false b9 A4 A9 c4 c9 y z9 (H_Zd.out.rn 1 rfl) (H_Zd.out.rn 7 rfl) (by have := HLY.out; have := HL9.out; omega)).mono ?_
                rintro e_ u1 ⟨b10, A10, c10, z10, rfl, HB10, HZ10, hz10, hB⟩
                have H_u1 := Lib.hid (Mo.num (Mo.call H_Zd.out hB) hz10)
                have k4u1c0 := ((H_u1.out.var 4 rfl)).cell 0 rfl
                have k4u1c1 := ((H_u1.out.var 4 rfl)).cell 1 rfl
                have k5u1c0 := ((H_u1.out.var 5 rfl)).cell 0 rfl
                have k5u1c1 := ((H_u1.out.var 5 rfl)).cell 1 rfl
                have k6u1c0 := ((H_u1.out.var 6 rfl)).cell 0 rfl
                have k6u1c1 := ((H_u1.out.var 6 rfl)).cell 1 rfl
                have HL10 : Hid (z10.length ≤ max xs.length ys.length + 1) := by show _ ≤ _; rw [HZ10.out]; exact divmul_len HX.out.2 HY.out.2 HP.out (by rw [zv_f, HVY.out, HQE.out])
                clear hB hz10)
             | (go_at_call 127
                refine (risub_ok u1 true b10 A3 A10 c3 c10 x z10 (H_u1.out.rn 0 rfl) (H_u1.out.rn 8 rfl) (by have := HLX.out; omega) (by have := HL10.out; omega)).mono ?_
                rw [HB10.out, HZ10.out, zv_norm]
                rintro e_ u2 ⟨b11, A11, c11, z11, rfl, HB11, HZ11, hz11, hB⟩
                have H_u2 := Lib.hid (Mo.num (Mo.call H_u1.out hB) hz11)
                have k4u2c0 := ((H_u2.out.var 4 rfl)).cell 0 rfl
                have k4u2c1 := ((H_u2.out.var 4 rfl)).cell 1 rfl
                have k5u2c0 := ((H_u2.out.var 5 rfl)).cell 0 rfl
                have k5u2c1 := ((H_u2.out.var 5 rfl)).cell 1 rfl
                have k6u2c0 := ((H_u2.out.var 6 rfl)).cell 0 rfl
                have k6u2c1 := ((H_u2.out.var 6 rfl)).cell 1 rfl
                have k2u2c0 := ((H_u2.out.var 2 rfl)).cell 0 rfl
                have k2u2c1 := ((H_u2.out.var 2 rfl)).cell 1 rfl
                have k2u2f0 := ((H_u2.out.var 2 rfl)).thaw 0
                have k2u2f1 := ((H_u2.out.var 2 rfl)).thaw 1
                have k3u2c0 := ((H_u2.out.var 3 rfl)).cell 0 rfl
                have k3u2c1 := ((H_u2.out.var 3 rfl)).cell 1 rfl
                have k3u2f0 := ((H_u2.out.var 3 rfl)).thaw 0
                have k3u2f1 := ((H_u2.out.var 3 rfl)).thaw 1
                clear hB hz11))
         | fail
         have hrem : zv true x - zv false y * zv b9 z9 = zv b1 xs % V ys := by
           rw [HZX.out, zv_f, HVY.out, HQE.out, Int.emod_def]
         rw [hrem] at HB11 HZ11
         clear hrem
         go_wp2_with fail
         have s20 := (H_u2.out).set 2 (j := 0) (v := .bool b9) (cs' := #[.bool b9, .slice none 0 0]) rfl rfl (nd_int _ _ _ _)
         have s21 := s20.set 2 (j := 1) (v := .slice A9 z9.length c9) (cs' := #[.bool b9, .slice A9 z9.length c9]) rfl rfl (nd_int _ _ _ _)
         have s30 := (s21).set 3 (j := 0) (v := .bool b11) (cs' := #[.bool b11, .slice none 0 0]) rfl rfl (nd_int _ _ _ _)
         have s31 := s30.set 3 (j := 1) (v := .slice A11 z11.length c11) (cs' := #[.bool b11, .slice A11 z11.length c11]) rfl rfl (nd_int _ _ _ _)
         have v4 : Vr ((((u2.setCell ⟨gW2, 0, none⟩ (.bool b9)).setCell ⟨gW2, 1, none⟩ (.slice A9 z9.length c9)).setCell ⟨gW3, 0, none⟩ (.bool b11)).setCell ⟨gW3, 1, none⟩ (.slice A11 z11.length c11)) gW2 26 #[.bool b9, .slice A9 z9.length c9] := s31.var 2 rfl
         have v5 : Vr ((((u2.setCell ⟨gW2, 0, none⟩ (.bool b9)).setCell ⟨gW2, 1, none⟩ (.slice A9 z9.length c9)).setCell ⟨gW3, 0, none⟩ (.bool b11)).setCell ⟨gW3, 1, none⟩ (.slice A11 z11.length c11)) gW3 26 #[.bool b11, .slice A11 z11.length c11] := s31.var 3 rfl
         refine bodyPost_ret (v := .tuple #[.agg #[.bool b9, .slice A9 z9.length c9], .agg #[.bool b11, .slice A11 z11.length c11], .bool true]) (by simp [results, Tryz.results126, go_sem, v4.cell 0 rfl, v4.cell 1 rfl, v5.cell 0 rfl, v5.cell 1 rfl]) rfl ?_
         exact ⟨b9, A9, c9, z9, b11, A11, c11, z11, rfl, HQB, HQZ, HB11, HZ11, s31.rn 7 rfl, s31.rn 9 rfl, s31.below⟩)

end Go.Proofs.YtocpncjmcaecoaaGreat.M
