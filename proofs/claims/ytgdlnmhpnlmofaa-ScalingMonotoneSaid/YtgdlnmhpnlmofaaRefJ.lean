/- The reference: DivMod. -/
import Derived.Test.YtgdlnmhpnlmofaaRefI
namespace Go.Proofs.Ytgdlnmhpnlmofaa.M
set_option maxRecDepth 10000
open Go.RowKit
set_option linter.unusedVariables false
set_option linter.unusedSimpArgs false

/-- What is read does not lie in block g. -/
def Sep (g : Nat) (A : Option Addr) (xs : List Int) : Prop := 0 < xs.length → ∀ ad, A = some ad → ad.block ≠ g
theorem RN.blk {w : World} {A : Option Addr} {c : Nat} {xs : List Int} (h : RN w A c xs) : 0 < xs.length → ∀ ad, A = some ad → ad.block < w.heap.size := by
  intro h0 ad e
  obtain ⟨ad', e', hc⟩ := h.1.2.2 0 h0
  rw [e] at e'
  cases e'
  have := World.block_lt_of_cell? w _ hc
  simpa [Addr.add] using this
theorem add_blk (ad : Addr) (i : Nat) : (ad.add i).block = ad.block := by unfold Addr.add; split <;> rfl
theorem RN.far {w : World} {A : Option Addr} {c : Nat} {xs : List Int} {g : Nat} (h : RN w A c xs) (hg : Sep g A xs) (j : Nat) (v : Value) : RN (w.setCell ⟨g, j, none⟩ v) A c xs := by
  refine ⟨⟨h.1.1, h.1.2.1, fun i hi => ?_⟩, h.2⟩
  obtain ⟨ad, e, hc⟩ := h.1.2.2 i hi
  refine ⟨ad, e, ?_⟩
  rw [← hc]
  refine World.cell?_of_block (Below.heap_setCell w ⟨g, j, none⟩ v _ ?_)
  have := hg (by omega) ad e
  rw [add_blk]
  exact this

set_option maxHeartbeats 1600000 in
theorem rdivMod_ok (w : World) (A0 B0 : Option Addr) (c0 d0 : Nat) (xs ys : List Int) (hx : RN w A0 c0 xs) (hy : RN w B0 d0 ys) (hv : 0 < V ys) (hs : xs.length + ys.length ≤ 70368744177600) :
    Calls Try.prog 85 #[.slice A0 xs.length c0, .slice B0 ys.length d0] w (RetQR ((V xs).toNat / (V ys).toNat) ((V xs).toNat % (V ys).toNat) w) := by
  obtain ⟨i0, hi, hz0, hz1, hz2⟩ := info_parts info_u32
  have HV := Lib.hid hv
  have HX0 := Lib.hid (V_nonneg hx.2)
  have hlnx := nrm_len hx.2
  have hlny := nrm_len hy.2
  clear hv
  go_enter Try.func85, Try.ntmps85
  go_wp2_with fail
  refine (rnorm_ok _ A0 c0 xs hx (by omega)).mono ?_
  rintro e w1 ⟨A1, c1, x, rfl, HX, hx1, hB⟩
  have hy1 := hy.below hB
  have HB1 := Lib.hid hB
  have RX1 := Lib.hid hx1
  clear hx hy hB hx1
  go_wp2_with fail
  refine (rnorm_ok _ B0 d0 ys hy1 (by omega)).mono ?_
  rintro e w2 ⟨B1, d1, y, rfl, HY, hy2, hB⟩
  have HB2 := Lib.hid (below_seq HB1.out hB)
  have RX2 := Lib.hid (RX1.out.below hB)
  have RY2 := Lib.hid hy2
  have ex : nrm xs = x := by rw [HX.out]; rfl
  have ey : nrm ys = y := by rw [HY.out]; rfl
  rw [ex] at hlnx
  rw [ey] at hlny
  have EX : V x = V xs := by rw [HX.out, V_limbs]; have := HX0.out; omega
  have EY : V y = V ys := by rw [HY.out, V_limbs]; have := HV.out; omega
  have NX : Nf x := by rw [HX.out]; exact limbs_nf _
  have NY : Nf y := by rw [HY.out]; exact limbs_nf _
  have hy0 : y.length ≠ 0 := by
    intro h
    have h1 := HV.out
    rw [← EY, List.length_eq_zero_iff.1 h, V_nil] at h1
    omega
  have hb : ((y.length : Int) == 0) = false := beq_eq_false_iff_ne.2 (by omega)
  have HEX := Lib.hid EX
  have HEY := Lib.hid EY
  have HNX := Lib.hid NX
  have HNY := Lib.hid NY
  clear EX EY NX NY ex ey hy1 hy2 hB HB1 RX1
  by_cases h1 : y.length = 1
  · obtain ⟨y0, rfl⟩ : ∃ y0, y = [y0] := by
      match y, h1 with
      | [y0], _ => exact ⟨y0, rfl⟩
    have hcy := (RY2.out).1.2.2 0 (by simp)
    rw [dg_cons0] at hcy
    obtain ⟨bd, rfl, hcy⟩ := hcy
    simp only [Addr.add, if_true] at hcy
    have hv0 : V [y0] = y0 := by rw [V_cons, V_nil]; omega
    have hy00 : 0 < y0 := by rw [← hv0, HEY.out]; exact HV.out
    have hy01 : y0 ≤ 4294967295 := by have := (RY2.out).2 0; rw [dg_cons0] at this; omega
    have HV0 := Lib.hid hv0
    clear hv0 hb hy0 h1
    go_wp2_with fail
    refine (rshort_ok _ A1 c1 x y0 RX2.out hy00 hy01 (by omega)).mono ?_
    rintro e w3 ⟨A3, c3, q, rfl, HQ, hq, hB⟩
    have HB3 := Lib.hid (below_seq HB2.out hB)
    have RQ3 := Lib.hid hq
    have hr0 := Int.emod_nonneg (V x) (by omega : y0 ≠ 0)
    have hr1 := Int.emod_lt_of_pos (V x) hy00
    clear hB hq
    go_wp2_with fail
    refine (rof_ok _ (V x % y0) hr0 (by omega)).mono ?_
    rintro e w4 ⟨A4, c4, t, rfl, HT, ht, hB⟩
    have HB4 := Lib.hid (below_seq HB3.out hB)
    have RQ4 := Lib.hid (RQ3.out.below hB)
    clear hB
    go_wp2_with fail
    go_ret3
    have g1 := HEX.out
    have g2 : y0 = V ys := by rw [← HEY.out, HV0.out]
    have g3 := HX0.out
    have g4 := HV.out
    refine ⟨A3, c3, q, A4, c4, t, rfl, ?_, ?_, RQ4.out, ht, HB4.out⟩
    · show q = _
      rw [HQ.out, g1, g2, toNat_div g3 (by omega)]
    · show t = _
      rw [HT.out, g1, g2, toNat_mod g3 (by omega)]
  · have hb1 : ((y.length : Int) == 1) = false := beq_eq_false_iff_ne.2 (by omega)
    clear hy0 h1
    go_wp2_with fail
    refine (rbits_ok _ A1 c1 x RX2.out (by omega)).mono ?_
    rintro e w3 ⟨na, rfl, HNA, hna, hB⟩
    have HB3 := Lib.hid (below_seq HB2.out hB)
    have RX3 := Lib.hid (RX2.out.below hB)
    have RY3 := Lib.hid (RY2.out.below hB)
    clear hB HB2 RX2 RY2
    go_wp2_with fail
    refine (rbits_ok _ B1 d1 y RY3.out (by omega)).mono ?_
    rintro e w4 ⟨nb, rfl, HNB, hnb, hB⟩
    have HB4 := Lib.hid (below_seq HB3.out hB)
    have RX4 := Lib.hid (RX3.out.below hB)
    have RY4 := Lib.hid (RY3.out.below hB)
    clear hB HB3 RX3 RY3
    have HYP : Hid (0 < (V y).toNat) := by have h1 := HV.out; have h2 := HEY.out; show _ < _; omega
    by_cases hn : na < nb
    · have hd : decide ((na : Int) - (nb : Int) < 0) = true := decide_eq_true (by omega)
      have HL := Lib.hid (bl_less HNA.out HNB.out HYP.out hn)
      go_wp2_with fail
      go_ret3
      have g1 := HEX.out
      have g2 := HEY.out
      have g3 := HL.out
      rw [g1, g2] at g3
      refine ⟨none, 0, [], A1, c1, x, rfl, ?_, ?_, RN.nil _, RX4.out, HB4.out⟩
      · show [] = _
        rw [Nat.div_eq_of_lt g3, limbs_zero]
      · show x = _
        rw [HX.out, Nat.mod_eq_of_lt g3]
    · obtain ⟨n, hnn⟩ : ∃ n, na = nb + n := ⟨na - nb, by omega⟩
      subst hnn
      have hd : decide (((nb + n : Nat) : Int) - (nb : Int) < 0) = false := decide_eq_false (by omega)
      have hdn : ((nb + n : Nat) : Int) - (nb : Int) = (n : Int) := by omega
      have HR := Lib.hid (bl_reach HNA.out HNB.out HYP.out (by omega))
      have hvx : ((V x).toNat : Int) < pw x.length := by
        have h1 := V_lt HNX.out.1
        have h2 := V_nonneg HNX.out.1
        omega
      have HLN := Lib.hid (bl_len HNA.out HNB.out HYP.out (by omega) hvx)
      obtain ⟨m, hm⟩ : ∃ m, n / 32 = m := ⟨_, rfl⟩
      have hm1 : 32 * m ≤ n := by omega
      have hm2 : n < 32 * m + 32 := by omega
      have hq : (n : Int) / 32 = (m : Int) := by omega
      have hmk := mk_make 29 95 i0 .u32 Try.underlying29 hi hz0 hz1 ((m : Int) + 1) (by omega) (by rw [hz2]; omega) (by omega)
      rw [show ((m : Int) + 1).toNat = m + 1 from by omega] at hmk
      have HM := Lib.hid hm
      have hdn2 : (nb : Int) + (n : Int) - (nb : Int) = (n : Int) := by omega
      have hd0 : decide ((n : Int) < 0) = false := decide_eq_false (by omega)
      clear hm hn hd hvx
      have HB0 : Hid (Below w4.heap.size w4 (w4.alloc (.cells (madeCells #[.int .u32 0] (m + 1)) 95 (0, 0)))) := (Below.refl _ w4).alloc (Nat.le_refl _) _
      have hbk := Lib.hid (Bk.made (w := w4) (e := 95) (k := .u32) (m + 1))
      go_wp2_with fail
      clear hmk hdn hdn2
      refine (rshift_f _ B1 d1 y n ((RY4.out).below HB0.out) (by omega)).mono ?_
      rintro e w5 ⟨g5, c5, dl, hg5, rfl, HD5, hd5, hB⟩
      have HB5 := Lib.hid (below_seq HB4.out (below_seq HB0.out hB))
      have RX5 := Lib.hid ((RX4.out).below (below_seq HB0.out hB))
      have HK5 := Lib.hid (hbk.out.below' hB)
      have RD5 := Lib.hid hd5
      have SX := Lib.hid (fun (h : 0 < x.length) ad e => Nat.ne_of_lt (RX4.out.blk h ad e))
      have SD : Hid (Sep w4.heap.size (some ⟨g5, 0, none⟩) dl) := by
        intro _ ad e
        cases e
        have : w4.heap.size + 1 ≤ g5 := by simpa using hg5
        show g5 ≠ w4.heap.size
        omega
      have hdl : dl.length ≤ x.length + 1 := by
        have h := HLN.out
        rw [show nb + n - nb = n by omega] at h
        rw [HD5.out]
        exact h
      have HST : Hid (DMI (V x).toNat (V y).toNat n (n + 1) (V x).toNat ((V y).toNat * 2 ^ n) (List.replicate (m + 1) 0)) := by
        have h := HR.out
        rw [show nb + n - nb = n by omega] at h
        have h2 := dm_start h
        rw [HM.out] at h2
        exact h2
      have HXL : Hid (x = limbs (V x).toNat) := HNX.out.eq_limbs
      have HBG := Lib.hid HB4.out.size
      clear hbk hB hd5 hg5 HB4 RX4 RY4 HB0 HLN HR
      go_wp2_with fail
      go_loopw [0, 11, 12] (fun av dv iv wr => ∃ (k : Nat) (Aa : Option Addr) (ca : Nat) (al : List Int) (Dd : Option Addr) (cd : Nat) (dl p : List Int) (AA DD : Nat), k ≤ n + 1 ∧ iv = .int .i64 ((k : Int) - 1) ∧ av = .slice Aa al.length ca ∧ dv = .slice Dd dl.length cd ∧ al.length ≤ x.length ∧ dl.length ≤ x.length + 1 ∧ Hid (al = limbs AA) ∧ Hid (dl = limbs DD) ∧ Hid (DMI (V x).toNat (V y).toNat n k AA DD p) ∧ Bk wr w4.heap.size 95 .u32 p ∧ Hid (Sep w4.heap.size Aa al) ∧ Hid (Sep w4.heap.size Dd dl) ∧ Hid (RN wr Aa ca al) ∧ Hid (RN wr Dd cd dl) ∧ Hid (Below w.heap.size w wr)) (fun _ _ iv _ => (intOf iv + 1).toNat)
      case atStart => exact ⟨n + 1, A1, c1, x, some ⟨g5, 0, none⟩, c5, dl, _, _, _, Nat.le_refl _, by go_num, rfl, rfl, Nat.le_refl _, hdl, HXL, HD5, HST.out, HK5.out, SX.out, SD.out, RX5, RD5, HB5⟩
      case round =>
        clear HK5 SX SD RX5 RD5 HB5 HST HXL HD5 hdl
        obtain ⟨k, Aa, ca, al, Dd, cd, dl, p, AA, DD, hk, rfl, rfl, rfl, hal, hdl, HAL, HDL, HI, HK, SA, SD, RA, RD, HB⟩ := hrel
        by_cases h0 : k = 0
        · subst h0
          have hpl : p.length ≤ 70368744177664 := by have := HI.out.2.1; have := HM.out; omega
          have hR := HK.reads (by omega)
          have hpl1 : p.length = m + 1 := by have := HI.out.2.1; have := HM.out; omega
          have HP := Lib.hid hpl1
          clear hpl1
          go_wp2_with fail
          rw [← HP.out]
          refine (rnorm_ok _ _ _ p ⟨hR, HI.out.1⟩ hpl).mono ?_
          rintro e w6 ⟨A6, c6, q, rfl, HQ, hq, hB⟩
          have HB6 := Lib.hid (below_seq HB.out hB)
          have RA6 := Lib.hid (RA.out.below hB)
          clear hR hB
          go_wp2_with fail
          go_ret3
          obtain ⟨e1, e2⟩ := dm_end HI.out
          have g1 := HEX.out
          have g2 := HEY.out
          rw [g1, g2] at e1 e2
          exact ⟨A6, c6, q, Aa, ca, al, rfl, by show q = _; rw [HQ.out, e1], by show al = _; rw [HAL.out, e2], hq, RA6.out, HB6.out⟩
        · obtain ⟨j, rfl⟩ : ∃ j, k = j + 1 := ⟨k - 1, by omega⟩
          have ej : ((j + 1 : Nat) : Int) - 1 = (j : Int) := by omega
          rw [ej]
          clear ej h0
          obtain ⟨mj, s, rfl, hs32⟩ : ∃ mj s, j = 32 * mj + s ∧ s < 32 := ⟨j / 32, j % 32, by omega, by omega⟩
          have hmj : mj ≤ m := by omega
          obtain ⟨hcp, hfp⟩ := HK.cell (j := mj) (by have := HI.out.2.1; have := HM.out; omega)
          have bp := HI.out.1 mj
          have hq : (32 * (mj : Int) + (s : Int)) / 32 = (mj : Int) := by omega
          have hr : (32 * (mj : Int) + (s : Int)) % 32 = (s : Int) := by omega
          go_wp2_with fail
          refine (rcmp_ok _ Aa Dd _ _ al dl RA.out RD.out).mono ?_
          rintro e w6 ⟨nn, rfl, rfl⟩
          have hvA : V al = (AA : Int) := by rw [HAL.out, V_limbs]
          have hvD : V dl = (DD : Int) := by rw [HDL.out, V_limbs]
          rw [hvA, hvD]
          have HVA := Lib.hid hvA
          have HVD := Lib.hid hvD
          have RA6 := Lib.hid (RA.out.below (below_drewN (Below.refl _ _) nn))
          have RD6 := Lib.hid (RD.out.below (below_drewN (Below.refl _ _) nn))
          clear hvA hvD
          by_cases hle : DD ≤ AA
          · have hc1 : decide (0 ≤ cmpI (AA : Int) (DD : Int)) = true := by
              rcases (show (AA : Int) = DD ∨ (DD : Int) < AA by omega) with h | h
              · rw [cmpI_eq h]; rfl
              · rw [cmpI_gt h]; rfl
            go_wp2_with fail
            clear hc1
            refine (rsub_f _ Aa Dd _ _ al dl RA6.out RD6.out (by rw [HVA.out, HVD.out]; omega) (by omega)).mono ?_
            rintro e w7 ⟨g7, c7, a2, hg7, rfl, HA2, ha2, hB⟩
            have HK7 := Lib.hid ((HK.drewN nn).below' hB)
            have RA7 := Lib.hid ha2
            have RD7 := Lib.hid (RD6.out.below hB)
            have HB7 := Lib.hid (below_seq (below_drewN HB.out nn) hB)
            obtain ⟨b1, b2, b3, b4⟩ := LowZ.bit HI.out.2.2.1 HI.out.1 hs32 (by have := HI.out.2.1; have := HM.out; omega)
            have HS := Lib.hid (dm_yes HI.out hs32 (by omega) hle)
            obtain ⟨hcp7, hfp7⟩ := HK7.out.cell (j := mj) (by have := HI.out.2.1; have := HM.out; omega)
            have hval : Go.bits .or .u32 (dg p mj) (2 ^ s % 4294967296) = dg p mj + ((2 ^ s : Nat) : Int) := by
              have h31 : 2 ^ s ≤ 2 ^ 31 := Nat.pow_le_pow_right (by omega) (by omega)
              have e : (2 : Int) ^ s % 4294967296 = ((2 ^ s : Nat) : Int) := by
                rw [pow_cast]
                generalize 2 ^ s = z at h31
                omega
              rw [e, b1]
            have HV7 := Lib.hid hval
            have hla : a2.length ≤ x.length := by
              rw [HA2.out, HVA.out, HVD.out]
              have e : x = limbs (V x).toNat := HNX.out.eq_limbs
              have h4 := HI.out.2.2.2.1
              calc (limbs ((AA : Int).toNat - (DD : Int).toNat)).length ≤ (limbs (V x).toNat).length := limbs_mono (by omega)
                _ = x.length := by rw [← e]
            have HA3 : Hid (a2 = limbs (AA - DD)) := by show _ = _; rw [HA2.out, HVA.out, HVD.out]; rfl
            have SA7 : Hid (Sep w4.heap.size (some ⟨g7, 0, none⟩) a2) := by
              intro _ ad e
              cases e
              have h1 := HK.lt
              have h2 : wr.heap.size ≤ g7 := hg7
              show g7 ≠ w4.heap.size
              omega
            clear b1 b2 b3 b4 hval ha2 hB HA2
            go_wp2_with fail
            rw [HV7.out]
            refine (rhalf_f _ Dd cd dl (RD7.out.far SD.out mj _) (by omega)).mono ?_
            rintro e w8 ⟨g8, c8, d2, hg8, rfl, HD2, hd2, hB⟩
            have HK8 := Lib.hid ((HK7.out.set mj (dg p mj + ((2 ^ s : Nat) : Int))).below' hB)
            have RA8 := Lib.hid ((RA7.out.far SA7.out mj (.int .u32 (dg p mj + ((2 ^ s : Nat) : Int)))).below hB)
            have RD8 := Lib.hid hd2
            have HB8 := Lib.hid (below_seq (below_set HB7.out HBG.out (.int .u32 (dg p mj + ((2 ^ s : Nat) : Int)))) hB)
            have HD3 : Hid (d2 = limbs (DD / 2)) := by show _ = _; rw [HD2.out, HVD.out]; rfl
            have hld : d2.length ≤ x.length + 1 := by
              rw [HD3.out]
              exact Nat.le_trans (limbs_mono (show DD / 2 ≤ DD by omega)) (by rw [← HDL.out]; exact hdl)
            have SD8 : Hid (Sep w4.heap.size (some ⟨g8, 0, none⟩) d2) := by
              intro _ ad e
              cases e
              have h1 := HK7.out.lt
              have h2 : w7.heap.size ≤ g8 := by simpa using hg8
              show g8 ≠ w4.heap.size
              omega
            clear hB hd2 hg8
            go_wp2_with fail
            go_roundw
            case rel => exact ⟨32 * mj + s, some ⟨g7, 0, none⟩, c7, a2, some ⟨g8, 0, none⟩, c8, d2, _, AA - DD, DD / 2, by omega, by go_num, rfl, rfl, hla, hld, HA3, HD3, HS, HK8.out, SA7, SD8, RA8, RD8, HB8⟩
            case measure => simp [intOf]; omega
          · have hc1 : decide (0 ≤ cmpI (AA : Int) (DD : Int)) = false := by
              rw [cmpI_lt (by omega)]; rfl
            have HS := Lib.hid (dm_no HI.out (by omega))
            go_wp2_with fail
            clear hc1
            refine (rhalf_f _ Dd cd dl RD6.out (by omega)).mono ?_
            rintro e w8 ⟨g8, c8, d2, hg8, rfl, HD2, hd2, hB⟩
            have HK8 := Lib.hid ((HK.drewN nn).below' hB)
            have RA8 := Lib.hid (RA6.out.below hB)
            have RD8 := Lib.hid hd2
            have HB8 := Lib.hid (below_seq (below_drewN HB.out nn) hB)
            have HD3 : Hid (d2 = limbs (DD / 2)) := by show _ = _; rw [HD2.out, HVD.out]; rfl
            have hld : d2.length ≤ x.length + 1 := by
              rw [HD3.out]
              exact Nat.le_trans (limbs_mono (show DD / 2 ≤ DD by omega)) (by rw [← HDL.out]; exact hdl)
            have SD8 : Hid (Sep w4.heap.size (some ⟨g8, 0, none⟩) d2) := by
              intro _ ad e
              cases e
              have h1 := HK.lt
              have h2 : wr.heap.size ≤ g8 := hg8
              show g8 ≠ w4.heap.size
              omega
            clear hB hd2 hg8
            go_wp2_with fail
            go_roundw
            case rel => exact ⟨32 * mj + s, Aa, ca, al, some ⟨g8, 0, none⟩, c8, d2, p, AA, DD / 2, by omega, by go_num, rfl, rfl, hal, hld, HAL, HD3, HS, HK8.out, SA, SD8, RA8, RD8, HB8⟩
            case measure => simp [intOf]; omega

end Go.Proofs.Ytgdlnmhpnlmofaa.M
