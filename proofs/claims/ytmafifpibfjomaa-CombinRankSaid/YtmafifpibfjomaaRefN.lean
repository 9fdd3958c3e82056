/- The next subset: the reference. -/
import Derived.Test.YtmafifpibfjomaaNext
namespace Go.Proofs.Ytmafifpibfjomaa.M
open Go.RowKit
set_option linter.unusedVariables false
set_option linter.unusedSimpArgs false

set_option maxHeartbeats 800000 in
theorem rnext_out (w : World) (n : Int) (A : Option Addr) (c : Nat) (l : List Int) (hl : Rk w .i64 A c l) (h : n < 0 ∨ (0 ≤ n ∧ 200 < n)) :
    Calls Try.prog 30 #[.int .i64 n, .slice A l.length c] w (RetLno w) := by
  go_enter Try.func30, Try.ntmps30
  go_wp2_with fail
  refine (rsubset_no _ n A c l hl h).mono ?_
  rintro e w1 ⟨n1, rfl, rfl⟩
  have HB1 := Lib.hid (below_drewN (Below.refl w.heap.size w) n1)
  go_wp2_with fail
  go_ret2
  exact ⟨rfl, HB1.out⟩

set_option maxHeartbeats 800000 in
theorem rnext_not (w : World) (n : Nat) (A : Option Addr) (c : Nat) (l : List Int) (hl : Rk w .i64 A c l) (hn : n ≤ 200) (hu : up n (-1) l = false) :
    Calls Try.prog 30 #[.int .i64 (n : Int), .slice A l.length c] w (RetLno w) := by
  have HU := Lib.hid hu
  clear hu
  go_enter Try.func30, Try.ntmps30
  go_wp2_with fail
  refine (rsubset_ok _ n A c l hl (by omega) (by omega)).mono ?_
  rintro e w1 ⟨n1, rfl, rfl⟩
  have HB1 := Lib.hid (below_drewN (Below.refl w.heap.size w) n1)
  rw [HU.out]
  go_wp2_with fail
  go_ret2
  exact ⟨rfl, HB1.out⟩

set_option maxHeartbeats 1600000 in
theorem rnext_yes (w : World) (n : Nat) (A : Option Addr) (c : Nat) (l : List Int) (hl : Rk w .i64 A c l) (hn : n ≤ 200) (hu : up n (-1) l = true) :
    Calls Try.prog 30 #[.int .i64 (n : Int), .slice A l.length c] w (RetX n l w) := by
  obtain ⟨i0, hI, hz0, hz1, hz2⟩ := info_parts info_int
  have HU := Lib.hid hu
  have hln := up_len hu
  have HL := Lib.hid hl
  have HM := Lib.hid (up_mem hu)
  have HT := Lib.hid (up_top hu)
  have HN1 : Hid (nxAt n l ((l.length : Int) - 1 + 1).toNat = nxAt n l l.length) := by
    show _ = _
    rw [show ((l.length : Int) - 1 + 1).toNat = l.length by omega]
  clear hu hl
  go_enter Try.func30, Try.ntmps30
  go_wp2_with fail
  refine (rsubset_ok _ n A c l HL.out (by omega) (by omega)).mono ?_
  rintro e w1 ⟨n1, rfl, rfl⟩
  have HB1 := Lib.hid (below_drewN (Below.refl w.heap.size w) n1)
  rw [HU.out]
  go_wp2_with fail
  go_loopw [7] (fun iv wr => ∃ t : Int, iv = .int .i64 t ∧ -1 ≤ t ∧ t < l.length ∧ Hid (nxAt n l (t + 1).toNat = nxAt n l l.length) ∧ w.drewN n1 = wr) (fun iv _ => (intOf iv + 1).toNat)
  case atStart => exact ⟨_, rfl, by omega, by omega, HN1, rfl⟩
  case round =>
    clear HN1
    obtain ⟨t, rfl, ht1, ht2, HN, hw⟩ := hrel
    obtain ⟨wo, rfl⟩ : ∃ wo : World, wo = wr := ⟨_, rfl⟩
    subst hw
    by_cases ht : 0 ≤ t
    · obtain ⟨i, rfl⟩ := Int.eq_ofNat_of_zero_le ht
      have hi : i < l.length := by omega
      rw [show ((i : Int) + 1).toNat = i + 1 by omega] at HN
      obtain ⟨ad, rfl, hc⟩ := (HL.out.below HB1.out).2.2 i hi
      have htop := HT.out i hi
      clear ht ht1 ht2
      have hm1 := (HM.out i hi).1
      have hm2 := (HM.out i hi).2
      by_cases hg : dg l i < (n : Int) - l.length + i
      · have dg1 : (dg l i == (n : Int) - (l.length : Int) + (i : Int)) = false := by simp; omega
        have dg2 : decide ((i : Int) < 0) = false := decide_eq_false (by omega)
        have HS : Hid (nxAt n l l.length = some i) := by
          show _ = _
          rw [← HN.out]
          unfold nxAt
          rw [if_pos hg]
        have hFl : Hid ((nxF l i).length = l.length) := nxF_len (by omega)
        clear hg HN htop
        go_wp2_with fail
        go_loopw [8, 9] (fun sv jv wr => ∃ (j : Nat) (s : List Int), jv = .int .i64 (j : Int) ∧ j ≤ l.length ∧ s.length = j ∧ Hid (s = (nxF l i).take j) ∧ OwnI wr w.heap.size 3 .i64 sv s ∧ Hid (Below w.heap.size w wr)) (fun _ jv _ => l.length - (intOf jv).toNat)
        case atStart => exact ⟨0, [], rfl, Nat.zero_le _, rfl, rfl, OwnI.zero _ _ _ _, HB1⟩
        case round =>
          clear HB1 hc
          obtain ⟨j, s, rfl, hj, hsl, HS2, HO, HB⟩ := hrel
          obtain ⟨A5, c5, rfl, hr5⟩ := own_rk HO
          have HR5 := Lib.hid hr5
          clear hr5
          have HBo := HB.out
          by_cases hlt : j < l.length
          · by_cases hji : j < i
            · obtain ⟨_, had, hc⟩ := (HL.out.below HB.out).2.2 j hlt
              cases had
              have HV : Hid (s ++ [dg l j] = (nxF l i).take (j + 1)) := by
                show _ = _
                rw [HS2.out, ← nxF_lt hi hji, take_snoc_dg (by rw [hFl.out]; exact hlt)]
              have dji : decide ((j : Int) < (i : Int)) = true := decide_eq_true (by omega)
              clear HB
              go_wp2_with (at_builtin; refine wpList_append1 rfl _ _ 29 rfl Try.underlying29 hI hz0 hz1 hz2 rfl rfl HO HBo HBo.size ?_ ?_; (omega))
              clear HO HBo
              intro v1 w6 HO6 HB6
              go_wp2_with fail
              go_roundw
              case rel => exact ⟨j + 1, s ++ [dg l j], by go_num, hlt, by simp; omega, HV, HO6, HB6⟩
              case measure => simp [intOf]; omega
            · obtain ⟨_, had, hc⟩ := (HL.out.below HB.out).2.2 i hi
              cases had
              have HV : Hid (s ++ [dg l i + 1 + (j : Int) - (i : Int)] = (nxF l i).take (j + 1)) := by
                show _ = _
                rw [HS2.out, ← nxF_ge (by omega) hlt, take_snoc_dg (by rw [hFl.out]; exact hlt)]
              have dji : decide ((j : Int) < (i : Int)) = false := decide_eq_false (by omega)
              clear HB
              go_wp2_with (at_builtin; refine wpList_append1 rfl _ _ 29 rfl Try.underlying29 hI hz0 hz1 hz2 rfl rfl HO HBo HBo.size ?_ ?_; (omega))
              clear HO HBo
              intro v1 w6 HO6 HB6
              go_wp2_with fail
              go_roundw
              case rel => exact ⟨j + 1, s ++ [dg l i + 1 + (j : Int) - (i : Int)], by go_num, hlt, by simp; omega, HV, HO6, HB6⟩
              case measure => simp [intOf]; omega
          · obtain rfl : j = l.length := by omega
            have HE : Hid (s = nxF l i) := by
              show _ = _
              rw [HS2.out, ← hFl.out, List.take_length]
            clear HBo
            go_wp2_with fail
            go_ret2
            unfold RetX
            rw [HS.out]
            exact ⟨A5, c5, s, rfl, HE, HR5.out, HB.out⟩
      · have heq : dg l i = (n : Int) - l.length + i := by omega
        have dg1 : (dg l i == (n : Int) - (l.length : Int) + (i : Int)) = true := by simp [heq]
        have HN2 : Hid (nxAt n l ((i : Int) - 1 + 1).toNat = nxAt n l l.length) := by
          show _ = _
          rw [← HN.out, show ((i : Int) - 1 + 1).toNat = i by omega]
          conv => rhs; unfold nxAt
          rw [if_neg hg]
        clear hg HN heq htop
        go_wp2_with fail
        go_roundw
        case rel => exact ⟨(i : Int) - 1, by go_num, by omega, by omega, HN2, by first | rfl | trivial⟩
        case measure => simp [intOf]
    · obtain rfl : t = -1 := by omega
      have HS : Hid (nxAt n l l.length = none) := by
        show _ = _
        rw [← HN.out]
        rfl
      go_wp2_with fail
      go_ret2
      unfold RetX
      rw [HS.out]
      exact ⟨rfl, HB1.out⟩

end Go.Proofs.Ytmafifpibfjomaa.M
