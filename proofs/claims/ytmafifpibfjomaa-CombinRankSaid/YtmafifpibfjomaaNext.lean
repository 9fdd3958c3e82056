/- The next subset: the code. -/
import Derived.Test.YtmafifpibfjomaaNextP
namespace Go.Proofs.Ytmafifpibfjomaa.M
open Go.RowKit
set_option linter.unusedVariables false
set_option linter.unusedSimpArgs false

/-- The copy, written up to j. -/
def NxJ (l F p : List Int) (j : Nat) : Prop := l.length ≤ p.length ∧ ∀ t, t < l.length → dg p t = if t < j then dg F t else dg l t
theorem dg_set' (p : List Int) (j t : Nat) (x : Int) (hj : j < p.length) : dg (p.set j x) t = if t = j then x else dg p t := by
  unfold dg
  simp only [List.getD, List.getElem?_set]
  by_cases h : j = t
  · subst h; simp [hj]
  · rw [if_neg h, if_neg (fun e => h e.symm)]
theorem NxJ.step {l F p : List Int} {j : Nat} (h : NxJ l F p j) (hj : j < l.length) : NxJ l F (p.set j (dg F j)) (j + 1) := by
  refine ⟨by rw [List.length_set]; exact h.1, fun t ht => ?_⟩
  rw [dg_set' _ _ _ _ (Nat.lt_of_lt_of_le hj h.1), h.2 t ht]
  by_cases e : t = j
  · subst e; rw [if_pos rfl, if_pos (by omega)]
  · rw [if_neg e]
    by_cases e2 : t < j
    · rw [if_pos e2, if_pos (by omega)]
    · rw [if_neg e2, if_neg (by omega)]
theorem NxJ.start {l s : List Int} {i : Nat} (hi : i < l.length) : NxJ l (nxF l i) (l ++ s) i := by
  refine ⟨by simp, fun t ht => ?_⟩
  rw [dg_app, if_pos ht]
  split
  · rename_i h; rw [nxF_lt hi h]
  · rfl
theorem NxJ.done {l F p : List Int} (h : NxJ l F p l.length) (hF : F.length = l.length) : p.take l.length = F := by
  have h1 := h.1
  refine dg_ext (by rw [List.length_take, hF]; omega) fun t ht => ?_
  rw [List.length_take] at ht
  rw [dg_take, if_pos (by omega), h.2 t (by omega), if_pos (by omega)]

set_option maxHeartbeats 800000 in
theorem next_out (w : World) (n : Int) (A : Option Addr) (c : Nat) (l : List Int) (hl : Rk w .i64 A c l) (h : n < 0 ∨ 200 < n) :
    Calls Try.prog 29 #[.int .i64 n, .slice A l.length c] w (RetLno w) := by
  go_enter Try.func29, Try.ntmps29
  go_wp2_with fail
  refine (isSubset_no _ n A c l hl h).mono ?_
  rintro e w1 ⟨rfl, rfl⟩
  go_wp2_with fail
  go_ret2
  exact ⟨rfl, Below.refl _ _⟩

set_option maxHeartbeats 800000 in
theorem next_not (w : World) (n : Nat) (A : Option Addr) (c : Nat) (l : List Int) (hl : Rk w .i64 A c l) (hn : n ≤ 200) (hu : up n (-1) l = false) :
    Calls Try.prog 29 #[.int .i64 (n : Int), .slice A l.length c] w (RetLno w) := by
  have HU := Lib.hid hu
  clear hu
  go_enter Try.func29, Try.ntmps29
  go_wp2_with fail
  refine (isSubset_ok _ n A c l hl (by omega) (by omega)).mono ?_
  rintro e w1 ⟨rfl, rfl⟩
  rw [HU.out]
  go_wp2_with fail
  go_ret2
  exact ⟨rfl, Below.refl _ _⟩

/-- What the next subset is. -/
def RetX (n : Nat) (l : List Int) (w : World) (e : Ending) (w' : World) : Prop := match nxAt n l l.length with
  | none => RetLno w e w'
  | some i => RetL (nxF l i) w e w'

set_option maxHeartbeats 1600000 in
theorem next_yes (w : World) (n : Nat) (A : Option Addr) (c : Nat) (l : List Int) (hl : Rk w .i64 A c l) (hn : n ≤ 200) (hu : up n (-1) l = true) :
    Calls Try.prog 29 #[.int .i64 (n : Int), .slice A l.length c] w (RetX n l w) := by
  obtain ⟨i0, hI, hz0, hz1, hz2⟩ := info_parts info_int
  have HU := Lib.hid hu
  have hln := up_len hu
  have HL := Lib.hid hl
  have HM := Lib.hid (up_mem hu)
  have HN1 : Hid (nxAt n l ((l.length : Int) - 1 + 1).toNat = nxAt n l l.length) := by
    show _ = _
    rw [show ((l.length : Int) - 1 + 1).toNat = l.length by omega]
  clear hu hl
  go_enter Try.func29, Try.ntmps29
  go_wp2_with fail
  refine (isSubset_ok _ n A c l HL.out (by omega) (by omega)).mono ?_
  rintro e w1 ⟨rfl, rfl⟩
  rw [HU.out]
  go_wp2_with fail
  go_loopw [7] (fun iv wr => ∃ t : Int, iv = .int .i64 t ∧ -1 ≤ t ∧ t < l.length ∧ Hid (nxAt n l (t + 1).toNat = nxAt n l l.length) ∧ w = wr) (fun iv _ => (intOf iv + 1).toNat)
  case atStart => exact ⟨_, rfl, by omega, by omega, HN1, rfl⟩
  case round =>
    clear HN1
    obtain ⟨t, rfl, ht1, ht2, HN, hw⟩ := hrel
    obtain ⟨wo, rfl⟩ : ∃ wo : World, wo = wr := ⟨_, rfl⟩
    subst hw
    by_cases ht : 0 ≤ t
    · obtain ⟨i, rfl⟩ := Int.eq_ofNat_of_zero_le ht
      have hi : i < l.length := by omega
      rw [show ((i : Int) + 1).toNat = i + 1 by omega] at HN
      obtain ⟨ad, rfl, hc⟩ := HL.out.2.2 i hi
      clear ht ht1 ht2
      by_cases hg : dg l i < (n : Int) - l.length + i
      · have dg1 : decide (dg l i < (n : Int) - (l.length : Int) + (i : Int)) = true := decide_eq_true hg
        have HS : Hid (nxAt n l l.length = some i) := by
          show _ = _
          rw [← HN.out]
          unfold nxAt
          rw [if_pos hg]
        have hm1 := (HM.out i hi).1
        have hm2 := (HM.out i hi).2
        obtain ⟨s, W', hr, hcap, hbk, hB⟩ := append_bk (P := Try.prog) 29 29 3 i0 .i64 Try.underlying29 hI hz0 hz1 (w.alloc (.cells #[] 3 (0, 0))) w.heap.size (some ad) c l (HL.out.below ((Below.refl _ w).alloc (Nat.le_refl _) _)) (by omega) (by rw [hz2]; omega)
        have hsz : (w.alloc (.cells #[] 3 (0, 0))).heap.size = w.heap.size + 1 := by simp
        rw [hsz] at hr hbk hB
        have HB0 : Hid (Below w.heap.size w W') := ((Below.refl _ w).alloc (Nat.le_refl _) (.cells #[] 3 (0, 0))).trans (hB.mono (by omega))
        have HK0 := Lib.hid hbk
        have HJ0 : Hid (NxJ l (nxF l i) (l ++ s) i) := NxJ.start hi
        obtain ⟨p, hp⟩ : ∃ p, p = l ++ s := ⟨_, rfl⟩
        rw [← hp] at hr HK0 HJ0 hcap
        have hpl : l.length ≤ p.length := HJ0.out.1
        clear hB hbk hp hsz hg HN
        go_wp2_with (at_builtin; refine wpList_append_run rfl _ _ _ rfl _ _ _ rfl rfl hr ?_; clear hr)
        go_loopw [9] (fun jv wr => ∃ (j : Nat) (q : List Int), jv = .int .i64 (j : Int) ∧ i ≤ j ∧ j ≤ l.length ∧ q.length = p.length ∧ Hid (NxJ l (nxF l i) q j) ∧ Hid (Bk wr (w.heap.size + 1) 3 .i64 q) ∧ Hid (Below w.heap.size w wr)) (fun jv _ => l.length - (intOf jv).toNat)
        case atStart => exact ⟨i, p, rfl, Nat.le_refl _, by omega, rfl, HJ0, HK0, HB0⟩
        case round =>
          clear HJ0 HK0 HB0 hc
          obtain ⟨j, q, rfl, hij, hj, hql, HJ, HK, HB⟩ := hrel
          by_cases hlt : j < l.length
          · obtain ⟨_, had, hc⟩ := (HL.out.below HB.out).2.2 i hi
            cases had
            obtain ⟨hcq, hfq⟩ := HK.out.cell (j := j) (by omega)
            have HV : Hid (dg (nxF l i) j = dg l i + 1 + (j : Int) - (i : Int)) := nxF_ge hij hlt
            have HJ2 := HJ.out.step hlt
            rw [HV.out] at HJ2
            have HJ3 := Lib.hid HJ2
            clear HJ2 HJ
            go_wp2_with fail
            go_roundw
            case rel => exact ⟨j + 1, q.set j (dg l i + 1 + (j : Int) - (i : Int)), by go_num, by omega, hlt, by rw [List.length_set]; exact hql, HJ3, HK.out.set _ _, below_set HB.out (by omega) _⟩
            case measure => simp [intOf]; omega
          · obtain rfl : j = l.length := by omega
            have HE := Lib.hid (HJ.out.done (nxF_len (by omega)))
            have hread := (HK.out.reads (by omega)).take (m := l.length) (by omega)
            have hlen : (q.take l.length).length = l.length := by rw [List.length_take]; omega
            have HR : Hid (Rk wr .i64 (some ⟨w.heap.size + 1, 0, none⟩) p.length (q.take l.length)) := ⟨by rw [hlen]; exact hpl, hcap, hread.2.2⟩
            have HLn := Lib.hid hlen
            clear hread hlen
            go_wp2_with fail
            go_ret2
            unfold RetX
            rw [HS.out]
            exact ⟨_, p.length, q.take l.length, by rw [HLn.out]; rfl, HE, HR.out, HB.out⟩
      · have dg1 : decide (dg l i < (n : Int) - (l.length : Int) + (i : Int)) = false := decide_eq_false hg
        have HN2 : Hid (nxAt n l ((i : Int) - 1 + 1).toNat = nxAt n l l.length) := by
          show _ = _
          rw [← HN.out, show ((i : Int) - 1 + 1).toNat = i by omega]
          conv => rhs; unfold nxAt
          rw [if_neg hg]
        have hm1 := (HM.out i hi).1
        have hm2 := (HM.out i hi).2
        clear hg HN
        go_wp2_with fail
        go_roundw
        case rel => exact ⟨(i : Int) - 1, by go_num, by omega, by omega, HN2, by first | rfl | trivial⟩
        case measure => simp [intOf]
    · obtain rfl : t = -1 := by omega
      have HS : Hid (nxAt n l l.length = none) := by
        show _ = _
        rw [← HN.out]
        rfl
      go_wp2_with fail
      go_ret2
      unfold RetX
      rw [HS.out]
      exact ⟨rfl, Below.refl _ _⟩

end Go.Proofs.Ytmafifpibfjomaa.M
