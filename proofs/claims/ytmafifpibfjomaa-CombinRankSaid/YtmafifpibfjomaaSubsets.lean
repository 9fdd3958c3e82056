/- The law CombinSubsets: its walk. -/
import Derived.Test.YtmafifpibfjomaaRefN
import Derived.Test.YtmafifpibfjomaaRowKit
namespace Go.Proofs.Ytmafifpibfjomaa.M
open Go.RowKit
set_option linter.unusedVariables false
set_option linter.unusedSimpArgs false

set_option maxHeartbeats 1600000 in
theorem subsets_out (w : World) (n : Int) (A : Option Addr) (c : Nat) (l : List Int) (hl : Rk w .i64 A c l) (h : n < 0 ∨ (0 ≤ n ∧ 200 < n)) :
    Calls Try.prog 9 #[.int .i64 n, .slice A l.length c] w (RetTrue w) := by
  have HL := Lib.hid hl
  have HH := Lib.hid h
  have HH' : Hid (n < 0 ∨ 200 < n) := h.imp id And.right
  clear hl h
  go_enter Try.func9, Try.ntmps9
  go_wp2_with fail
  refine (rank_out _ n A c l HL.out HH'.out).mono ?_
  rintro e w1 ⟨A1, c1, x, rfl, HX, hx, hB⟩
  have HB1 := Lib.hid hB
  have RX1 := Lib.hid hx
  clear hB hx
  go_wp2_with fail
  refine (rrank_out _ n A c l (HL.out.below HB1.out) HH.out).mono ?_
  rintro e w2 ⟨A2, c2, y, rfl, HY, hy, hB⟩
  have HB2 := Lib.hid (below_seq HB1.out hB)
  have RX2 := Lib.hid (RX1.out.below hB)
  have RY2 := Lib.hid hy
  clear hB hy
  go_wp2_with fail
  refine (limbs_yes _ A1 A2 _ _ x y RX2.out.1 RY2.out.1 (by rw [HX.out, HY.out])).mono ?_
  rintro e w3 ⟨n3, rfl, rfl⟩
  have HB3 := Lib.hid (below_drewN HB2.out n3)
  go_wp2_with fail
  refine (next_out _ n A c l (HL.out.below HB3.out) HH'.out).mono ?_
  rintro e w4 ⟨rfl, hB⟩
  have HB4 := Lib.hid (HB3.out.trans (hB.mono HB3.out.size))
  clear hB
  go_wp2_with fail
  refine (rnext_out _ n A c l (HL.out.below HB4.out) HH.out).mono ?_
  rintro e w5 ⟨rfl, hB⟩
  have HB5 := Lib.hid (HB4.out.trans (hB.mono HB4.out.size))
  clear hB
  go_wp2_with fail
  refine (ints_yes _ none none 0 0 [] [] (rk_none _ _) (rk_none _ _) rfl).mono ?_
  rintro e w6 ⟨n6, rfl, rfl⟩
  have HB6 := Lib.hid (below_drewN HB5.out n6)
  go_wp2_with fail
  go_ret
  exact ⟨rfl, HB6.out⟩

set_option maxHeartbeats 1600000 in
theorem subsets_not (w : World) (n : Nat) (A : Option Addr) (c : Nat) (l : List Int) (hl : Rk w .i64 A c l) (hn : n ≤ 200) (hu : up n (-1) l = false) :
    Calls Try.prog 9 #[.int .i64 (n : Int), .slice A l.length c] w (RetTrue w) := by
  have HL := Lib.hid hl
  have HU := Lib.hid hu
  clear hl hu
  go_enter Try.func9, Try.ntmps9
  go_wp2_with fail
  refine (rank_no _ n A c l HL.out hn HU.out).mono ?_
  rintro e w1 ⟨A1, c1, x, rfl, HX, hx, hB⟩
  have HB1 := Lib.hid hB
  have RX1 := Lib.hid hx
  clear hB hx
  go_wp2_with fail
  refine (rrank_no _ n A c l (HL.out.below HB1.out) hn HU.out).mono ?_
  rintro e w2 ⟨A2, c2, y, rfl, HY, hy, hB⟩
  have HB2 := Lib.hid (below_seq HB1.out hB)
  have RX2 := Lib.hid (RX1.out.below hB)
  have RY2 := Lib.hid hy
  clear hB hy
  go_wp2_with fail
  refine (limbs_yes _ A1 A2 _ _ x y RX2.out.1 RY2.out.1 (by rw [HX.out, HY.out])).mono ?_
  rintro e w3 ⟨n3, rfl, rfl⟩
  have HB3 := Lib.hid (below_drewN HB2.out n3)
  go_wp2_with fail
  refine (next_not _ n A c l (HL.out.below HB3.out) hn HU.out).mono ?_
  rintro e w4 ⟨rfl, hB⟩
  have HB4 := Lib.hid (HB3.out.trans (hB.mono HB3.out.size))
  clear hB
  go_wp2_with fail
  refine (rnext_not _ n A c l (HL.out.below HB4.out) hn HU.out).mono ?_
  rintro e w5 ⟨rfl, hB⟩
  have HB5 := Lib.hid (HB4.out.trans (hB.mono HB4.out.size))
  clear hB
  go_wp2_with fail
  refine (ints_yes _ none none 0 0 [] [] (rk_none _ _) (rk_none _ _) rfl).mono ?_
  rintro e w6 ⟨n6, rfl, rfl⟩
  have HB6 := Lib.hid (below_drewN HB5.out n6)
  go_wp2_with fail
  go_ret
  exact ⟨rfl, HB6.out⟩

theorem retX_none {n : Nat} {l : List Int} {w : World} {e : Ending} {w' : World} (h : nxAt n l l.length = none) (hx : RetX n l w e w') : RetLno w e w' := by
  unfold RetX at hx
  rw [h] at hx
  exact hx
theorem retX_some {n i : Nat} {l : List Int} {w : World} {e : Ending} {w' : World} (h : nxAt n l l.length = some i) (hx : RetX n l w e w') : RetL (nxF l i) w e w' := by
  unfold RetX at hx
  rw [h] at hx
  exact hx

set_option maxHeartbeats 1600000 in
theorem subsets_last (w : World) (n : Nat) (A : Option Addr) (c : Nat) (l : List Int) (hl : Rk w .i64 A c l) (hn : n ≤ 200) (hu : up n (-1) l = true) (hs : nxAt n l l.length = none) :
    Calls Try.prog 9 #[.int .i64 (n : Int), .slice A l.length c] w (RetTrue w) := by
  have HL := Lib.hid hl
  have HU := Lib.hid hu
  have HS := Lib.hid hs
  clear hl hu hs
  go_enter Try.func9, Try.ntmps9
  go_wp2_with fail
  refine (rank_yes _ n A c l HL.out hn HU.out).mono ?_
  rintro e w1 ⟨A1, c1, x, rfl, HX, hx, hB⟩
  have HB1 := Lib.hid hB
  have RX1 := Lib.hid hx
  clear hB hx
  go_wp2_with fail
  refine (rrank_yes _ n A c l (HL.out.below HB1.out) hn HU.out).mono ?_
  rintro e w2 ⟨A2, c2, y, rfl, HY, hy, hB⟩
  have HB2 := Lib.hid (below_seq HB1.out hB)
  have RX2 := Lib.hid (RX1.out.below hB)
  have RY2 := Lib.hid hy
  clear hB hy
  go_wp2_with fail
  refine (limbs_yes _ A1 A2 _ _ x y RX2.out.1 RY2.out.1 (by rw [HX.out, HY.out])).mono ?_
  rintro e w3 ⟨n3, rfl, rfl⟩
  have HB3 := Lib.hid (below_drewN HB2.out n3)
  go_wp2_with fail
  refine (next_yes _ n A c l (HL.out.below HB3.out) hn HU.out).mono ?_
  intro e w4 h4
  obtain ⟨rfl, hB⟩ := retX_none HS.out h4
  have HB4 := Lib.hid (HB3.out.trans (hB.mono HB3.out.size))
  clear hB h4
  go_wp2_with fail
  refine (rnext_yes _ n A c l (HL.out.below HB4.out) hn HU.out).mono ?_
  intro e w5 h5
  obtain ⟨rfl, hB⟩ := retX_none HS.out h5
  have HB5 := Lib.hid (HB4.out.trans (hB.mono HB4.out.size))
  clear hB h5
  go_wp2_with fail
  refine (ints_yes _ none none 0 0 [] [] (rk_none _ _) (rk_none _ _) rfl).mono ?_
  rintro e w6 ⟨n6, rfl, rfl⟩
  have HB6 := Lib.hid (below_drewN HB5.out n6)
  go_wp2_with fail
  go_ret
  exact ⟨rfl, HB6.out⟩

set_option maxHeartbeats 1600000 in
theorem subsets_some (w : World) (n i : Nat) (A : Option Addr) (c : Nat) (l : List Int) (hl : Rk w .i64 A c l) (hn : n ≤ 200) (hu : up n (-1) l = true) (hs : nxAt n l l.length = some i) :
    Calls Try.prog 9 #[.int .i64 (n : Int), .slice A l.length c] w (RetTrue w) := by
  have HL := Lib.hid hl
  have HU := Lib.hid hu
  have HS := Lib.hid hs
  clear hl hu hs
  go_enter Try.func9, Try.ntmps9
  go_wp2_with fail
  refine (rank_yes _ n A c l HL.out hn HU.out).mono ?_
  rintro e w1 ⟨A1, c1, x, rfl, HX, hx, hB⟩
  have HB1 := Lib.hid hB
  have RX1 := Lib.hid hx
  clear hB hx
  go_wp2_with fail
  refine (rrank_yes _ n A c l (HL.out.below HB1.out) hn HU.out).mono ?_
  rintro e w2 ⟨A2, c2, y, rfl, HY, hy, hB⟩
  have HB2 := Lib.hid (below_seq HB1.out hB)
  have RX2 := Lib.hid (RX1.out.below hB)
  have RY2 := Lib.hid hy
  clear hB hy
  go_wp2_with fail
  refine (limbs_yes _ A1 A2 _ _ x y RX2.out.1 RY2.out.1 (by rw [HX.out, HY.out])).mono ?_
  rintro e w3 ⟨n3, rfl, rfl⟩
  have HB3 := Lib.hid (below_drewN HB2.out n3)
  go_wp2_with fail
  refine (next_yes _ n A c l (HL.out.below HB3.out) hn HU.out).mono ?_
  intro e w4 h4
  obtain ⟨A4, c4, s, rfl, HS4, hs, hB⟩ := retX_some HS.out h4
  have HB4 := Lib.hid (HB3.out.trans (hB.mono HB3.out.size))
  have RS4 := Lib.hid hs
  clear hB h4 hs
  go_wp2_with fail
  refine (rnext_yes _ n A c l (HL.out.below HB4.out) hn HU.out).mono ?_
  intro e w5 h5
  obtain ⟨A5, c5, t, rfl, HT5, ht, hB⟩ := retX_some HS.out h5
  have HB5 := Lib.hid (HB4.out.trans (hB.mono HB4.out.size))
  have RS5 := Lib.hid (RS4.out.below hB)
  have RT5 := Lib.hid ht
  clear hB h5 ht
  go_wp2_with fail
  refine (ints_yes _ A4 A5 _ _ s t RS5.out RT5.out (by rw [HS4.out, HT5.out])).mono ?_
  rintro e w6 ⟨n6, rfl, rfl⟩
  have HB6 := Lib.hid (below_drewN HB5.out n6)
  go_wp2_with fail
  go_ret
  exact ⟨rfl, HB6.out⟩

theorem subsets_law (w : World) (n : Int) (hn : -9223372036854775808 ≤ n ∧ n ≤ 9223372036854775807) (A : Option Addr) (c : Nat) (l : List Int) (hl : Rk w .i64 A c l) (_ : ∀ x ∈ l, (Lit.int .i64 x).wf = true) (_ : l.length * 8 ≤ 140737488351232) :
    Calls Try.prog 9 #[.int .i64 n, .slice A l.length c] w (RetTrue w) := by
  by_cases h0 : 0 ≤ n ∧ n ≤ 200
  · obtain ⟨m, rfl⟩ := Int.eq_ofNat_of_zero_le h0.1
    cases hu : up m (-1) l with
    | false => exact subsets_not w m A c l hl (by omega) hu
    | true =>
      cases hs : nxAt m l l.length with
      | none => exact subsets_last w m A c l hl (by omega) hu hs
      | some i => exact subsets_some w m i A c l hl (by omega) hu hs
  · exact subsets_out w n A c l hl (by omega)

end Go.Proofs.Ytmafifpibfjomaa.M
