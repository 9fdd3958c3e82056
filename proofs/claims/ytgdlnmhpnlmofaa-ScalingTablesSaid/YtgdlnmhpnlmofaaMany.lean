/- Several ratios in a slice; whether one of them is long; the first error of a scale and a list. -/
import Derived.Test.YtgdlnmhpnlmofaaLawMono
namespace Go.Proofs.Ytgdlnmhpnlmofaa.M
set_option maxRecDepth 10000
open Go.RowKit
set_option linter.unusedVariables false
set_option linter.unusedSimpArgs false
/-- A ratio as it lies in memory. -/
structure Rt where
  b : Bool
  A : Option Addr
  c : Nat
  xs : List Int
  B : Option Addr
  d : Nat
  ys : List Int
def Rt.q (r : Rt) : Rat := qv r.b r.xs r.ys
/-- A slice of ratios that is read. -/
def Rs (w : World) (S : Option Addr) (c : Nat) (rs : List Rt) : Prop :=
  rs.length ≤ c ∧ c ≤ 9223372036854775807 ∧ ∀ j r, rs[j]? = some r → ∃ ad, S = some ad ∧ w.cell? (ad.add (j * 3)) = some (.bool r.b) ∧ w.cell? ((ad.add (j * 3)).add 1) = some (.slice r.A r.xs.length r.c) ∧ w.cell? ((ad.add (j * 3)).add 2) = some (.slice r.B r.ys.length r.d) ∧ RN w r.A r.c r.xs ∧ RN w r.B r.d r.ys
theorem Rs.below {w w1 : World} {S : Option Addr} {c : Nat} {rs : List Rt} (h : Rs w S c rs) (hb : Below w.heap.size w w1) : Rs w1 S c rs := by
  refine ⟨h.1, h.2.1, fun j r hj => ?_⟩
  obtain ⟨ad, e, h0, h1, h2, h3, h4⟩ := h.2.2 j r hj
  exact ⟨ad, e, (hb.cell (World.block_lt_of_cell? w _ h0)).trans h0, (hb.cell (World.block_lt_of_cell? w _ h1)).trans h1, (hb.cell (World.block_lt_of_cell? w _ h2)).trans h2, h3.below hb, h4.below hb⟩
theorem Rs.at {w : World} {S : Option Addr} {c : Nat} {rs : List Rt} (h : Rs w S c rs) {j : Nat} (hj : j < rs.length) : ∃ ad b A c xs B d ys, S = some ad ∧ rs[j]? = some ⟨b, A, c, xs, B, d, ys⟩ ∧ w.cell? (ad.add (j * 3)) = some (.bool b) ∧ w.cell? ⟨(ad.add (j * 3)).block, (ad.add (j * 3)).off + 1, none⟩ = some (.slice A xs.length c) ∧ w.cell? ⟨(ad.add (j * 3)).block, (ad.add (j * 3)).off + 2, none⟩ = some (.slice B ys.length d) ∧ RN w A c xs ∧ RN w B d ys := by
  obtain ⟨r, hr⟩ : ∃ r, rs[j]? = some r := ⟨_, List.getElem?_eq_getElem hj⟩
  obtain ⟨ad, e, h0, h1, h2, h3, h4⟩ := h.2.2 j r hr
  obtain ⟨b, A, c, xs, B, d, ys⟩ := r
  exact ⟨ad, b, A, c, xs, B, d, ys, e, hr, h0, h1, h2, h3, h4⟩
/-- One of the first 70 is long. -/
def anyBig (rs : List Rt) : Bool := (rs.take 70).any fun r => big r.xs r.ys
theorem anyBig_no {rs : List Rt} {k : Nat} (h : ∀ j r, j < k → rs[j]? = some r → big r.xs r.ys = false) (hk : 70 ≤ k ∨ rs.length ≤ k) : anyBig rs = false := by
  unfold anyBig
  rw [List.any_eq_false]
  intro r hr
  obtain ⟨j, hj⟩ := List.mem_iff_getElem?.1 hr
  rw [List.getElem?_take] at hj
  split at hj
  · have := (List.getElem?_eq_some_iff.1 hj).1
    rw [h j r (by omega) hj]
    decide
  · cases hj
theorem anyBig_yes {rs : List Rt} {j : Nat} {r : Rt} (hj : j < 70) (hr : rs[j]? = some r) (h : big r.xs r.ys = true) : anyBig rs = true := by
  unfold anyBig
  rw [List.any_eq_true]
  refine ⟨r, List.mem_of_getElem? (i := j) ?_, h⟩
  rw [List.getElem?_take, if_pos hj, hr]
theorem anyBig_small {rs : List Rt} (h : anyBig rs = false) (hl : rs.length ≤ 70) {j : Nat} {r : Rt} (hr : rs[j]? = some r) : r.xs.length ≤ 20 ∧ r.ys.length ≤ 20 := by
  have h1 : big r.xs r.ys = false := by
    cases hb : big r.xs r.ys with
    | false => rfl
    | true =>
      have hj := (List.getElem?_eq_some_iff.1 hr).1
      rw [anyBig_yes (by omega) hr hb] at h
      cases h
  unfold big at h1
  simp only [Bool.or_eq_false_iff, decide_eq_false_iff_not] at h1
  omega

set_option maxHeartbeats 1600000 in
theorem much_ok (w : World) (S : Option Addr) (c : Nat) (rs : List Rt) (hrs : Rs w S c rs) :
    Calls Try.prog 22 #[.slice S rs.length c] w (fun e w' => e = .returned (.bool (anyBig rs)) ∧ Below w.heap.size w w') := by
  have hmx : rs.length ≤ 9223372036854775807 := Nat.le_trans hrs.1 hrs.2.1
  have HRS := Lib.hid hrs
  clear hrs
  go_enter Try.func22, Try.ntmps22
  go_wp2_with fail
  go_loopw [3] (fun iv wr => ∃ k : Nat, iv = .int .i64 (k : Int) ∧ k ≤ rs.length ∧ k ≤ 70 ∧ Hid (∀ j r, j < k → rs[j]? = some r → big r.xs r.ys = false) ∧ Hid (Below w.heap.size w wr)) (fun iv _ => rs.length - (intOf iv).toNat)
  case atStart => exact ⟨0, rfl, Nat.zero_le _, by omega, fun j r hj => by omega, Below.refl _ _⟩
  case round =>
    obtain ⟨k, rfl, hk, hk7, HN, HB⟩ := hrel
    by_cases hlt : k < rs.length ∧ k < 70
    · obtain ⟨hlt, h7⟩ := hlt
      have d1 : decide ((k : Int) < (rs.length : Int)) = true := decide_eq_true (by omega)
      have d2 : decide ((k : Int) < 70) = true := decide_eq_true (by omega)
      obtain ⟨ad, b, A, c2, xs, B, d, ys, rfl, HR, h0, h1, h2, h3, h4⟩ := (HRS.out.below HB.out).at hlt
      have HR := Lib.hid HR
      clear h3 h4
      go_wp2_with fail
      refine (large_ok _ b A B c2 d xs ys).mono ?_
      obtain ⟨g, hg⟩ : ∃ g, big xs ys = g := ⟨_, rfl⟩
      have HG := Lib.hid hg
      rw [hg]
      clear hg
      rintro e w1 ⟨rfl, hB⟩
      have HB1 := Lib.hid (HB.out.trans (hB.mono HB.out.size))
      clear hB HB h0 h1 h2
      cases g
      · go_wp2_with fail
        go_roundw
        case rel =>
          exact ⟨k + 1, by go_num, hlt, h7, fun j r hj hr => by
            rcases Nat.lt_or_ge j k with h | h
            · exact HN.out j r h hr
            · obtain rfl : j = k := by omega
              rw [HR.out] at hr
              injection hr with hr
              subst hr
              exact HG.out, HB1⟩
        case measure => simp [intOf]; omega
      · have HE : Hid (anyBig rs = true) := anyBig_yes h7 HR.out HG.out
        go_wp2_with fail
        go_ret
        exact ⟨by rw [HE.out]; rfl, HB1.out⟩
    · have HE : Hid (anyBig rs = false) := anyBig_no HN.out (by omega)
      by_cases h1 : k < rs.length
      · have d1 : decide ((k : Int) < (rs.length : Int)) = true := decide_eq_true (by omega)
        have d1' : decide (k < rs.length) = true := decide_eq_true (by omega)
        have d2 : decide ((k : Int) < 70) = false := decide_eq_false (by omega)
        clear h1 hlt
        go_wp2_with fail
        go_ret
        exact ⟨by rw [HE.out]; rfl, HB.out⟩
      · have d1 : decide ((k : Int) < (rs.length : Int)) = false := decide_eq_false (by omega)
        have d1' : decide (k < rs.length) = false := decide_eq_false (by omega)
        clear h1 hlt
        go_wp2_with fail
        go_ret
        exact ⟨by rw [HE.out]; rfl, HB.out⟩

end Go.Proofs.Ytgdlnmhpnlmofaa.M
