/- Multinomial coefficients of the program. -/
import Derived.Test.YtmafifpibfjomaaCombA
namespace Go.Proofs.Ytmafifpibfjomaa.M
open Go.RowKit
set_option linter.unusedVariables false

/-- The multinomial coefficient, part by part; none where a part is out of range. -/
def mtn (s : Int) (m : Nat) : List Int → Option Nat
  | [] => some m
  | p :: ps => if p < 0 ∨ 200 - s < p then none else mtn (s + p) (m * ch (s + p).toNat p.toNat) ps
def multR (ps : List Int) : Option Nat := if 201 < ps.length then none else mtn 0 1 ps
theorem mtn_drop {ps : List Int} {i : Nat} (hi : i < ps.length) (s : Int) (m : Nat) : mtn s m (ps.drop i) = if dg ps i < 0 ∨ 200 - s < dg ps i then none else mtn (s + dg ps i) (m * ch (s + dg ps i).toNat (dg ps i).toNat) (ps.drop (i + 1)) := by
  rw [List.drop_eq_getElem_cons hi, dg_get hi]
  rfl

set_option maxHeartbeats 800000 in
theorem multinomial_ok (w : World) (A : Option Addr) (c : Nat) (ps : List Int) (hp : Rk w .i64 A c ps) : Calls Try.prog 16 #[.slice A ps.length c] w (RetNB ((multR ps).getD 0) (multR ps).isSome w) := by
  have HP := Lib.hid hp
  have hmx : ps.length ≤ 9223372036854775807 := Nat.le_trans hp.1 hp.2.1
  clear hp
  by_cases hlen : 201 < ps.length
  · have e0 : multR ps = none := if_pos hlen
    rw [e0]
    clear e0
    have hd : decide (201 < (ps.length : Int)) = true := decide_eq_true (by omega)
    go_enter Try.func16, Try.ntmps16
    go_wp2_with fail
    go_ret2
    exact ⟨none, 0, [], rfl, rfl, RN.nil _, Below.refl _ _⟩
  · have e0 : multR ps = mtn 0 1 ps := if_neg hlen
    rw [e0]
    clear e0
    have hd : decide (201 < (ps.length : Int)) = false := decide_eq_false (by omega)
    have hd' : decide (201 < ps.length) = false := decide_eq_false hlen
    go_enter Try.func16, Try.ntmps16
    go_wp2_with fail
    refine (of_ok _ 1 (by omega) (by omega)).mono ?_
    rintro e w1 ⟨B, d, xs, rfl, HX, hx, hB⟩
    have HB := Lib.hid hB
    have RX := Lib.hid hx
    clear hB hx hd hd'
    go_wp2_with fail
    go_loopw [4, 5, 16] (fun fv sv iv wr => ∃ (i : Nat) (s : Int) (m : Nat) (B : Option Addr) (d : Nat) (f : List Int), i ≤ ps.length ∧ iv = .int .i64 (i : Int) ∧ sv = .int .i64 s ∧ 0 ≤ s ∧ s ≤ 200 ∧ fv = .slice B f.length d ∧ Hid (f = limbs m) ∧ f.length ≤ 1 + 201 * i ∧ Hid (mtn s m (ps.drop i) = mtn 0 1 ps) ∧ Hid (RN wr B d f) ∧ Hid (Below w.heap.size w wr)) (fun _ _ iv _ => ps.length - (intOf iv).toNat)
    case atStart => exact ⟨0, 0, 1, B, d, xs, Nat.zero_le _, rfl, rfl, Int.le_refl _, by omega, rfl, HX, by rw [HX.out]; exact limbs_len1 (by omega), rfl, RX, HB⟩
    case round =>
      clear HX RX HB
      obtain ⟨i, s, m, B, d, f, hi, rfl, rfl, hs0, hs1, rfl, HF, hfl, HM, RF, HB⟩ := hrel
      by_cases hlt : i < ps.length
      · obtain ⟨ad, rfl, hc⟩ := (HP.out.below HB.out).2.2 i hlt
        have HD := Lib.hid (mtn_drop hlt s m)
        by_cases h1 : dg ps i < 0
        · have h1d : decide (dg ps i < 0) = true := decide_eq_true h1
          have e1 : mtn 0 1 ps = none := by rw [← HM.out, HD.out, if_pos (.inl h1)]
          have HE := Lib.hid e1
          clear e1
          go_wp2_with fail
          go_ret2
          refine ⟨none, 0, [], ?_, ?_, RN.nil _, HB.out⟩
          · rw [HE.out]; rfl
          · rw [HE.out]; rfl
        · have h1d : decide (dg ps i < 0) = false := decide_eq_false h1
          by_cases h2 : 200 - s < dg ps i
          · have h2d : decide (200 - s < dg ps i) = true := decide_eq_true h2
            have e1 : mtn 0 1 ps = none := by rw [← HM.out, HD.out, if_pos (.inr h2)]
            have HE := Lib.hid e1
            clear e1
            go_wp2_with fail
            go_ret2
            refine ⟨none, 0, [], ?_, ?_, RN.nil _, HB.out⟩
            · rw [HE.out]; rfl
            · rw [HE.out]; rfl
          · have h2d : decide (200 - s < dg ps i) = false := decide_eq_false h2
            have e1 : mtn (s + dg ps i) (m * ch (s + dg ps i).toNat (dg ps i).toNat) (ps.drop (i + 1)) = mtn 0 1 ps := by
              rw [← HM.out, HD.out, if_neg (by omega)]
            have HE := Lib.hid e1
            clear e1
            go_wp2_with fail
            refine (choose_ok _ (s + dg ps i) (dg ps i) (by omega) (by omega)).mono ?_
            rintro e w1 ⟨A1, c1, t, rfl, HT, ht, hB⟩
            have HB1 := Lib.hid (below_seq HB.out hB)
            have RF1 := Lib.hid (RF.out.below hB)
            have RT := Lib.hid ht
            have et : chI (s + dg ps i) (dg ps i) = ch (s + dg ps i).toNat (dg ps i).toNat := by unfold chI; rw [if_neg (by omega)]
            have hl2 : t.length ≤ 201 := by rw [HT.out, et]; exact Nat.le_trans (ch_len _ _) (by omega)
            have HET := Lib.hid et
            clear hB ht HB RF et
            go_wp2_with fail
            refine (mul_ok _ B A1 _ _ f t RF1.out RT.out (by omega)).mono ?_
            rintro e w2 ⟨A2, c2, g, rfl, HG, hg, hB⟩
            have HB2 := Lib.hid (below_seq HB1.out hB)
            have RG := Lib.hid hg
            have EG : g = limbs (m * ch (s + dg ps i).toNat (dg ps i).toNat) := by
              rw [HG.out, HF.out, HT.out, V_limbs, V_limbs, HET.out]
              simp only [Int.toNat_natCast]
            have hl3 : g.length ≤ 1 + 201 * (i + 1) := by
              rw [EG]
              have := limbs_mul_len (a := m) (b := ch (s + dg ps i).toNat (dg ps i).toNat) (m := 1 + 201 * i) (n := 201) (by rw [← HF.out]; exact hfl) (Nat.le_trans (ch_len _ _) (by omega))
              omega
            have HEG := Lib.hid EG
            clear EG hB hg hl2 HB1 RF1 RT HG HT HET
            go_wp2_with fail
            go_roundw
            case rel => exact ⟨i + 1, s + dg ps i, _, A2, c2, g, hlt, by go_num, rfl, by omega, by omega, rfl, HEG, hl3, HE, RG, HB2⟩
            case measure => simp [intOf]; omega
      · obtain rfl : i = ps.length := by omega
        have e1 : mtn 0 1 ps = some m := by
          rw [← HM.out, List.drop_length]
          rfl
        have HE := Lib.hid e1
        clear e1
        go_wp2_with fail
        go_ret2
        refine ⟨B, d, f, ?_, ?_, RF.out, HB.out⟩
        · rw [HE.out]; rfl
        · show f = _
          rw [HE.out, HF.out]; rfl

end Go.Proofs.Ytmafifpibfjomaa.M
