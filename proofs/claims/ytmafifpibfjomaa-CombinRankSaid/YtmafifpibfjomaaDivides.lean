/- The law CombinDivides: its walk, and the plain law that a multinomial coefficient does not depend on the order of the parts. -/
import Derived.Test.YtmafifpibfjomaaPascal
namespace Go.Proofs.Ytmafifpibfjomaa.M
open Go.RowKit
set_option linter.unusedVariables false

/-! The multinomial coefficient as a quotient of factorials. -/
/-- Parts that add up to at most 200, none negative. -/
def Parts (s : Int) : List Int → Prop
  | [] => True
  | p :: ps => 0 ≤ p ∧ s + p ≤ 200 ∧ Parts (s + p) ps
def sumI : List Int → Int
  | [] => 0
  | p :: ps => p + sumI ps
def facts : List Int → Nat
  | [] => 1
  | p :: ps => fact p.toNat * facts ps
theorem facts_pos (ps : List Int) : 0 < facts ps := by
  induction ps with
  | nil => decide
  | cons p ps ih => exact Nat.mul_pos (fact_pos _) ih
theorem mtn_some {ps : List Int} : ∀ {s : Int} {m r : Nat}, 0 ≤ s → mtn s m ps = some r → Parts s ps ∧ r * (fact s.toNat * facts ps) = m * fact (s + sumI ps).toNat := by
  induction ps with
  | nil => intro s m r h0 h; simp [mtn] at h; subst h; exact ⟨trivial, by simp [facts, sumI]⟩
  | cons p ps ih =>
    intro s m r h0 h
    simp only [mtn] at h
    split at h
    · cases h
    · rename_i hc
      obtain ⟨h1, h2⟩ := ih (by omega) h
      refine ⟨⟨by omega, by omega, h1⟩, ?_⟩
      have e1 : (s + p).toNat = s.toNat + p.toNat := by omega
      have h3 := ch_fact (p.toNat + s.toNat) p.toNat s.toNat rfl
      have e2 : p.toNat + s.toNat = (s + p).toNat := by omega
      rw [e2] at h3
      have hp := fact_pos (s + p).toNat
      refine Nat.eq_of_mul_eq_mul_right hp ?_
      simp only [facts, sumI]
      rw [← Int.add_assoc]
      calc r * (fact s.toNat * (fact p.toNat * facts ps)) * fact (s + p).toNat
          = (fact p.toNat * fact s.toNat) * (r * (fact (s + p).toNat * facts ps)) := by simp only [Nat.mul_assoc, Nat.mul_comm, Nat.mul_left_comm]
        _ = (fact p.toNat * fact s.toNat) * (m * ch (s + p).toNat p.toNat * fact (s + p + sumI ps).toNat) := by rw [h2]
        _ = m * fact (s + p + sumI ps).toNat * (ch (s + p).toNat p.toNat * (fact p.toNat * fact s.toNat)) := by simp only [Nat.mul_assoc, Nat.mul_comm, Nat.mul_left_comm]
        _ = m * fact (s + p + sumI ps).toNat * fact (s + p).toNat := by rw [h3]
theorem mtn_none {ps : List Int} : ∀ {s : Int} {m : Nat}, mtn s m ps = none → ¬ Parts s ps := by
  induction ps with
  | nil => intro s m h; simp [mtn] at h
  | cons p ps ih =>
    intro s m h hp
    obtain ⟨h1, h2, h3⟩ := hp
    simp only [mtn] at h
    rw [if_neg (by omega)] at h
    exact ih h h3
theorem Parts_iff {ps : List Int} : ∀ {s : Int}, 0 ≤ s → s ≤ 200 → (Parts s ps ↔ (∀ p ∈ ps, 0 ≤ p) ∧ s + sumI ps ≤ 200) := by
  induction ps with
  | nil => intro s h0 h1; simp [Parts, sumI]; omega
  | cons p ps ih =>
    intro s h0 h1
    constructor
    · rintro ⟨h2, h3, h4⟩
      obtain ⟨h5, h6⟩ := (ih (by omega) h3).1 h4
      refine ⟨fun q hq => ?_, by simp only [sumI]; omega⟩
      rcases List.mem_cons.1 hq with h | h
      · rw [h]; exact h2
      · exact h5 q h
    · rintro ⟨h2, h3⟩
      have hp := h2 p List.mem_cons_self
      have hs : 0 ≤ sumI ps := by
        have : ∀ l : List Int, (∀ q ∈ l, 0 ≤ q) → 0 ≤ sumI l := by
          intro l
          induction l with
          | nil => intro _; exact Int.le_refl _
          | cons a l ihl => intro h; have := h a List.mem_cons_self; have := ihl (fun q hq => h q (List.mem_cons_of_mem _ hq)); simp only [sumI]; omega
        exact this ps (fun q hq => h2 q (List.mem_cons_of_mem _ hq))
      simp only [sumI] at h3
      exact ⟨hp, by omega, (ih (by omega) (by omega)).2 ⟨fun q hq => h2 q (List.mem_cons_of_mem _ hq), by omega⟩⟩
theorem sumI_append (a b : List Int) : sumI (a ++ b) = sumI a + sumI b := by
  induction a with
  | nil => simp [sumI]
  | cons p a ih => simp only [List.cons_append, sumI, ih]; omega
theorem facts_append (a b : List Int) : facts (a ++ b) = facts a * facts b := by
  induction a with
  | nil => simp [facts]
  | cons p a ih => simp only [List.cons_append, facts, ih, Nat.mul_assoc]
theorem sumI_reverse (a : List Int) : sumI a.reverse = sumI a := by
  induction a with
  | nil => rfl
  | cons p a ih => rw [List.reverse_cons, sumI_append, ih]; simp only [sumI]; omega
theorem facts_reverse (a : List Int) : facts a.reverse = facts a := by
  induction a with
  | nil => rfl
  | cons p a ih => rw [List.reverse_cons, facts_append, ih]; simp only [facts, Nat.mul_one]; rw [Nat.mul_comm]
/-- The order of the parts does not matter. -/
theorem mtn_reverse (ps : List Int) : mtn 0 1 ps.reverse = mtn 0 1 ps := by
  have hP : Parts 0 ps.reverse ↔ Parts 0 ps := by
    rw [Parts_iff (by omega) (by omega), Parts_iff (by omega) (by omega), sumI_reverse]
    simp only [List.mem_reverse]
  cases h1 : mtn 0 1 ps with
  | none =>
    cases h2 : mtn 0 1 ps.reverse with
    | none => rfl
    | some r => exact absurd (hP.1 (mtn_some (by omega) h2).1) (mtn_none h1)
  | some r =>
    cases h2 : mtn 0 1 ps.reverse with
    | none => exact absurd (hP.2 (mtn_some (by omega) h1).1) (mtn_none h2)
    | some t =>
      obtain ⟨_, e1⟩ := mtn_some (by omega) h1
      obtain ⟨_, e2⟩ := mtn_some (by omega) h2
      rw [sumI_reverse, facts_reverse] at e2
      have := Nat.eq_of_mul_eq_mul_right (Nat.mul_pos (fact_pos _) (facts_pos _)) (e2.trans e1.symm)
      rw [this]
theorem multR_reverse (ps : List Int) : multR ps.reverse = multR ps := by
  unfold multR
  rw [List.length_reverse, mtn_reverse]
theorem mtn_pos {ps : List Int} {r : Nat} (h : mtn 0 1 ps = some r) : 0 < r := by
  obtain ⟨_, e⟩ := mtn_some (by omega) h
  rcases Nat.eq_zero_or_pos r with h0 | h0
  · rw [h0, Nat.zero_mul, Nat.one_mul] at e
    have := fact_pos (0 + sumI ps).toNat
    omega
  · exact h0

theorem info_int : (Try.prog.info? 3).map (fun i => (i.zero, i.size, i.bytes)) = some (some (.int .i64 0), 1, 8) := by kernel_rfl
theorem OwnI.nil (w : World) (base e : Nat) (k : IntKind) : OwnI w base e k (.slice none 0 0) [] := World.ownsRow_nil w base e 1
theorem drop_rev (ps : List Int) (k : Nat) (hk : k < ps.length) : (ps.drop (k + 1)).reverse ++ [dg ps k] = (ps.drop k).reverse := by
  rw [List.drop_eq_getElem_cons hk, List.reverse_cons, dg_get hk]

set_option maxHeartbeats 1600000 in
theorem divides (w : World) (A : Option Addr) (c : Nat) (ps : List Int) (hp : Rk w .i64 A c ps) (hwf : ∀ x ∈ ps, (Lit.int .i64 x).wf = true) (hsz : ps.length * 8 ≤ 140737488351232) :
    Calls Try.prog 5 #[.slice A ps.length c] w (RetTrue w) := by
  have HP := Lib.hid hp
  have hmx : ps.length ≤ 9223372036854775807 := Nat.le_trans hp.1 hp.2.1
  clear hp hwf
  obtain ⟨i0, hi, hz0, hz1, hz2⟩ := info_parts info_int
  go_enter Try.func5, Try.ntmps5
  go_wp2_with fail
  refine (multinomial_ok _ A c ps HP.out).mono ?_
  rintro e w1 ⟨A1, c1, x, rfl, HX, hx, hB⟩
  have HB1 := Lib.hid hB
  have RX1 := Lib.hid hx
  clear hB hx
  by_cases hlen : 201 < ps.length
  · have e0 : (multR ps).isSome = false := by rw [show multR ps = none from if_pos hlen]; rfl
    rw [e0]
    clear e0
    have hd : decide (201 < (ps.length : Int)) = true := decide_eq_true (by omega)
    have hd' : decide (201 < ps.length) = true := decide_eq_true hlen
    go_wp2_with fail
    go_ret
    exact ⟨rfl, HB1.out⟩
  · have hd : decide (201 < (ps.length : Int)) = false := decide_eq_false (by omega)
    have hd' : decide (201 < ps.length) = false := decide_eq_false hlen
    have HR : Hid (multR ps = mtn 0 1 ps) := if_neg hlen
    go_wp2_with fail
    refine (of_ok _ 1 (by omega) (by omega)).mono ?_
    rintro e w2 ⟨B, d, xs, rfl, HF0, hx, hB⟩
    have HB2 := Lib.hid (below_seq HB1.out hB)
    have RX2 := Lib.hid (RX1.out.below hB)
    have RF2 := Lib.hid hx
    clear hB hx hd hd' HB1 RX1
    go_wp2_with fail
    go_loopw [5, 6, 7] (fun fv sv iv wr => ∃ (i : Nat) (s : Int) (m : Nat) (B : Option Addr) (d : Nat) (f : List Int), i ≤ ps.length ∧ iv = .int .i64 (i : Int) ∧ sv = .int .i64 s ∧ 0 ≤ s ∧ s ≤ 200 ∧ fv = .slice B f.length d ∧ Hid (f = limbs m) ∧ f.length ≤ 1 + 201 * i ∧ Hid (mtn s m (ps.drop i) = mtn 0 1 ps) ∧ Hid (RN wr B d f) ∧ Hid (RN wr A1 c1 x) ∧ Hid (Below w.heap.size w wr)) (fun _ _ iv _ => ps.length - (intOf iv).toNat)
    case atStart => exact ⟨0, 0, 1, B, d, xs, Nat.zero_le _, rfl, rfl, Int.le_refl _, by omega, rfl, HF0, by rw [HF0.out]; exact limbs_len1 (by omega), rfl, RF2, RX2, HB2⟩
    case round =>
      clear HF0 RF2 RX2 HB2
      obtain ⟨i, s, m, B, d, f, hi', rfl, rfl, hs0, hs1, rfl, HF, hfl, HM, RF, RX, HB⟩ := hrel
      by_cases hlt : i < ps.length
      · obtain ⟨ad, rfl, hc⟩ := (HP.out.below HB.out).2.2 i hlt
        have HD := Lib.hid (mtn_drop hlt s m)
        by_cases h1 : dg ps i < 0
        · have h1d : decide (dg ps i < 0) = true := decide_eq_true h1
          have e1 : (multR ps).isSome = false := by rw [HR.out, ← HM.out, HD.out, if_pos (.inl h1)]; rfl
          rw [e1]
          clear e1
          go_wp2_with fail
          go_ret
          exact ⟨rfl, HB.out⟩
        · have h1d : decide (dg ps i < 0) = false := decide_eq_false h1
          by_cases h2 : 200 - s < dg ps i
          · have h2d : decide (200 - s < dg ps i) = true := decide_eq_true h2
            have e1 : (multR ps).isSome = false := by rw [HR.out, ← HM.out, HD.out, if_pos (.inr h2)]; rfl
            rw [e1]
            clear e1
            go_wp2_with fail
            go_ret
            exact ⟨rfl, HB.out⟩
          · have h2d : decide (200 - s < dg ps i) = false := decide_eq_false h2
            have e1 : mtn (s + dg ps i) (m * ch (s + dg ps i).toNat (dg ps i).toNat) (ps.drop (i + 1)) = mtn 0 1 ps := by
              rw [← HM.out, HD.out, if_neg (by omega)]
            have HE := Lib.hid e1
            clear e1
            go_wp2_with fail
            refine (choose_ok _ (s + dg ps i) (dg ps i) (by omega) (by omega)).mono ?_
            rintro e w3 ⟨A3, c3, t, rfl, HT, ht, hB⟩
            have HB3 := Lib.hid (below_seq HB.out hB)
            have RF3 := Lib.hid (RF.out.below hB)
            have RX3 := Lib.hid (RX.out.below hB)
            have RT := Lib.hid ht
            have et : chI (s + dg ps i) (dg ps i) = ch (s + dg ps i).toNat (dg ps i).toNat := by unfold chI; rw [if_neg (by omega)]
            have hl2 : t.length ≤ 201 := by rw [HT.out, et]; exact Nat.le_trans (ch_len _ _) (by omega)
            have HET := Lib.hid et
            clear hB ht HB RF RX et
            go_wp2_with fail
            refine (mul_ok _ B A3 _ _ f t RF3.out RT.out (by omega)).mono ?_
            rintro e w4 ⟨A4, c4, g, rfl, HG, hg, hB⟩
            have HB4 := Lib.hid (below_seq HB3.out hB)
            have RX4 := Lib.hid (RX3.out.below hB)
            have RG := Lib.hid hg
            have EG : g = limbs (m * ch (s + dg ps i).toNat (dg ps i).toNat) := by
              rw [HG.out, HF.out, HT.out, V_limbs, V_limbs, HET.out]
              simp only [Int.toNat_natCast]
            have hl3 : g.length ≤ 1 + 201 * (i + 1) := by
              rw [EG]
              have := limbs_mul_len (a := m) (b := ch (s + dg ps i).toNat (dg ps i).toNat) (m := 1 + 201 * i) (n := 201) (by rw [← HF.out]; exact hfl) (Nat.le_trans (ch_len _ _) (by omega))
              omega
            have HEG := Lib.hid EG
            clear EG hB hg hl2 HB3 RF3 RX3 RT HG HT HET
            go_wp2_with fail
            go_roundw
            case rel => exact ⟨i + 1, s + dg ps i, _, A4, c4, g, hlt, by go_num, rfl, by omega, by omega, rfl, HEG, hl3, HE, RG, RX4, HB4⟩
            case measure => simp [intOf]; omega
      · obtain rfl : i = ps.length := by omega
        have e1 : mtn 0 1 ps = some m := by rw [← HM.out, List.drop_length]; rfl
        have e2 : (multR ps).isSome = true := by rw [HR.out, e1]; rfl
        have e3 : x = limbs m := by rw [HX.out, HR.out, e1]; rfl
        have HE1 := Lib.hid e1
        have HE3 := Lib.hid e3
        have hxl : x.length ≤ 201 * 202 := by rw [HE3.out, ← HF.out]; omega
        rw [e2]
        clear e1 e2 e3 HX
        go_wp2_with fail
        obtain ⟨wo, rfl⟩ : ∃ wo : World, wo = wr := ⟨_, rfl⟩
        go_loopw [10, 11] (fun bv iv wr => ∃ (k : Nat) (bk : List Int), k ≤ ps.length ∧ iv = .int .i64 ((k : Int) - 1) ∧ Hid (bk = (ps.drop k).reverse) ∧ bk.length ≤ 201 ∧ OwnI wr wo.heap.size 3 .i64 bv bk ∧ Hid (Below wo.heap.size wo wr)) (fun _ iv _ => (intOf iv + 1).toNat)
        case atStart => exact ⟨ps.length, [], Nat.le_refl _, rfl, by simp [Hid], by simp, OwnI.nil _ _ _ _, Below.refl _ _⟩
        case round =>
          obtain ⟨k, bk, hk, rfl, HK, hbl, HO, HBo⟩ := hrel
          by_cases h0 : k = 0
          · subst h0
            obtain ⟨A5, c5, rfl, hr⟩ := own_rk HO
            have HR5 := Lib.hid hr
            clear hr HO
            go_wp2_with fail
            refine (multinomial_ok _ A5 c5 bk HR5.out).mono ?_
            rintro e w6 ⟨A6, c6, y, rfl, HY, hy, hB⟩
            have HBo6 := below_seq HBo.out hB
            have HB6 := Lib.hid (below_seq HB.out HBo6)
            have RF6 := Lib.hid (RF.out.below HBo6)
            have RX6 := Lib.hid (RX.out.below HBo6)
            have RY6 := Lib.hid hy
            have eb : multR bk = some m := by rw [HK.out, List.drop_zero, multR_reverse, HR.out, HE1.out]
            rw [eb]
            have ey : y = x := by rw [HY.out, eb, HE3.out]; rfl
            have HEY := Lib.hid ey
            clear eb ey hB hy HB RF RX HY HBo6
            go_wp2_with fail
            refine (limbs_yes _ A1 B _ _ x f RX6.out.1 RF6.out.1 (by rw [HE3.out, HF.out])).mono ?_
            rintro e w7 ⟨n7, rfl, rfl⟩
            have HB7 := Lib.hid (below_drewN HB6.out n7)
            have RX7 := Lib.hid (RX6.out.below (below_drewN (Below.refl _ _) n7))
            have RY7 := Lib.hid (RY6.out.below (below_drewN (Below.refl _ _) n7))
            clear RY6 RF6
            go_wp2_with fail
            refine (limbs_yes _ A6 A1 _ _ y x RY7.out.1 RX7.out.1 HEY.out).mono ?_
            rintro e w8 ⟨n8, rfl, rfl⟩
            have HB8 := Lib.hid (below_drewN HB6.out (n7 + n8))
            have RX8 := Lib.hid (RX6.out.below (below_drewN (Below.refl _ _) (n7 + n8)))
            clear HB7 RX7 RY7 HB6 RX6
            go_wp2_with fail
            refine (bits_ok _ A1 _ x RX8.out (by omega)).mono ?_
            rintro e w9 ⟨v, rfl, HV, hv, rfl⟩
            have hv0 : 0 < v := by
              rcases (show v = 0 ∨ 0 < v by omega) with h0 | h0
              · have h1 := HV.out.1 h0
                rw [HE3.out, V_limbs] at h1
                have := mtn_pos HE1.out
                omega
              · exact h0
            clear HV
            go_wp2_with fail
            go_ret
            exact ⟨rfl, HB8.out⟩
          · obtain ⟨j, rfl⟩ : ∃ j, k = j + 1 := ⟨k - 1, by omega⟩
            have ej : ((j + 1 : Nat) : Int) - 1 = (j : Int) := by omega
            rw [ej]
            clear ej h0
            obtain ⟨ad, rfl, hc⟩ := (HP.out.below (below_seq HB.out HBo.out)).2.2 j (by omega)
            have hb201 : bk.length + j + 1 ≤ 201 := by
              rw [HK.out]
              simp only [List.length_reverse, List.length_drop]
              omega
            have HS : Hid (bk ++ [dg ps j] = (ps.drop j).reverse) := by
              show _ = _
              rw [HK.out]
              exact drop_rev ps j (by omega)
            go_wp2_with (at_builtin; refine wpList_append1 rfl _ _ 29 rfl Try.underlying29 hi hz0 hz1 hz2 rfl rfl HO HBo.out HBo.out.size ?_ ?_; (omega))
            clear HO HBo
            intro v' w2 HO HBo
            go_wp2_with fail
            go_roundw
            case rel => exact ⟨j, _, by omega, rfl, HS, by simp only [List.length_append, List.length_singleton]; omega, HO, HBo⟩
            case measure => simp [intOf]

end Go.Proofs.Ytmafifpibfjomaa.M
