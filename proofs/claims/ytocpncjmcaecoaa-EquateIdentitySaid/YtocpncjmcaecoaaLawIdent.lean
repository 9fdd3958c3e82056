/- The law EquateIdentity: its walk. -/
import Derived.Test.YtocpncjmcaecoaaEqH
import Derived.Test.YtocpncjmcaecoaaIdeP
namespace Go.Proofs.Ytocpncjmcaecoaa.M
set_option maxRecDepth 10000
open Go.RowKit
set_option linter.unusedVariables false
set_option linter.unusedSimpArgs false

set_option maxHeartbeats 12800000 in
theorem identity_ok (w : World) (FA : Option Addr) (fc : Nat) (f : List Int) (GA : Option Addr) (gc : Nat) (g : List Int) (hf : Rk w .i64 FA fc f) (hg : Rk w .i64 GA gc g) :
    Calls Try.prog 5 #[.slice FA f.length fc, .slice GA g.length gc] w (RetT w) := by
  have HR := Lib.hid hf
  have HG := Lib.hid hg
  have hcl := hf.1
  have hcm := hf.2.1
  have hgl := hg.1
  have hgm := hg.2.1
  clear hf hg
  go_enter Try.func5, Try.ntmps5
  obtain ⟨E, hE⟩ : ∃ E, validE f = E := ⟨_, rfl⟩
  obtain ⟨G, hG⟩ : ∃ G, validE g = G := ⟨_, rfl⟩
  obtain ⟨P, hP⟩ : ∃ P, pairE f g = P := ⟨_, rfl⟩
  have HE := Lib.hid hE
  have HGE := Lib.hid hG
  have HP := Lib.hid hP
  clear hE hG hP
  have H_w : Hid (Mo w w [] []) := Mo.start w
  have ee1 : (E == E) = true := beq_self_eq_true E
  have ee2 : (E != E) = false := bne_self_eq_false E
  have gg1 : (G == G) = true := beq_self_eq_true G
  have gg2 : (G != G) = false := bne_self_eq_false G
  go_wp2_with fail
  refine (etable_ok w FA fc f FA fc f HR.out HR.out).mono ?_
  rintro e_ w1 ⟨TA, tc, rs, e5, rfl, HTB, hT, hB⟩
  have H_w1 := Lib.hid (Mo.call H_w.out hB)
  have HTT := Lib.hid hT
  obtain rfl : e5 = E := by rw [tab_err HTB.out, pair_self]; exact HE.out
  clear hT
  clear hB
  go_wp2_with fail
  refine (evalid_ok w1 FA fc f (HR.out.below H_w1.out.below)).mono ?_
  rintro e_ w1 ⟨rfl, rfl⟩
  rw [HE.out]
  have hrl : rs.length ≤ f.length := by
    by_cases h : pairE f f = 0
    · rw [tab_len HTB.out h]; exact Nat.le_refl _
    · rw [tab_nil HTB.out h]; exact Nat.zero_le _
  have hr61 : rs.length ≤ 61 := by
    by_cases h : pairE f f = 0
    · have := (valid_parts ((pair_self f).symm.trans h)).1
      omega
    · rw [tab_nil HTB.out h]; exact Nat.zero_le _
  go_wp2_with fail
  go_loopw [7, 8, 24] (fun v7 v8 iv wr => ∃ (k : Nat), iv = .int .i64 (k : Int) ∧ k ≤ rs.length ∧ Hid (Below w1.heap.size w1 wr)) (fun _ _ iv _ => rs.length - (intOf iv).toNat)
  case atStart => exact ⟨0, rfl, Nat.zero_le _, Below.refl _ _⟩
  case round =>
    obtain ⟨k, rfl, hk, HB⟩ := hrel
    have H_wr := Lib.hid (Mo.call H_w1.out HB.out)
    by_cases hlt : k < rs.length
    · have d1 : decide ((k : Int) < (rs.length : Int)) = true := decide_eq_true (by omega)
      have hkf : k < f.length := by omega
      have d2_ : decide ((f.length : Int) ≤ (k : Int)) = false := decide_eq_false (by omega)
      have d3_ : decide (f.length ≤ k) = false := decide_eq_false (by omega)
      have bk1 : (0 : Int) ≤ (k : Int) := by omega
      have bk2 : (k : Int) < (rs.length : Int) := by omega
      have bk3 : (k : Int) < (f.length : Int) := by omega
      obtain ⟨ad, b, A, c2, xs, B, d, ys, rfl, hr, h0, h1, h2, h3, h4⟩ := (HTT.out.below HB.out).at hlt
      have HRK := Lib.hid hr
      have H3 := Lib.hid h3
      have H4 := Lib.hid h4
      clear hr h3 h4
      obtain ⟨fd, rfl, hcf⟩ := HR.out.2.2 k hkf
      obtain ⟨n, hn⟩ : ∃ n, dg f k = n := ⟨_, rfl⟩
      rw [hn] at hcf
      have HN := Lib.hid hn
      have HCF := Lib.hid hcf
      clear hn hcf
      go_upto_region 7 with fail
      obtain ⟨T, hT⟩ : ∃ T, T = wr.alloc (.cells #[.bool b, .slice A xs.length c2, .slice B ys.length d] 28) := ⟨_, rfl⟩
      rw [← hT]
      have HBT : Hid (Below wr.heap.size wr T) := by rw [hT]; exact (Below.refl _ _).alloc (Nat.le_refl _) _
      have H_T : Hid (Mo w T _ _) := Lib.hid (by rw [hT]; exact H_wr.out.alloc (t := 28) (cs := #[.bool b, .slice A xs.length c2, .slice B ys.length d]) (nd_rat _ _ _ _ _ _ _))
      clear hT
      have k0Tc0 := ((H_T.out.var 0 rfl)).cell 0 rfl
      have k0Tc1 := ((H_T.out.var 0 rfl)).cell 1 rfl
      have k0Tc2 := ((H_T.out.var 0 rfl)).cell 2 rfl
      have HB2 := Lib.hid (below_seq HB.out HBT.out)
      have hcr := cell_belowE H_T.out.below HCF.out
      clear h0 h1 h2
      by_cases hn0 : 0 < n
      rotate_left
      · have dn : decide (0 < n) = false := decide_eq_false hn0
        have hn1 : n ≤ 0 := by omega
        clear hn0
        go_wp2_with fail
        go_quiet (fail)
        go_wp2_with fail
        go_roundw
        case rel => exact ⟨k + 1, by go_num, hlt, by first | exact HB2 | exact Lib.hid HB2.out.drew | exact Lib.hid (below_drewN HB2.out _)⟩
        case measure => simp [intOf]; omega
      have dn : decide (0 < n) = true := decide_eq_true hn0
      have hnf := tab_self HTB.out HRK.out (by rw [HN.out]; exact hn0)
      have HNF := Lib.hid hnf
      clear hnf
      have H_Td := Lib.hid H_T.out.drew
      first
      | go_region_held3 (fun w' => w'.cell? ⟨wr.heap.size, 0, none⟩ = some (.bool b) ∧ w'.cell? ⟨wr.heap.size, 1, none⟩ = some (.slice A xs.length c2) ∧ w'.cell? ⟨wr.heap.size, 2, none⟩ = some (.slice B ys.length d) ∧ w'.cell? (fd.add k) = some (.int .i64 n)) (go_keep)
         (first
          | (go_at_call 14
             with_reducible (show Calls Try.prog _ _ T.drew _)
             refine (part_ok _ (k : Int) 1 (by omega) (by omega) (by omega) (by omega)).mono ?_
             rw [show (1 : Int).toNat = 1 from rfl, mkRat_int]
             rintro e_ u1 ⟨b3, A3, c3, x3, B3, d3, y3, rfl, HQa3, HQb3, HQc3, hx3, hy3, hB⟩
             have H_u1 := Lib.hid (Mo.num (Mo.num (Mo.call H_Td.out hB) hx3) hy3)
             have k0u1c0 := ((H_u1.out.var 0 rfl)).cell 0 rfl
             have k0u1c1 := ((H_u1.out.var 0 rfl)).cell 1 rfl
             have k0u1c2 := ((H_u1.out.var 0 rfl)).cell 2 rfl
             have HBTu := Lib.hid hB
             have HBu1 := Lib.hid (below_seq HB2.out.drew hB)
             have hcu1 := cell_belowE H_u1.out.below HCF.out
             clear hB hx3 hy3)
          | (go_at_call 11
             with_reducible (show Calls Try.prog _ _ u1 _)
             refine (equal_ok u1 b b3 A B A3 B3 c2 d c3 d3 xs ys x3 y3 (H3.out.below (below_seq HBT.out (below_seq (Below.refl T.heap.size T).drew HBTu.out))) (H4.out.below (below_seq HBT.out (below_seq (Below.refl T.heap.size T).drew HBTu.out))) (H_u1.out.rn 0 rfl) (H_u1.out.rn 1 rfl) (((k : Int) : Int) : Rat) (((k : Int) : Int) : Rat) HNF.out.1 HNF.out.2.1 HNF.out.2.2 HQa3.out HQb3.out HQc3.out).mono ?_
             rw [decide_eq_true (show (((k : Int) : Int) : Rat) = (((k : Int) : Int) : Rat) from rfl)]
             rintro e_ u2 ⟨rfl, hB⟩
             have H_u2 := Lib.hid (Mo.call H_u1.out hB)
             have k0u2c0 := ((H_u2.out.var 0 rfl)).cell 0 rfl
             have k0u2c1 := ((H_u2.out.var 0 rfl)).cell 1 rfl
             have k0u2c2 := ((H_u2.out.var 0 rfl)).cell 2 rfl
             have HBu2 := Lib.hid (below_seq HBu1.out hB)
             have hcu2 := cell_belowE H_u2.out.below HCF.out
             clear hB))
      | fail
      go_wp2_with fail
      go_roundw
      case rel => exact ⟨k + 1, by go_num, hlt, HBu2⟩
      case measure => simp [intOf]; omega
    · have d1 : decide ((k : Int) < (rs.length : Int)) = false := decide_eq_false (by omega)
      have d1' : decide (k < rs.length) = false := decide_eq_false hlt
      clear hlt hk
      go_wp2_with fail
      refine (etable_ok wr FA fc f GA gc g (HR.out.below H_wr.out.below) (HG.out.below H_wr.out.below)).mono ?_
      rintro e_ w2 ⟨UA, uc, us, e6, rfl, HUB, hU, hB⟩
      have H_w2 := Lib.hid (Mo.call H_wr.out hB)
      have HUU := Lib.hid hU
      obtain rfl : e6 = P := (tab_err HUB.out).trans HP.out
      clear hU
      clear hB
      have hu61 : us.length ≤ 61 := by
        by_cases h : pairE f g = 0
        · have := (valid_parts (pair_ok h).1).1
          rw [tab_len HUB.out h]
          exact this
        · rw [tab_nil HUB.out h]; exact Nat.zero_le _
      by_cases h0 : e5 = 0
      rotate_left
      · have e1 : (e5 == 0) = false := beq_eq_false_iff_ne.2 h0
        have e2 : (e5 != 0) = true := by simpa using h0
        have hP : e6 ≠ 0 := fun h => h0 (by rw [← HE.out]; exact (pair_ok (HP.out.trans h)).1)
        have e3 : (e6 == 0) = false := beq_eq_false_iff_ne.2 hP
        have e4 : (e6 != 0) = true := by simpa using hP
        clear h0 hP
        go_wp2_with fail
        go_loopw [11] (fun iv wr => ∃ (k : Nat), iv = .int .i64 (k : Int) ∧ 1 ≤ k ∧ (k ≤ us.length ∨ k = 1) ∧ Hid (Below w2.heap.size w2 wr)) (fun iv _ => us.length - (intOf iv).toNat)
        case atStart => exact ⟨1, rfl, Nat.le_refl _, .inr rfl, Below.refl _ _⟩
        case round =>
          clear d1 d1'
          obtain ⟨k, rfl, hk1, hk, HB⟩ := hrel
          by_cases hlt : k < us.length
          · have d1 : decide ((k : Int) < (us.length : Int)) = true := decide_eq_true (by omega)
            obtain ⟨j, hj⟩ : ∃ j, k = j + 1 := ⟨k - 1, by omega⟩
            have e1 : ((k : Int) - 1) = (j : Int) := by omega
            have e2 : IntKind.i64.wrap (j : Int) = (j : Int) := IntWalk.i64_in _ (by omega)
            have e3 : IntKind.i64.wrap ((k : Int) - 1) = (j : Int) := by rw [e1]; exact e2
            have b1 : (0 : Int) ≤ (k : Int) := by omega
            have b2 : (k : Int) < (us.length : Int) := by omega
            have b3 : (0 : Int) ≤ (j : Int) := by omega
            have b4 : (j : Int) < (us.length : Int) := by omega
            have HJ := Lib.hid hj
            have hjl : j < us.length := by omega
            clear hj
            have H_wr := Lib.hid (Mo.call H_w2.out HB.out)
            obtain ⟨ad, b, A, c2, xs, B, d, ys, rfl, hr, h0, h1, h2, h3, h4⟩ := (HUU.out.below HB.out).at hlt
            obtain ⟨ad_, b_, A_, c2_, xs_, B_, d_, ys_, had, hr_, h0_, h1_, h2_, h3_, h4_⟩ := (HUU.out.below HB.out).at hjl
            injection had with had
            subst had
            have hsm : xs.length ≤ 41 ∧ ys.length ≤ 41 := tab_sz HUB.out hr
            have hsm_ : xs_.length ≤ 41 ∧ ys_.length ≤ 41 := tab_sz HUB.out hr_
            have hmono : qv b_ xs_ ys_ ≤ qv b xs ys := tab_mono (r := ⟨b_, A_, c2_, xs_, B_, d_, ys_⟩) (s := ⟨b, A, c2, xs, B, d, ys⟩) HUB.out hr_ (by rw [← HJ.out]; exact hr)
            have H3 := Lib.hid h3
            have H4 := Lib.hid h4
            have H3_ := Lib.hid h3_
            have H4_ := Lib.hid h4_
            obtain ⟨s, hs⟩ : ∃ s, cmpQ (qv b_ xs_ ys_) (qv b xs ys) = s := ⟨_, rfl⟩
            have hs0 : s ≤ 0 := by rw [← hs]; exact cmpQ_leE.2 (Rat.not_lt.2 hmono)
            have ds : decide (0 < s) = false := decide_eq_false (by omega)
            have HS := Lib.hid hs
            clear hr h3 h4 hr_ h3_ h4_ hs hmono
            go_wp2_with fail
            first
            | go_region_held3 (fun w' => w'.cell? (ad.add (j * 3)) = some (.bool b_) ∧ w'.cell? ⟨(ad.add (j * 3)).block, (ad.add (j * 3)).off + 1, none⟩ = some (.slice A_ xs_.length c2_) ∧ w'.cell? ⟨(ad.add (j * 3)).block, (ad.add (j * 3)).off + 2, none⟩ = some (.slice B_ ys_.length d_) ∧ w'.cell? (ad.add (k * 3)) = some (.bool b) ∧ w'.cell? ⟨(ad.add (k * 3)).block, (ad.add (k * 3)).off + 1, none⟩ = some (.slice A xs.length c2) ∧ w'.cell? ⟨(ad.add (k * 3)).block, (ad.add (k * 3)).off + 2, none⟩ = some (.slice B ys.length d)) (go_keep)
               (first
                | (go_at_call 16
                   refine (qcmp_ok _ b_ b A_ B_ A B c2_ d_ c2 d xs_ ys_ xs ys (H3_.out.below (Below.refl _ _).drew) (H4_.out.below (Below.refl _ _).drew) (H3.out.below (Below.refl _ _).drew) (H4.out.below (Below.refl _ _).drew) (by have := hsm_.1; omega) (by have := hsm_.2; omega) (by have := hsm.1; omega) (by have := hsm.2; omega)).mono ?_
                   rw [cmp_qv H4_.out.2 H4.out.2, HS.out]
                   rintro e_ v1 ⟨rfl, hB⟩
                   have HB1 := Lib.hid (below_seq HB.out (below_seq (Below.refl _ _).drew hB))
                   have zh0 := cell_belowE (below_seq (Below.refl _ _).drew hB) h0
                   have zh1 := cell_belowE (below_seq (Below.refl _ _).drew hB) h1
                   have zh2 := cell_belowE (below_seq (Below.refl _ _).drew hB) h2
                   have zh0_ := cell_belowE (below_seq (Below.refl _ _).drew hB) h0_
                   have zh1_ := cell_belowE (below_seq (Below.refl _ _).drew hB) h1_
                   have zh2_ := cell_belowE (below_seq (Below.refl _ _).drew hB) h2_
                   clear hB))
            | fail
            go_wp2_with fail
            go_roundw
            case rel => exact ⟨k + 1, by go_num, by omega, .inl hlt, HB1⟩
            case measure => simp [intOf]; omega
          · have d1 : decide ((k : Int) < (us.length : Int)) = false := decide_eq_false (by omega)
            have d1' : decide (k < us.length) = false := decide_eq_false hlt
            have H_wr := Lib.hid (Mo.call H_w2.out HB.out)
            go_wp2_with fail
            refine (awake_ok wr).mono ?_
            rintro e_ w9 ⟨rfl, hB⟩
            have H_w9 := Lib.hid (Mo.call H_wr.out hB)
            clear hB
            go_wp2_with fail
            go_ret
            exact ⟨rfl, H_w9.out.below⟩
      subst h0
      have HPG : Hid (e6 = G) := by show _ = _; rw [← HP.out]; unfold pairE; rw [if_pos HE.out]; exact HGE.out
      have HTL : Hid (rs.length = f.length) := tab_len HTB.out ((pair_self f).trans HE.out)
      have l1 : ((rs.length : Int) == (f.length : Int)) = true := by rw [HTL.out]; exact beq_self_eq_true _
      have l2 : (rs.length == f.length) = true := by rw [HTL.out]; exact beq_self_eq_true _
      obtain rfl := HPG.out
      go_wp2_with fail
      refine (evalid_ok w2 GA gc g (HG.out.below H_w2.out.below)).mono ?_
      rintro e_ w2 ⟨rfl, rfl⟩
      rw [HGE.out]
      by_cases hg0 : e6 = 0
      · subst hg0
        have HUL : Hid (us.length = f.length) := tab_len HUB.out HP.out
        have m1 : ((us.length : Int) == (f.length : Int)) = true := by rw [HUL.out]; exact beq_self_eq_true _
        have m2 : (us.length == f.length) = true := by rw [HUL.out]; exact beq_self_eq_true _
        have m3 : ((us.length : Int) != (f.length : Int)) = false := by rw [HUL.out]; exact bne_self_eq_false _
        have m4 : (us.length != f.length) = false := by rw [HUL.out]; exact bne_self_eq_false _
        go_wp2_with fail
        go_loopw [11] (fun iv wr => ∃ (k : Nat), iv = .int .i64 (k : Int) ∧ 1 ≤ k ∧ (k ≤ us.length ∨ k = 1) ∧ Hid (Below w2.heap.size w2 wr)) (fun iv _ => us.length - (intOf iv).toNat)
        case atStart => exact ⟨1, rfl, Nat.le_refl _, .inr rfl, Below.refl _ _⟩
        case round =>
          clear d1 d1'
          obtain ⟨k, rfl, hk1, hk, HB⟩ := hrel
          by_cases hlt : k < us.length
          · have d1 : decide ((k : Int) < (us.length : Int)) = true := decide_eq_true (by omega)
            obtain ⟨j, hj⟩ : ∃ j, k = j + 1 := ⟨k - 1, by omega⟩
            have e1 : ((k : Int) - 1) = (j : Int) := by omega
            have e2 : IntKind.i64.wrap (j : Int) = (j : Int) := IntWalk.i64_in _ (by omega)
            have e3 : IntKind.i64.wrap ((k : Int) - 1) = (j : Int) := by rw [e1]; exact e2
            have b1 : (0 : Int) ≤ (k : Int) := by omega
            have b2 : (k : Int) < (us.length : Int) := by omega
            have b3 : (0 : Int) ≤ (j : Int) := by omega
            have b4 : (j : Int) < (us.length : Int) := by omega
            have HJ := Lib.hid hj
            have hjl : j < us.length := by omega
            clear hj
            have H_wr := Lib.hid (Mo.call H_w2.out HB.out)
            obtain ⟨ad, b, A, c2, xs, B, d, ys, rfl, hr, h0, h1, h2, h3, h4⟩ := (HUU.out.below HB.out).at hlt
            obtain ⟨ad_, b_, A_, c2_, xs_, B_, d_, ys_, had, hr_, h0_, h1_, h2_, h3_, h4_⟩ := (HUU.out.below HB.out).at hjl
            injection had with had
            subst had
            have hsm : xs.length ≤ 41 ∧ ys.length ≤ 41 := tab_sz HUB.out hr
            have hsm_ : xs_.length ≤ 41 ∧ ys_.length ≤ 41 := tab_sz HUB.out hr_
            have hmono : qv b_ xs_ ys_ ≤ qv b xs ys := tab_mono (r := ⟨b_, A_, c2_, xs_, B_, d_, ys_⟩) (s := ⟨b, A, c2, xs, B, d, ys⟩) HUB.out hr_ (by rw [← HJ.out]; exact hr)
            have H3 := Lib.hid h3
            have H4 := Lib.hid h4
            have H3_ := Lib.hid h3_
            have H4_ := Lib.hid h4_
            obtain ⟨s, hs⟩ : ∃ s, cmpQ (qv b_ xs_ ys_) (qv b xs ys) = s := ⟨_, rfl⟩
            have hs0 : s ≤ 0 := by rw [← hs]; exact cmpQ_leE.2 (Rat.not_lt.2 hmono)
            have ds : decide (0 < s) = false := decide_eq_false (by omega)
            have HS := Lib.hid hs
            clear hr h3 h4 hr_ h3_ h4_ hs hmono
            go_wp2_with fail
            first
            | go_region_held3 (fun w' => w'.cell? (ad.add (j * 3)) = some (.bool b_) ∧ w'.cell? ⟨(ad.add (j * 3)).block, (ad.add (j * 3)).off + 1, none⟩ = some (.slice A_ xs_.length c2_) ∧ w'.cell? ⟨(ad.add (j * 3)).block, (ad.add (j * 3)).off + 2, none⟩ = some (.slice B_ ys_.length d_) ∧ w'.cell? (ad.add (k * 3)) = some (.bool b) ∧ w'.cell? ⟨(ad.add (k * 3)).block, (ad.add (k * 3)).off + 1, none⟩ = some (.slice A xs.length c2) ∧ w'.cell? ⟨(ad.add (k * 3)).block, (ad.add (k * 3)).off + 2, none⟩ = some (.slice B ys.length d)) (go_keep)
               (first
                | (go_at_call 16
                   refine (qcmp_ok _ b_ b A_ B_ A B c2_ d_ c2 d xs_ ys_ xs ys (H3_.out.below (Below.refl _ _).drew) (H4_.out.below (Below.refl _ _).drew) (H3.out.below (Below.refl _ _).drew) (H4.out.below (Below.refl _ _).drew) (by have := hsm_.1; omega) (by have := hsm_.2; omega) (by have := hsm.1; omega) (by have := hsm.2; omega)).mono ?_
                   rw [cmp_qv H4_.out.2 H4.out.2, HS.out]
                   rintro e_ v1 ⟨rfl, hB⟩
                   have HB1 := Lib.hid (below_seq HB.out (below_seq (Below.refl _ _).drew hB))
                   have zh0 := cell_belowE (below_seq (Below.refl _ _).drew hB) h0
                   have zh1 := cell_belowE (below_seq (Below.refl _ _).drew hB) h1
                   have zh2 := cell_belowE (below_seq (Below.refl _ _).drew hB) h2
                   have zh0_ := cell_belowE (below_seq (Below.refl _ _).drew hB) h0_
                   have zh1_ := cell_belowE (below_seq (Below.refl _ _).drew hB) h1_
                   have zh2_ := cell_belowE (below_seq (Below.refl _ _).drew hB) h2_
                   clear hB))
            | fail
            go_wp2_with fail
            go_roundw
            case rel => exact ⟨k + 1, by go_num, by omega, .inl hlt, HB1⟩
            case measure => simp [intOf]; omega
          · have d1 : decide ((k : Int) < (us.length : Int)) = false := decide_eq_false (by omega)
            have d1' : decide (k < us.length) = false := decide_eq_false hlt
            have H_wr := Lib.hid (Mo.call H_w2.out HB.out)
            go_wp2_with fail
            refine (awake_ok wr).mono ?_
            rintro e_ w9 ⟨rfl, hB⟩
            have H_w9 := Lib.hid (Mo.call H_wr.out hB)
            clear hB
            go_wp2_with fail
            go_ret
            exact ⟨rfl, H_w9.out.below⟩
      · have e3 : (e6 == 0) = false := beq_eq_false_iff_ne.2 hg0
        have e4 : (e6 != 0) = true := by simpa using hg0
        clear hg0
        go_wp2_with fail
        go_loopw [11] (fun iv wr => ∃ (k : Nat), iv = .int .i64 (k : Int) ∧ 1 ≤ k ∧ (k ≤ us.length ∨ k = 1) ∧ Hid (Below w2.heap.size w2 wr)) (fun iv _ => us.length - (intOf iv).toNat)
        case atStart => exact ⟨1, rfl, Nat.le_refl _, .inr rfl, Below.refl _ _⟩
        case round =>
          clear d1 d1'
          obtain ⟨k, rfl, hk1, hk, HB⟩ := hrel
          by_cases hlt : k < us.length
          · have d1 : decide ((k : Int) < (us.length : Int)) = true := decide_eq_true (by omega)
            obtain ⟨j, hj⟩ : ∃ j, k = j + 1 := ⟨k - 1, by omega⟩
            have e1 : ((k : Int) - 1) = (j : Int) := by omega
            have e2 : IntKind.i64.wrap (j : Int) = (j : Int) := IntWalk.i64_in _ (by omega)
            have e3 : IntKind.i64.wrap ((k : Int) - 1) = (j : Int) := by rw [e1]; exact e2
            have b1 : (0 : Int) ≤ (k : Int) := by omega
            have b2 : (k : Int) < (us.length : Int) := by omega
            have b3 : (0 : Int) ≤ (j : Int) := by omega
            have b4 : (j : Int) < (us.length : Int) := by omega
            have HJ := Lib.hid hj
            have hjl : j < us.length := by omega
            clear hj
            have H_wr := Lib.hid (Mo.call H_w2.out HB.out)
            obtain ⟨ad, b, A, c2, xs, B, d, ys, rfl, hr, h0, h1, h2, h3, h4⟩ := (HUU.out.below HB.out).at hlt
            obtain ⟨ad_, b_, A_, c2_, xs_, B_, d_, ys_, had, hr_, h0_, h1_, h2_, h3_, h4_⟩ := (HUU.out.below HB.out).at hjl
            injection had with had
            subst had
            have hsm : xs.length ≤ 41 ∧ ys.length ≤ 41 := tab_sz HUB.out hr
            have hsm_ : xs_.length ≤ 41 ∧ ys_.length ≤ 41 := tab_sz HUB.out hr_
            have hmono : qv b_ xs_ ys_ ≤ qv b xs ys := tab_mono (r := ⟨b_, A_, c2_, xs_, B_, d_, ys_⟩) (s := ⟨b, A, c2, xs, B, d, ys⟩) HUB.out hr_ (by rw [← HJ.out]; exact hr)
            have H3 := Lib.hid h3
            have H4 := Lib.hid h4
            have H3_ := Lib.hid h3_
            have H4_ := Lib.hid h4_
            obtain ⟨s, hs⟩ : ∃ s, cmpQ (qv b_ xs_ ys_) (qv b xs ys) = s := ⟨_, rfl⟩
            have hs0 : s ≤ 0 := by rw [← hs]; exact cmpQ_leE.2 (Rat.not_lt.2 hmono)
            have ds : decide (0 < s) = false := decide_eq_false (by omega)
            have HS := Lib.hid hs
            clear hr h3 h4 hr_ h3_ h4_ hs hmono
            go_wp2_with fail
            first
            | go_region_held3 (fun w' => w'.cell? (ad.add (j * 3)) = some (.bool b_) ∧ w'.cell? ⟨(ad.add (j * 3)).block, (ad.add (j * 3)).off + 1, none⟩ = some (.slice A_ xs_.length c2_) ∧ w'.cell? ⟨(ad.add (j * 3)).block, (ad.add (j * 3)).off + 2, none⟩ = some (.slice B_ ys_.length d_) ∧ w'.cell? (ad.add (k * 3)) = some (.bool b) ∧ w'.cell? ⟨(ad.add (k * 3)).block, (ad.add (k * 3)).off + 1, none⟩ = some (.slice A xs.length c2) ∧ w'.cell? ⟨(ad.add (k * 3)).block, (ad.add (k * 3)).off + 2, none⟩ = some (.slice B ys.length d)) (go_keep)
               (first
                | (go_at_call 16
                   refine (qcmp_ok _ b_ b A_ B_ A B c2_ d_ c2 d xs_ ys_ xs ys (H3_.out.below (Below.refl _ _).drew) (H4_.out.below (Below.refl _ _).drew) (H3.out.below (Below.refl _ _).drew) (H4.out.below (Below.refl _ _).drew) (by have := hsm_.1; omega) (by have := hsm_.2; omega) (by have := hsm.1; omega) (by have := hsm.2; omega)).mono ?_
                   rw [cmp_qv H4_.out.2 H4.out.2, HS.out]
                   rintro e_ v1 ⟨rfl, hB⟩
                   have HB1 := Lib.hid (below_seq HB.out (below_seq (Below.refl _ _).drew hB))
                   have zh0 := cell_belowE (below_seq (Below.refl _ _).drew hB) h0
                   have zh1 := cell_belowE (below_seq (Below.refl _ _).drew hB) h1
                   have zh2 := cell_belowE (below_seq (Below.refl _ _).drew hB) h2
                   have zh0_ := cell_belowE (below_seq (Below.refl _ _).drew hB) h0_
                   have zh1_ := cell_belowE (below_seq (Below.refl _ _).drew hB) h1_
                   have zh2_ := cell_belowE (below_seq (Below.refl _ _).drew hB) h2_
                   clear hB))
            | fail
            go_wp2_with fail
            go_roundw
            case rel => exact ⟨k + 1, by go_num, by omega, .inl hlt, HB1⟩
            case measure => simp [intOf]; omega
          · have d1 : decide ((k : Int) < (us.length : Int)) = false := decide_eq_false (by omega)
            have d1' : decide (k < us.length) = false := decide_eq_false hlt
            have H_wr := Lib.hid (Mo.call H_w2.out HB.out)
            go_wp2_with fail
            refine (awake_ok wr).mono ?_
            rintro e_ w9 ⟨rfl, hB⟩
            have H_w9 := Lib.hid (Mo.call H_wr.out hB)
            clear hB
            go_wp2_with fail
            go_ret
            exact ⟨rfl, H_w9.out.below⟩
theorem identity_row (w : World) (A : Option Addr) (c : Nat) (l : List Int) (hp : Rk w .i64 A c l) (hwf : ∀ x ∈ l, (Lit.int .i64 x).wf = true) (hsz : l.length * 8 ≤ 140737488351232) (B : Option Addr) (d : Nat) (l2 : List Int) (hp2 : Rk w .i64 B d l2) (hwf2 : ∀ x ∈ l2, (Lit.int .i64 x).wf = true) (hsz2 : l2.length * 8 ≤ 140737488351232) :
    Calls Try.prog 5 #[.slice A l.length c, .slice B l2.length d] w (RetT w) := identity_ok w A c l B d l2 hp hp2

end Go.Proofs.Ytocpncjmcaecoaa.M
