/- The law's helpers: equal lists, the chapter's examples. -/
import Derived.Test.YtcjpobnkapfccaaDrawE
import Derived.Test.YtcjpobnkapfccaaDrawC
namespace Go.Proofs.Ytcjpobnkapfccaa.M
open Go.RowKit
set_option linter.unusedVariables false
set_option linter.unusedSimpArgs false
def RetT (w : World) (e : Ending) (w' : World) : Prop := e = .returned (.bool true) ∧ Below w.heap.size w w'
theorem Rk.drewN {w : World} {k : IntKind} {A : Option Addr} {c : Nat} {xs : List Int} (h : Rk w k A c xs) (n : Nat) : Rk (w.drewN n) k A c xs := h.below (below_drewN (Below.refl _ _) n)
theorem equal_yes (w : World) (A B : Option Addr) (c d : Nat) (xs ys : List Int) (hx : Rk w .i64 A c xs) (hy : Rk w .i64 B d ys) (he : xs = ys) :
    Calls Try.prog 17 #[.slice A xs.length c, .slice B ys.length d] w (fun e w' => e = .returned (.bool true) ∧ ∃ n, w' = w.drewN n) := by
  subst he
  obtain ⟨h1, h2, h3⟩ := hx
  obtain ⟨h4, h5, h6⟩ := hy
  have HX := Lib.hid h3
  have HY := Lib.hid h6
  clear h3 h6
  go_enter Try.func17, Try.ntmps17
  go_wp2_with fail
  go_loopw [13] (fun iv wr => ∃ k : Nat, k ≤ xs.length ∧ iv = .int .i64 (k : Int) ∧ ∃ n, wr = w.drewN n) (fun iv _ => xs.length - (intOf iv).toNat)
  case atStart => exact ⟨0, Nat.zero_le _, rfl, 0, rfl⟩
  case round =>
    obtain ⟨k, hk, rfl, n, rfl⟩ := hrel
    by_cases hlt : k < xs.length
    · obtain ⟨ad, rfl, hcx⟩ := HX.out k hlt
      obtain ⟨bd, rfl, hcy⟩ := HY.out k hlt
      have hne : (dg xs k != dg xs k) = false := by simp
      go_wp2
      go_quiet (fail)
      go_wp2
      go_roundw
      case rel => exact ⟨k + 1, hlt, by go_num, by first | exact ⟨_, rfl⟩ | exact ⟨_, (by simp only [World.drewN_drewN]; rfl)⟩⟩
      case measure => simp [intOf]; omega
    · obtain rfl : k = xs.length := by omega
      go_wp2
      go_ret
      exact ⟨rfl, n, rfl⟩

theorem aw1 : hi 0 = 335903614 ∧ lcg 0 = 1442695040888963407 := by decide
theorem aw2 : below 0 1000 = 78 ∧ belowS 0 1000 = 1442695040888963407 := by decide
theorem aw3 : shuf 0 2 = [1, 0] := by decide
theorem aw4 : pickI 0 [0, 5, 5] = 1 := by
  have h : ¬(1024 < [(0 : Int), 5, 5].length ∨ badW [0, 5, 5] ∨ [(0 : Int), 5, 5].sum = 0) := by
    rintro (h | h | h)
    · exact absurd h (by decide)
    · refine not_badW (fun j hj => ?_) h
      match j, hj with
      | 0, _ => decide
      | 1, _ => decide
      | 2, _ => decide
    · exact absurd h (by decide)
  rw [(pick_some h).1]
  decide
theorem aw5 : chance 0 (mkRat 1 10) = true := by
  unfold chance
  rw [decide_eq_true_iff, mk_lt (by decide) (by decide)]
  decide

set_option maxHeartbeats 1600000 in
theorem awake_ok (w : World)  :
    Calls Try.prog 14 #[] w (RetT w) := by
  go_enter Try.func14, Try.ntmps14
  have E1 := aw1
  have E2 := aw2
  have E3 := aw3
  have E4 := aw4
  have E5 := aw5
  obtain ⟨E1a, E1b⟩ := E1
  obtain ⟨E2a, E2b⟩ := E2
  go_wp2_with fail
  refine (dnext_ok w 0).mono ?_
  rw [E1a, E1b]
  rintro e w1 ⟨rfl, rfl⟩
  go_wp2_with fail
  refine (dbelow_ok w1 0 1000 (by omega) (by omega)).mono ?_
  rw [E2a, E2b]
  rintro e w2 ⟨rfl, rfl⟩
  go_wp2_with fail
  refine (dshuffle_ok w2 0 2 (by omega) (by omega)).mono ?_
  rintro e w3 ⟨AL, cl, ls, rfl, HLS, hls, hB3⟩
  rw [E3] at HLS
  have HB3 := Lib.hid hB3
  have RL := Lib.hid hls
  clear hB3 hls E1a E1b E2a E2b E3
  go_wp2_with fail
  have hPk : Rk (w3.alloc (.cells #[.int .i64 0, .int .i64 5, .int .i64 5] 3)) .i64 (some ⟨w3.heap.size, 0, none⟩) 3 [0, 5, 5] := (Bk.lit (k := .i64) [0, 5, 5]).reads (by decide)
  refine (dpick_ok (w3.alloc (.cells #[.int .i64 0, .int .i64 5, .int .i64 5] 3)) 0 (some ⟨w3.heap.size, 0, none⟩) 3 [0, 5, 5] hPk).mono ?_
  rw [E4]
  rintro e w4 ⟨rfl, hw4⟩
  have HB4 : Hid (Below w2.heap.size w2 w4) := by show Below _ _ _; rw [hw4]; exact HB3.out.alloc HB3.out.size _
  have RL4 : Hid (Rk w4 .i64 AL cl ls) := by show Rk _ _ _ _ _; rw [hw4]; exact RL.out.below ((Below.refl _ _).alloc (Nat.le_refl _) _)
  clear hw4 hPk E4
  go_wp2_with fail
  refine (qof_ok w4 1 10 (by omega) (by omega) (by omega) (by omega)).mono ?_
  rintro e w5 ⟨b1, A1, c1, x, B1, d1, y, rfl, HQ1, HQ2, HQ3, hr1, hr2, hB5⟩
  have hml := mk_len (n := 1) (m := 10) (by decide) (by decide) (by decide)
  have hqv : qv b1 x y = mkRat 1 10 := by rw [HQ1.out, HQ2.out, HQ3.out]; exact qv_norm _
  have hlx : x.length ≤ 2 := by rw [HQ2.out]; exact hml.1
  have hly : y.length ≤ 2 := by rw [HQ3.out]; exact hml.2
  have HQV := Lib.hid hqv
  have HB5 := Lib.hid (HB4.out.trans (hB5.mono HB4.out.size))
  have RL5 := Lib.hid (RL4.out.below hB5)
  have HR1 := Lib.hid hr1
  have HR2 := Lib.hid hr2
  clear hB5 hr1 hr2 hml hqv
  go_upto_region 6 with fail
  obtain ⟨T, hT⟩ : ∃ T, T = (w5.alloc (.cells #[.bool b1, .slice A1 x.length c1, .slice B1 y.length d1] 29)) := ⟨_, rfl⟩
  rw [← hT]
  have hBT : Below w5.heap.size w5 T := by rw [hT]; exact ((Below.refl _ _).alloc (Nat.le_refl _) _)
  have vT0 : Vr T (w5.heap.size) 29 #[.bool b1, .slice A1 x.length c1, .slice B1 y.length d1] := by rw [hT]; exact (Vr.new' _ _ _ (by simp only [size_alloc]))
  clear hT
  have HVT0 := Lib.hid vT0
  have HBT := Lib.hid hBT
  clear hBT vT0
  have HB6 := Lib.hid (HB5.out.trans (HBT.out.mono HB5.out.size))
  have RL6 := Lib.hid (RL5.out.below HBT.out)
  have qc0 := (HVT0.out).cell 0 rfl
  have qc1 := (HVT0.out).cell 1 rfl
  have qc2 := (HVT0.out).cell 2 rfl
  go_wp2_with fail
  refine (dchance_ok T 0 b1 A1 B1 c1 d1 x y (HR1.out.below HBT.out) (HR2.out.below HBT.out) (by omega) (by omega)).mono ?_
  rw [HQV.out, E5]
  rintro e w7 ⟨rfl, hB7⟩
  have HB7 := Lib.hid (HB6.out.trans (hB7.mono HB6.out.size))
  have RL7 := Lib.hid (RL6.out.below hB7)
  clear hB7 E5
  go_wp2_with fail
  refine (dnew_ok w7 0).mono ?_
  rw [aw1.2]
  rintro e w8 ⟨rfl, rfl⟩
  go_wp2_with fail
  have hEq : Rk (w8.alloc (.cells #[.int .i64 1, .int .i64 0] 3)) .i64 (some ⟨w8.heap.size, 0, none⟩) 2 [1, 0] := (Bk.lit (k := .i64) [1, 0]).reads (by decide)
  refine (equal_yes (w8.alloc (.cells #[.int .i64 1, .int .i64 0] 3)) AL (some ⟨w8.heap.size, 0, none⟩) cl 2 ls [1, 0] (RL7.out.below ((Below.refl _ _).alloc (Nat.le_refl _) _)) hEq HLS.out).mono ?_
  clear hEq
  rintro e w9 ⟨rfl, n, rfl⟩
  go_wp2_with fail
  go_ret
  exact ⟨rfl, below_drewN (HB7.out.alloc HB7.out.size _) n⟩

end Go.Proofs.Ytcjpobnkapfccaa.M
