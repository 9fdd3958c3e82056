/- Picks -/
import Derived.Test.YtcjpobnkapfccaaDrawF
import Derived.Test.YtcjpobnkapfccaaDrawG
import Derived.Test.YtcjpobnkapfccaaDrawR
namespace Go.Proofs.Ytcjpobnkapfccaa.M
open Go.RowKit
set_option linter.unusedVariables false
set_option linter.unusedSimpArgs false
theorem dpick_m (w : World) (s : Int) (A : Option Addr) (c m : Nat) (ws : List Int) (hw : Rk w .i64 A c ws) (hm : ws.length = m) :
    Calls Try.prog 18 #[.int .u64 s, .slice A m c] w (fun e w' => e = .returned (.tuple #[.int .i64 (pickI s ws), .int .u64 (pickS s ws)]) ∧ w' = w) := by
  subst hm
  exact dpick_ok w s A c ws hw
theorem eq_rep {l : List Int} {n : Nat} {c : Int} (hl : l.length = n) (h : ∀ j, j < n → dg l j = c) : l = List.replicate n c := by
  refine List.ext_getElem (by rw [List.length_replicate]; exact hl) fun j h1 h2 => ?_
  rw [← dg_get h1, ← dg_get h2, h j (by omega), dg_rep c (by omega)]

set_option maxHeartbeats 1600000 in
theorem picks_ok (w : World) (d : Int) (A : Option Addr) (c : Nat) (ws : List Int) (hw : Rk w .i64 A c ws) (n : Nat) (hn255 : n ≤ 255) (x : Int) (hx0 : 0 ≤ x) (hx1 : x ≤ 255) :
    Calls Try.prog 5 #[.int .u64 d, .slice A ws.length c, .int .u8 (n : Int), .int .u8 x] w (RetT w) := by
  have HX := Lib.hid hw
  have hcl := hw.1
  have hcm := hw.2.1
  clear hw
  go_enter Try.func5, Try.ntmps5
  obtain ⟨i0, hi, hz0, hz1, hz2⟩ := info_parts' info_int
  go_wp2_with fail
  refine (dnext_ok w d).mono ?_
  rintro e w1 ⟨rfl, rfl⟩
  go_wp2_with fail
  refine (dpick_ok w1 d A c ws HX.out).mono ?_
  rcases pick_cases d ws with ⟨h1, h2⟩ | ⟨k0, h1, h2, h3, h4, h5⟩
  · rw [h1, h2]
    clear h1 h2
    rintro e w ⟨rfl, rfl⟩
    have hmk := mk_make 36 3 i0 .i64 Try.underlying36 hi hz0 hz1 (n : Int) (by omega) (by rw [hz2]; omega) (by omega)
    have hun : IntKind.i64.wrap (n : Int) = (n : Int) := IntWalk.i64_in _ (by omega)
    have hux : IntKind.i64.wrap x = x := IntWalk.i64_in _ (by omega)
    go_wp2_with fail
    clear hmk
    go_loopw [67] (fun iv wr => ∃ (k : Nat) (l : List Int), iv = .int .i64 (k : Int) ∧ k ≤ n ∧ Hid (l.length = n) ∧ Hid (∀ j, j < k → dg l j = x + 1) ∧ Bk wr w.heap.size 3 .i64 l ∧ Hid (Below w.heap.size w wr)) (fun iv _ => n - (intOf iv).toNat)
    case atStart => exact ⟨0, _, rfl, Nat.zero_le _, by simp [Hid], fun j hj => by omega, Bk.made _, (Below.refl _ _).alloc (Nat.le_refl _) _⟩
    case round =>
      obtain ⟨k, l, rfl, hk, HL, HI, HBk, HB⟩ := hrel
      by_cases hlt : k < n
      · obtain ⟨hc, hf⟩ := HBk.cell (j := k) (by rw [HL.out]; exact hlt)
        go_wp2_with fail
        go_roundw
        case rel =>
          exact ⟨k + 1, l.set k (x + 1), by go_num, hlt, by show _ = _; rw [List.length_set]; exact HL.out, fun j hj => by
            rw [dg_set]
            by_cases h : j = k
            · rw [if_pos ⟨h, by rw [HL.out]; exact hlt⟩]
            · rw [if_neg (fun h2 => h h2.1)]; exact HI.out j (by omega), HBk.set _ _, below_set HB.out (Nat.le_refl _) _⟩
        case measure => simp [intOf]; omega
      · obtain rfl : k = n := by omega
        have HIO : Hid (l = List.replicate k (x + 1)) := eq_rep HL.out HI.out
        have HPE := Lib.hid (pick_eq (s := d) (n := k) (c := x + 1) hn255 (by omega) (by omega))
        have HR : Hid (Rk wr .i64 (some ⟨w.heap.size, 0, none⟩) k l) := by
          have h := HBk.reads (by rw [HL.out]; omega)
          rw [HL.out] at h
          exact h
        clear hlt HBk HI
        go_wp2_with fail
        refine (dpick_m wr d (some ⟨w.heap.size, 0, none⟩) k k l HR.out HL.out).mono ?_
        rw [HIO.out, HPE.out.1, HPE.out.2]
        by_cases h0 : k = 0
        · subst h0
          rw [if_pos rfl, if_pos rfl]
          rintro e w4 ⟨rfl, rfl⟩
          go_wp2_with fail
          refine (dbelow_ok w4 d 0 (by omega) (by omega)).mono ?_
          rintro e w5 ⟨rfl, rfl⟩
          go_wp2_with fail
          refine (awake_ok w5).mono ?_
          rintro e w9 ⟨rfl, hB9⟩
          have HB9 := Lib.hid (HB.out.trans (hB9.mono HB.out.size))
          clear hB9
          go_wp2_with fail
          go_ret
          exact ⟨rfl, HB9.out⟩
        · rw [if_neg h0, if_neg h0]
          have hk0 : ((k : Int) == 0) = false := beq_eq_false_iff_ne.2 (by omega)
          have HBS : Hid (belowS d (k : Int) = lcg d) := by show _ = _; unfold belowS; rw [if_neg (by omega)]
          rintro e w4 ⟨rfl, rfl⟩
          go_wp2_with fail
          refine (dbelow_ok w4 d (k : Int) (by omega) (by omega)).mono ?_
          rw [HBS.out]
          rintro e w5 ⟨rfl, rfl⟩
          go_wp2_with fail
          refine (awake_ok w5).mono ?_
          rintro e w9 ⟨rfl, hB9⟩
          have HB9 := Lib.hid (HB.out.trans (hB9.mono HB.out.size))
          clear hB9
          go_wp2_with fail
          go_ret
          exact ⟨rfl, HB9.out⟩
  · obtain ⟨ad, rfl, hc0⟩ := HX.out.2.2 k0 h2
    rw [h1, h5]
    clear h1 h5
    have d1 : decide ((k0 : Int) < 0) = false := decide_eq_false (by omega)
    have d2 : decide ((ws.length : Int) ≤ (k0 : Int)) = false := decide_eq_false (by omega)
    have d2' : decide (ws.length ≤ k0) = false := decide_eq_false (by omega)
    have d3 : decide (dg ws k0 ≤ 0) = false := decide_eq_false (by omega)
    have d4 : decide (1000000 < dg ws k0) = false := decide_eq_false (by omega)
    rintro e w ⟨rfl, rfl⟩
    have hmk := mk_make 36 3 i0 .i64 Try.underlying36 hi hz0 hz1 (n : Int) (by omega) (by rw [hz2]; omega) (by omega)
    have hun : IntKind.i64.wrap (n : Int) = (n : Int) := IntWalk.i64_in _ (by omega)
    have hux : IntKind.i64.wrap x = x := IntWalk.i64_in _ (by omega)
    go_wp2_with fail
    clear hmk
    go_loopw [67] (fun iv wr => ∃ (k : Nat) (l : List Int), iv = .int .i64 (k : Int) ∧ k ≤ n ∧ Hid (l.length = n) ∧ Hid (∀ j, j < k → dg l j = x + 1) ∧ Bk wr w.heap.size 3 .i64 l ∧ Hid (Below w.heap.size w wr)) (fun iv _ => n - (intOf iv).toNat)
    case atStart => exact ⟨0, _, rfl, Nat.zero_le _, by simp [Hid], fun j hj => by omega, Bk.made _, (Below.refl _ _).alloc (Nat.le_refl _) _⟩
    case round =>
      obtain ⟨k, l, rfl, hk, HL, HI, HBk, HB⟩ := hrel
      by_cases hlt : k < n
      · obtain ⟨hc, hf⟩ := HBk.cell (j := k) (by rw [HL.out]; exact hlt)
        go_wp2_with fail
        go_roundw
        case rel =>
          exact ⟨k + 1, l.set k (x + 1), by go_num, hlt, by show _ = _; rw [List.length_set]; exact HL.out, fun j hj => by
            rw [dg_set]
            by_cases h : j = k
            · rw [if_pos ⟨h, by rw [HL.out]; exact hlt⟩]
            · rw [if_neg (fun h2 => h h2.1)]; exact HI.out j (by omega), HBk.set _ _, below_set HB.out (Nat.le_refl _) _⟩
        case measure => simp [intOf]; omega
      · obtain rfl : k = n := by omega
        have HIO : Hid (l = List.replicate k (x + 1)) := eq_rep HL.out HI.out
        have HPE := Lib.hid (pick_eq (s := d) (n := k) (c := x + 1) hn255 (by omega) (by omega))
        have HR : Hid (Rk wr .i64 (some ⟨w.heap.size, 0, none⟩) k l) := by
          have h := HBk.reads (by rw [HL.out]; omega)
          rw [HL.out] at h
          exact h
        clear hlt HBk HI
        go_wp2_with fail
        refine (dpick_m wr d (some ⟨w.heap.size, 0, none⟩) k k l HR.out HL.out).mono ?_
        rw [HIO.out, HPE.out.1, HPE.out.2]
        by_cases h0 : k = 0
        · subst h0
          rw [if_pos rfl, if_pos rfl]
          rintro e w4 ⟨rfl, rfl⟩
          go_wp2_with fail
          refine (dbelow_ok w4 d 0 (by omega) (by omega)).mono ?_
          rintro e w5 ⟨rfl, rfl⟩
          go_wp2_with fail
          refine (awake_ok w5).mono ?_
          rintro e w9 ⟨rfl, hB9⟩
          have HB9 := Lib.hid (HB.out.trans (hB9.mono HB.out.size))
          clear hB9
          go_wp2_with fail
          go_ret
          exact ⟨rfl, HB9.out⟩
        · rw [if_neg h0, if_neg h0]
          have hk0 : ((k : Int) == 0) = false := beq_eq_false_iff_ne.2 (by omega)
          have HBS : Hid (belowS d (k : Int) = lcg d) := by show _ = _; unfold belowS; rw [if_neg (by omega)]
          rintro e w4 ⟨rfl, rfl⟩
          go_wp2_with fail
          refine (dbelow_ok w4 d (k : Int) (by omega) (by omega)).mono ?_
          rw [HBS.out]
          rintro e w5 ⟨rfl, rfl⟩
          go_wp2_with fail
          refine (awake_ok w5).mono ?_
          rintro e w9 ⟨rfl, hB9⟩
          have HB9 := Lib.hid (HB.out.trans (hB9.mono HB.out.size))
          clear hB9
          go_wp2_with fail
          go_ret
          exact ⟨rfl, HB9.out⟩
theorem picks_row (w : World) (d : Int) (hd : 0 ≤ d ∧ d ≤ 18446744073709551615) (A : Option Addr) (c : Nat) (ws : List Int) (hw : Rk w .i64 A c ws) (_ : ∀ x ∈ ws, (Lit.int .i64 x).wf = true) (_ : ws.length * 8 ≤ 140737488351232) (n : Int) (hn : 0 ≤ n ∧ n ≤ 255) (x : Int) (hx : 0 ≤ x ∧ x ≤ 255) :
    Calls Try.prog 5 #[.int .u64 d, .slice A ws.length c, .int .u8 n, .int .u8 x] w (RetT w) := by
  obtain ⟨m, rfl⟩ : ∃ m : Nat, n = (m : Int) := ⟨n.toNat, by omega⟩
  exact picks_ok w d A c ws hw m (by omega) x hx.1 hx.2

end Go.Proofs.Ytcjpobnkapfccaa.M
