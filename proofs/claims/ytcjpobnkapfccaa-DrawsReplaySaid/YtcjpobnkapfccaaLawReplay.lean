/- Replay -/
import Derived.Test.YtcjpobnkapfccaaDrawF
import Derived.Test.YtcjpobnkapfccaaDrawG
import Derived.Test.YtcjpobnkapfccaaDrawR
namespace Go.Proofs.Ytcjpobnkapfccaa.M
open Go.RowKit
set_option linter.unusedVariables false
set_option linter.unusedSimpArgs false
/-- A block of the call's own that holds these truth values. -/
def Bb (w : World) (g e : Nat) (l : List Bool) : Prop := w.heap[g]? = some (.cells (l.map Value.bool).toArray e (0, 0))
theorem Bb.cell {w : World} {g e : Nat} {l : List Bool} (h : Bb w g e l) {j : Nat} (hj : j < l.length) : w.cell? ⟨g, j, none⟩ = some (.bool (l.getD j false)) ∧ w.frozen? ⟨g, j, none⟩ = false := by
  unfold Bb at h
  constructor
  · simp only [World.cell?, h]
    simp [hj]
  · simp [World.frozen?, h]
theorem Bb.set {w : World} {g e : Nat} {l : List Bool} (h : Bb w g e l) (j : Nat) (x : Bool) : Bb (w.setCell ⟨g, j, none⟩ (.bool x)) g e (l.set j x) := by
  unfold Bb at h ⊢
  simp only [World.setCell, Array.getElem?_modify, if_true, h, Option.map_some]
  simp
theorem Bb.made {w : World} {e : Nat} (n : Nat) : Bb (w.alloc (.cells (madeCells #[.bool false] n) e (0, 0))) w.heap.size e (List.replicate n false) := by
  unfold Bb
  have : madeCells #[.bool false] n = ((List.replicate n false).map Value.bool).toArray := by
    apply Array.ext
    · simp [size_madeCells]
    · intro i h1 h2
      simp [madeCells, Nat.mod_one]
  rw [this]
  exact heap_new w _
theorem mk_makeb (t e : TypeId) (i : TypeInfo) (ht : Try.prog.underlying t = some (.slice e)) (hi : Try.prog.info? e = some i) (hz : i.zero = some (.bool false)) (hsz : i.size = 1)
    (l : Int) (h0 : 0 ≤ l) (hb : (i.bytes : Int) * l ≤ 281474976710656) (h63 : l ≤ 9223372036854775807) :
    ∀ W : World, (Instr.makeSlice t (.int .i64 l) (.int .i64 l)).run Try.prog W = .ok (.slice (some ⟨W.heap.size, 0, none⟩) l.toNat l.toNat) (W.alloc (.cells (madeCells #[.bool false] l.toNat) e)) := by
  intro W
  have h := run_make (P := Try.prog) W t e i _ ht hi hz .i64 .i64 l l h0 (Int.le_refl _) hb h63
  rw [hsz, Nat.mul_one] at h
  exact h
theorem info_bool : (Try.prog.info? 4).map (fun i => (i.zero, i.size, i.bytes)) = some (some (.bool false), 1, 1) := by kernel_rfl

set_option maxHeartbeats 800000 in
theorem permutation_ok (w : World) (A : Option Addr) (c : Nat) (xs : List Int) (hx : Rk w .i64 A c xs) (hl : xs.length ≤ 1024) (hp : Perm xs) :
    Calls Try.prog 29 #[.slice A xs.length c] w (RetT w) := by
  have HX := Lib.hid hx
  have HP := Lib.hid hp
  have hxc := hx.1
  have hxm := hx.2.1
  clear hx hp
  go_enter Try.func29, Try.ntmps29
  obtain ⟨i0, hi, hz0, hz1, hz2⟩ := info_parts' info_bool
  have hmk := mk_makeb 67 4 i0 Try.underlying67 hi hz0 hz1 (xs.length : Int) (by omega) (by rw [hz2]; omega) (by omega)
  go_wp2_with fail
  clear hmk
  go_loopw [11] (fun iv wr => ∃ (k : Nat) (l : List Bool), iv = .int .i64 (k : Int) ∧ k ≤ xs.length ∧ Hid (l.length = xs.length) ∧ Hid (∀ v : Nat, v < xs.length → (l.getD v false = true → ∃ j, j < k ∧ dg xs j = (v : Int))) ∧ Bb wr w.heap.size 4 l ∧ Hid (Below w.heap.size w wr)) (fun iv _ => xs.length - (intOf iv).toNat)
  case atStart => exact ⟨0, _, rfl, Nat.zero_le _, by simp [Hid], fun v hv h => by simp [hv] at h, Bb.made _, (Below.refl _ _).alloc (Nat.le_refl _) _⟩
  case round =>
    obtain ⟨k, l, rfl, hk, HL, HI, HBk, HB⟩ := hrel
    by_cases hlt : k < xs.length
    · obtain ⟨ad, rfl, hcx⟩ := (HX.out.below HB.out).2.2 k hlt
      obtain ⟨hb0, hb1⟩ := HP.out.1 k hlt
      obtain ⟨v, hv⟩ : ∃ v : Nat, dg xs k = (v : Int) := ⟨(dg xs k).toNat, by omega⟩
      rw [hv] at hcx hb0 hb1
      have hvl : v < xs.length := by omega
      have hun : l.getD v false = false := by
        rcases Bool.eq_false_or_eq_true (l.getD v false) with h | h
        · obtain ⟨j, hj, hjv⟩ := HI.out v hvl h
          have := HP.out.2 j k (by omega) hlt (by rw [hjv, hv])
          omega
        · exact h
      obtain ⟨hc, hf⟩ := HBk.cell (j := v) (by rw [HL.out]; exact hvl)
      rw [hun] at hc
      have d1 : decide ((v : Int) < 0) = false := decide_eq_false (by omega)
      have d2 : decide ((xs.length : Int) ≤ (v : Int)) = false := decide_eq_false (by omega)
      have d2' : decide (xs.length ≤ v) = false := decide_eq_false (by omega)
      have HV := Lib.hid hv
      have HUN := Lib.hid hun
      clear hv hun
      go_wp2_with fail
      go_roundw
      case rel =>
        exact ⟨k + 1, l.set v true, by go_num, hlt, by show _ = _; rw [List.length_set]; exact HL.out, fun u hu h => by
          by_cases e : u = v
          · exact ⟨k, by omega, by rw [HV.out, e]⟩
          · have h2 : l.getD u false = true := by
              rw [List.getD_eq_getElem?_getD, List.getElem?_set_ne (fun h => e h.symm)] at h
              rw [List.getD_eq_getElem?_getD]
              exact h
            obtain ⟨j, hj, hjv⟩ := HI.out u hu h2
            exact ⟨j, by omega, hjv⟩, HBk.set _ _, below_set HB.out (Nat.le_refl _) _⟩
      case measure => simp [intOf]; omega
    · obtain rfl : k = xs.length := by omega
      clear hlt
      go_wp2_with fail
      go_ret
      exact ⟨rfl, HB.out⟩
theorem dskip_n (w : World) (s n : Int) (k : Nat) (hn : n = (k : Int)) (hk : k ≤ 9999999) :
    Calls Try.prog 27 #[.int .u64 s, .int .i64 n] w (fun e w' => e = .returned (.int .u64 (skips s k)) ∧ w' = w) := by
  have h := dskip_ok w s n (by omega) (by omega)
  rw [show (min n 9999999).toNat = k by omega] at h
  exact h

set_option maxHeartbeats 1600000 in
theorem replay_ok (w : World) (s : Int) (m n : Nat) (hm255 : m ≤ 255) (hn255 : n ≤ 255) :
    Calls Try.prog 9 #[.int .u64 s, .int .u8 (m : Int), .int .u8 (n : Int)] w (RetT w) := by
  go_enter Try.func9, Try.ntmps9
  have hum : IntKind.i64.wrap (m : Int) = (m : Int) := IntWalk.i64_in _ (by omega)
  have hun : IntKind.i64.wrap (n : Int) = (n : Int) := IntWalk.i64_in _ (by omega)
  go_wp2_with fail
  refine (dnew_ok w s).mono ?_
  rintro e w1 ⟨rfl, rfl⟩
  go_wp2_with fail
  refine (dnew_ok w1 s).mono ?_
  rintro e w2 ⟨rfl, rfl⟩
  go_wp2_with fail
  go_loopw [7, 8, 9] (fun dv ev iv wr => ∃ (k : Nat) (t : Int), iv = .int .i64 (k : Int) ∧ k ≤ m ∧ dv = .int .u64 t ∧ ev = .int .u64 t ∧ Hid (t = skips (lcg s) k) ∧ Hid (Below w2.heap.size w2 wr)) (fun _ _ iv _ => m - (intOf iv).toNat)
  case atStart => exact ⟨0, lcg s, rfl, Nat.zero_le _, rfl, rfl, rfl, Below.refl _ _⟩
  case round =>
    obtain ⟨k, t, rfl, hk, rfl, rfl, HT, HB⟩ := hrel
    by_cases hlt : k < m
    · have d1 : decide ((k : Int) < (m : Int)) = true := decide_eq_true (by omega)
      have d2 : decide (k < m) = true := decide_eq_true hlt
      go_wp2_with fail
      refine (dnext_ok wr t).mono ?_
      rintro e w3 ⟨rfl, rfl⟩
      go_wp2_with fail
      refine (dnext_ok w3 t).mono ?_
      rintro e w4 ⟨rfl, rfl⟩
      go_wp2_with fail
      go_roundw
      case rel => exact ⟨k + 1, lcg t, by go_num, hlt, rfl, rfl, by show _ = _; rw [HT.out]; rfl, HB⟩
      case measure => simp [intOf]; omega
    · obtain rfl : k = m := by omega
      clear hlt
      obtain ⟨u, hu⟩ : ∃ u, skips t n = u := ⟨_, rfl⟩
      have HU2 : Hid (skips (lcg s) (k + n) = u) := by show _ = _; rw [skips_add, ← HT.out]; exact hu
      have HU := Lib.hid hu
      have HSP := Lib.hid (shuf_perm (s := t) hn255)
      clear hu
      go_wp2_with fail
      refine (dnew_ok wr s).mono ?_
      rintro e w3 ⟨rfl, rfl⟩
      go_wp2_with fail
      refine (dskip_n w3 (lcg s) (k : Int) k rfl (by omega)).mono ?_
      rw [← HT.out]
      rintro e w4 ⟨rfl, rfl⟩
      go_wp2_with fail
      refine (dskip_n w4 t (n : Int) n rfl (by omega)).mono ?_
      rw [HU.out]
      rintro e w5 ⟨rfl, rfl⟩
      go_wp2_with fail
      refine (dnew_ok w5 s).mono ?_
      rintro e w6 ⟨rfl, rfl⟩
      go_wp2_with fail
      refine (dskip_n w6 (lcg s) ((k : Int) + (n : Int)) (k + n) (by omega) (by omega)).mono ?_
      rw [HU2.out]
      rintro e w7 ⟨rfl, rfl⟩
      go_wp2_with fail
      refine (dskip_n w7 t 0 0 rfl (by omega)).mono ?_
      rw [show skips t 0 = t from rfl]
      rintro e w8 ⟨rfl, rfl⟩
      go_wp2_with fail
      refine (dshuffle_ok w8 t (n : Int) (by omega) (by omega)).mono ?_
      rw [HSP.out.2.2]
      rintro e wa ⟨AL, cl, ls, rfl, HLS, hls, hBa⟩
      have HLN : Hid (ls.length = n) := by show _ = _; rw [HLS.out]; exact HSP.out.2.1
      have HPM : Hid (Perm ls) := by show Perm _; rw [HLS.out]; exact HSP.out.1
      have HBa := Lib.hid (HB.out.trans (hBa.mono HB.out.size))
      have HRl := Lib.hid hls
      clear hBa hls
      have dl : ((ls.length : Int) != (n : Int)) = false := by rw [HLN.out]; simp
      go_wp2_with fail
      refine (permutation_ok wa AL cl ls HRl.out (by rw [HLN.out]; omega) HPM.out).mono ?_
      rintro e wb ⟨rfl, hBb⟩
      have HBb := Lib.hid (HBa.out.trans (hBb.mono HBa.out.size))
      clear hBb
      by_cases h0 : n = 0
      · subst h0
        go_wp2_with fail
        refine (awake_ok wb).mono ?_
        rintro e w9 ⟨rfl, hB9⟩
        have HB9 := Lib.hid (HBb.out.trans (hB9.mono HBb.out.size))
        clear hB9
        go_wp2_with fail
        go_ret
        exact ⟨rfl, HB9.out⟩
      · have hz : ((n : Int) == 0) = false := beq_eq_false_iff_ne.2 (by omega)
        have hg : decide (0 < (n : Int)) = true := decide_eq_true (by omega)
        have hg2 : decide (0 < n) = true := decide_eq_true (by omega)
        go_wp2_with fail
        refine (dskip_n wb t ((n : Int) - 1) (n - 1) (by omega) (by omega)).mono ?_
        rintro e wc ⟨rfl, rfl⟩
        go_wp2_with fail
        refine (awake_ok wc).mono ?_
        rintro e w9 ⟨rfl, hB9⟩
        have HB9 := Lib.hid (HBb.out.trans (hB9.mono HBb.out.size))
        clear hB9
        go_wp2_with fail
        go_ret
        exact ⟨rfl, HB9.out⟩
theorem replay_row (w : World) (s : Int) (hs : 0 ≤ s ∧ s ≤ 18446744073709551615) (m : Int) (hm : 0 ≤ m ∧ m ≤ 255) (n : Int) (hn : 0 ≤ n ∧ n ≤ 255) :
    Calls Try.prog 9 #[.int .u64 s, .int .u8 m, .int .u8 n] w (RetT w) := by
  obtain ⟨a, rfl⟩ : ∃ a : Nat, m = (a : Int) := ⟨m.toNat, by omega⟩
  obtain ⟨b, rfl⟩ : ∃ b : Nat, n = (b : Int) := ⟨n.toNat, by omega⟩
  exact replay_ok w s a b (by omega) (by omega)

end Go.Proofs.Ytcjpobnkapfccaa.M
