/- The law CombinOrder: its walk. -/
import Derived.Test.YtmafifpibfjomaaRefM
import Derived.Test.YtmafifpibfjomaaRowKit
namespace Go.Proofs.Ytmafifpibfjomaa.M
open Go.RowKit
set_option linter.unusedVariables false
set_option linter.unusedSimpArgs false

theorem take_snoc_eq {a b : List Int} {i : Nat} (ha : i < a.length) (hb : i < b.length) (h : a.take i = b.take i) (he : dg a i = dg b i) : a.take (i + 1) = b.take (i + 1) := by
  rw [List.take_succ_eq_append_getElem ha, List.take_succ_eq_append_getElem hb, h, ← dg_get ha, ← dg_get hb, he]

/-- Where the two lists stand after i numbers. -/
def OrdI (n : Nat) (a b : List Int) (i : Nat) (t : Int) : Prop := (t = 0 ∧ a.take i = b.take i) ∨ (t = -1 ∧ rnk n 0 a < rnk n 0 b) ∨ (t = 1 ∧ rnk n 0 b < rnk n 0 a)

set_option maxHeartbeats 800000 in
theorem order_low (w : World) (n : Int) (A B : Option Addr) (c d : Nat) (a b : List Int) (h : n < 0 ∨ (0 ≤ n ∧ 200 < n)) :
    Calls Try.prog 8 #[.int .i64 n, .slice A a.length c, .slice B b.length d] w (RetTrue w) := by
  rcases h with h | ⟨h, h'⟩
  · have d1 : decide (n < 0) = true := decide_eq_true h
    go_enter Try.func8, Try.ntmps8
    go_wp2_with fail
    go_ret
    exact ⟨rfl, Below.refl _ _⟩
  · have d1 : decide (n < 0) = false := decide_eq_false (by omega)
    have d2 : decide (200 < n) = true := decide_eq_true h'
    go_enter Try.func8, Try.ntmps8
    go_wp2_with fail
    go_ret
    exact ⟨rfl, Below.refl _ _⟩

set_option maxHeartbeats 800000 in
theorem order_len (w : World) (n : Int) (A B : Option Addr) (c d : Nat) (a b : List Int) (h0 : 0 ≤ n) (h1 : n ≤ 200) (h : a.length ≠ b.length) :
    Calls Try.prog 8 #[.int .i64 n, .slice A a.length c, .slice B b.length d] w (RetTrue w) := by
  have d1 : decide (n < 0) = false := decide_eq_false (by omega)
  have d2 : decide (200 < n) = false := decide_eq_false (by omega)
  have d3 : ((a.length : Int) != (b.length : Int)) = true := by simp; omega
  have d4 : (a.length != b.length) = true := by simp; omega
  go_enter Try.func8, Try.ntmps8
  go_wp2_with fail
  go_ret
  exact ⟨rfl, Below.refl _ _⟩

set_option maxHeartbeats 400000 in
theorem order_up (w : World) (n : Nat) (A B : Option Addr) (c d : Nat) (a b : List Int) (ha : Rk w .i64 A c a) (hb : Rk w .i64 B d b) (h1 : n ≤ 200) (h : a.length = b.length) (hx : up n (-1) a = false ∨ (up n (-1) a = true ∧ up n (-1) b = false)) :
    Calls Try.prog 8 #[.int .i64 (n : Int), .slice A a.length c, .slice B b.length d] w (RetTrue w) := by
  have HA := Lib.hid ha
  have HB := Lib.hid hb
  have d1 : decide ((n : Int) < 0) = false := decide_eq_false (by omega)
  have d2 : decide (200 < (n : Int)) = false := decide_eq_false (by omega)
  have d3 : ((a.length : Int) != (b.length : Int)) = false := by simp; omega
  have d4 : (a.length != b.length) = false := by simp; omega
  have HLn := Lib.hid h
  clear ha hb h
  rcases hx with hx | ⟨hx, hy⟩
  · have HU := Lib.hid hx
    clear hx
    go_enter Try.func8, Try.ntmps8
    go_wp2_with fail
    refine (rising_ok _ n a.length A c a HA.out rfl).mono ?_
    rintro e w1 ⟨n1, rfl, rfl⟩
    have HW := Lib.hid (below_drewN (Below.refl w.heap.size w) n1)
    rw [HU.out]
    go_wp2_with fail
    go_ret
    exact ⟨rfl, HW.out⟩
  · have HU := Lib.hid hx
    have HU2 := Lib.hid hy
    clear hx hy
    go_enter Try.func8, Try.ntmps8
    go_wp2_with fail
    refine (rising_ok _ n a.length A c a HA.out rfl).mono ?_
    rintro e w1 ⟨n1, rfl, rfl⟩
    have HW := Lib.hid (below_drewN (Below.refl w.heap.size w) n1)
    rw [HU.out]
    go_wp2_with fail
    refine (rising_ok _ n b.length B d b (HB.out.below HW.out) rfl).mono ?_
    rintro e w2 ⟨n2, rfl, rfl⟩
    have HW2 := Lib.hid (below_drewN (Below.refl w.heap.size w) (n1 + n2))
    rw [HU2.out]
    go_wp2_with fail
    go_ret
    exact ⟨rfl, HW2.out⟩

set_option maxHeartbeats 400000 in
theorem order_yes (w : World) (n : Nat) (A B : Option Addr) (c d : Nat) (a b : List Int) (ha : Rk w .i64 A c a) (hb : Rk w .i64 B d b) (h1 : n ≤ 200) (h : a.length = b.length) (hx : up n (-1) a = true) (hy : up n (-1) b = true) :
    Calls Try.prog 8 #[.int .i64 (n : Int), .slice A a.length c, .slice B b.length d] w (RetTrue w) := by
  have HA := Lib.hid ha
  have HB := Lib.hid hb
  have d1 : decide ((n : Int) < 0) = false := decide_eq_false (by omega)
  have d2 : decide (200 < (n : Int)) = false := decide_eq_false (by omega)
  have d3 : ((a.length : Int) != (b.length : Int)) = false := by simp; omega
  have d4 : (a.length != b.length) = false := by simp; omega
  have HU := Lib.hid hx
  have HU2 := Lib.hid hy
  have ca : a.length ≤ 9223372036854775807 := by have := ha.1; have := ha.2.1; omega
  have HLn := Lib.hid h
  clear ha hb hx hy h
  go_enter Try.func8, Try.ntmps8
  go_wp2_with fail
  refine (rising_ok _ n a.length A c a HA.out rfl).mono ?_
  rintro e w1 ⟨n1, rfl, rfl⟩
  have HW := Lib.hid (below_drewN (Below.refl w.heap.size w) n1)
  rw [HU.out]
  go_wp2_with fail
  refine (rising_ok _ n b.length B d b (HB.out.below HW.out) rfl).mono ?_
  rintro e w2 ⟨n2, rfl, rfl⟩
  have HW2 := Lib.hid (below_drewN (Below.refl w.heap.size w) (n1 + n2))
  rw [HU2.out]
  clear HW
  go_wp2_with fail
  refine (rank_yes _ n A c a (HA.out.below HW2.out) h1 HU.out).mono ?_
  rintro e w3 ⟨A3, c3, x, rfl, HX, hx, hB⟩
  have HW3 := Lib.hid (below_seq HW2.out hB)
  have RX3 := Lib.hid hx
  clear hB hx HW2
  go_wp2_with fail
  refine (rank_yes _ n B d b (HB.out.below HW3.out) h1 HU2.out).mono ?_
  rintro e w4 ⟨A4, c4, y, rfl, HY, hy, hB⟩
  have HW4 := Lib.hid (below_seq HW3.out hB)
  have RX4 := Lib.hid (RX3.out.below hB)
  have RY4 := Lib.hid hy
  clear hB hy HW3 RX3
  go_wp2_with fail
  go_loopw [11, 12] (fun tv iv wr => ∃ (i : Nat) (t : Int), i ≤ a.length ∧ iv = .int .i64 (i : Int) ∧ tv = .int .i64 t ∧ Hid (OrdI n a b i t) ∧ ∃ m, wr = w4.drewN m) (fun _ iv _ => a.length - (intOf iv).toNat)
  case atStart => exact ⟨0, 0, Nat.zero_le _, rfl, rfl, .inl ⟨rfl, rfl⟩, 0, rfl⟩
  case round =>
    obtain ⟨i, t, hi, rfl, rfl, HT, m, rfl⟩ := hrel
    have hfin : (i = a.length ∨ t ≠ 0) → cmpI (V x) (V y) = t := by
      intro hc
      rw [HX.out, HY.out, V_limbs, V_limbs]
      rcases HT.out with ⟨h2, h3⟩ | ⟨h2, h3⟩ | ⟨h2, h3⟩
      · rcases hc with hc | hc
        · subst hc
          rw [List.take_length, HLn.out, List.take_length] at h3
          rw [h3, h2]
          exact cmpI_eq rfl
        · exact absurd h2 hc
      · rw [h2]; exact cmpI_lt (by omega)
      · rw [h2]; exact cmpI_gt (by omega)
    by_cases hlt : i < a.length
    · by_cases ht : t = 0
      · subst ht
        have hti : a.take i = b.take i := by rcases HT.out with ⟨_, h⟩ | ⟨h, _⟩ | ⟨h, _⟩ <;> first | exact h | omega
        clear hfin
        obtain ⟨ad, rfl, hca⟩ := (HA.out.below HW4.out).2.2 i hlt
        obtain ⟨bd, rfl, hcb⟩ := (HB.out.below HW4.out).2.2 i (by rw [← HLn.out]; exact hlt)
        have hib : i < b.length := by rw [← HLn.out]; exact hlt
        rcases Int.lt_trichotomy (dg a i) (dg b i) with hc | hc | hc
        · have e1 : decide (dg a i < dg b i) = true := decide_eq_true hc
          have e2 : decide (dg b i < dg a i) = false := decide_eq_false (by omega)
          have HT2 : Hid (OrdI n a b (i + 1) (-1)) := .inr (.inl ⟨rfl, order_lt HU.out HU2.out HLn.out hlt hti hc⟩)
          clear hti hc HT
          go_wp2_with fail
          go_quiet (fail)
          go_wp2_with fail
          go_quiet (fail)
          go_wp2_with fail
          go_roundw
          case rel => exact ⟨i + 1, -1, hlt, by go_num, rfl, HT2, by first | exact ⟨_, rfl⟩ | exact ⟨_, (by simp only [World.drewN_drewN]; rfl)⟩⟩
          case measure => simp [intOf]; omega
        · have e1 : decide (dg a i < dg b i) = false := decide_eq_false (by omega)
          have e2 : decide (dg b i < dg a i) = false := decide_eq_false (by omega)
          have HT2 : Hid (OrdI n a b (i + 1) (0)) := .inl ⟨rfl, take_snoc_eq hlt hib hti hc⟩
          clear hti hc HT
          go_wp2_with fail
          go_quiet (fail)
          go_wp2_with fail
          go_quiet (fail)
          go_wp2_with fail
          go_roundw
          case rel => exact ⟨i + 1, 0, hlt, by go_num, rfl, HT2, by first | exact ⟨_, rfl⟩ | exact ⟨_, (by simp only [World.drewN_drewN]; rfl)⟩⟩
          case measure => simp [intOf]; omega
        · have e1 : decide (dg a i < dg b i) = false := decide_eq_false (by omega)
          have e2 : decide (dg b i < dg a i) = true := decide_eq_true hc
          have HT2 : Hid (OrdI n a b (i + 1) (1)) := .inr (.inr ⟨rfl, order_lt HU2.out HU.out HLn.out.symm hib hti.symm hc⟩)
          clear hti hc HT
          go_wp2_with fail
          go_quiet (fail)
          go_wp2_with fail
          go_quiet (fail)
          go_wp2_with fail
          go_roundw
          case rel => exact ⟨i + 1, 1, hlt, by go_num, rfl, HT2, by first | exact ⟨_, rfl⟩ | exact ⟨_, (by simp only [World.drewN_drewN]; rfl)⟩⟩
          case measure => simp [intOf]; omega
      · have ht2 : (t == 0) = false := by simpa using ht
        have HF := Lib.hid (hfin (.inr ht))
        clear hfin ht
        have HW5 := Lib.hid (below_drewN HW4.out m)
        have RX5 := Lib.hid (RX4.out.below (below_drewN (Below.refl _ _) m))
        have RY5 := Lib.hid (RY4.out.below (below_drewN (Below.refl _ _) m))
        go_wp2_with fail
        refine (cmp_ok _ A3 A4 _ _ x y RX5.out RY5.out).mono ?_
        rintro e w6 ⟨n6, rfl, rfl⟩
        have HW6 := Lib.hid (below_drewN HW4.out (m + n6))
        rw [HF.out]
        have ht3 : (t == t) = true := by simp
        go_wp2_with fail
        go_ret
        exact ⟨rfl, HW6.out⟩
    · obtain rfl : i = a.length := by omega
      have HF := Lib.hid (hfin (.inl rfl))
      clear hfin
      have HW5 := Lib.hid (below_drewN HW4.out m)
      have RX5 := Lib.hid (RX4.out.below (below_drewN (Below.refl _ _) m))
      have RY5 := Lib.hid (RY4.out.below (below_drewN (Below.refl _ _) m))
      go_wp2_with fail
      refine (cmp_ok _ A3 A4 _ _ x y RX5.out RY5.out).mono ?_
      rintro e w6 ⟨n6, rfl, rfl⟩
      have HW6 := Lib.hid (below_drewN HW4.out (m + n6))
      rw [HF.out]
      have ht3 : (t == t) = true := by simp
      go_wp2_with fail
      go_ret
      exact ⟨rfl, HW6.out⟩

set_option maxHeartbeats 400000 in
theorem order_law (w : World) (n : Int) (hn : -9223372036854775808 ≤ n ∧ n ≤ 9223372036854775807) (A : Option Addr) (c : Nat) (a : List Int) (ha : Rk w .i64 A c a) (_ : ∀ x ∈ a, (Lit.int .i64 x).wf = true) (_ : a.length * 8 ≤ 140737488351232) (B : Option Addr) (d : Nat) (b : List Int) (hb : Rk w .i64 B d b) (_ : ∀ x ∈ b, (Lit.int .i64 x).wf = true) (_ : b.length * 8 ≤ 140737488351232) :
    Calls Try.prog 8 #[.int .i64 n, .slice A a.length c, .slice B b.length d] w (RetTrue w) := by
  by_cases h0 : 0 ≤ n ∧ n ≤ 200
  · obtain ⟨m, rfl⟩ := Int.eq_ofNat_of_zero_le h0.1
    by_cases h : a.length = b.length
    · cases hx : up m (-1) a with
      | false => exact order_up w m A B c d a b ha hb (by omega) h (.inl hx)
      | true =>
        cases hy : up m (-1) b with
        | false => exact order_up w m A B c d a b ha hb (by omega) h (.inr ⟨hx, hy⟩)
        | true => exact order_yes w m A B c d a b ha hb (by omega) h hx hy
    · exact order_len w m A B c d a b (by omega) (by omega) h
  · exact order_low w n A B c d a b (by omega)

end Go.Proofs.Ytmafifpibfjomaa.M
