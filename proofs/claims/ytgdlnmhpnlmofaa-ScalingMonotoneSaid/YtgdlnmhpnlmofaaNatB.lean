/- Comparing two numbers of the program. -/
import Derived.Test.YtgdlnmhpnlmofaaNatA
namespace Go.Proofs.Ytgdlnmhpnlmofaa.M
open Go.RowKit

/-- What a call comes to that only reads and tells a whole number. -/
def RetI (v : Int) (w : World) (e : Ending) (w' : World) : Prop := ∃ n, w' = w.drewN n ∧ e = .returned (.int .i64 v)

theorem lt_at {x y : List Int} {j : Nat} (he : x.length = y.length) (hx : Lim x) (hy : Lim y) (hj : j + 1 ≤ x.length) (hd : ∀ i, j + 1 ≤ i → i < x.length → dg x i = dg y i) (h : dg x j < dg y j) : V x < V y := by
  unfold V
  rw [← he]
  exact S_lt hx hy (i := j) (by omega) (fun i h1 h2 => hd i (by omega) h2) h

set_option maxHeartbeats 400000 in
theorem cmp_ok (w : World) (A B : Option Addr) (c d : Nat) (xs ys : List Int) (hx : RN w A c xs) (hy : RN w B d ys) :
    Calls Try.prog 67 #[.slice A xs.length c, .slice B ys.length d] w (RetI (cmpI (V xs) (V ys)) w) := by
  have HVx := Lib.hid (V_nrm hx.2)
  have HVy := Lib.hid (V_nrm hy.2)
  go_enter Try.func67, Try.ntmps67
  go_wp2_with fail
  refine (trim_ok _ A c xs hx).mono ?_
  rintro e w1 ⟨rfl, x, rfl, HX, hx'⟩
  go_wp2_with fail
  refine (trim_ok _ B d ys hy).mono ?_
  rintro e w1 ⟨rfl, y, rfl, HY, hy'⟩
  have NX : Nf x := by rw [HX.out]; exact nrm_nf _
  have NY : Nf y := by rw [HY.out]; exact nrm_nf _
  have EX : Hid (V xs = V x) := by show V xs = V x; rw [HX.out]; exact HVx.out.symm
  have EY : Hid (V ys = V y) := by show V ys = V y; rw [HY.out]; exact HVy.out.symm
  clear HX HY HVx HVy hx hy
  obtain ⟨⟨hx1, hx2, hx3⟩, hx4⟩ := hx'
  obtain ⟨⟨hy1, hy2, hy3⟩, hy4⟩ := hy'
  have HX3 := Lib.hid hx3
  have HY3 := Lib.hid hy3
  have HNX := Lib.hid NX
  have HNY := Lib.hid NY
  clear hx3 hy3 NX NY hx4 hy4
  rcases Nat.lt_trichotomy x.length y.length with hlt | heq | hgt
  · have hb : (x.length == y.length) = false := beq_eq_false_iff_ne.2 (by omega)
    go_wp2_with fail
    go_ret
    exact ⟨0, rfl, by rw [EX.out, EY.out, cmpI_lt (HNX.out.lt_of_len HNY.out (by omega))]; rfl⟩
  · have hb : (x.length == y.length) = true := beq_iff_eq.2 heq
    have HE := Lib.hid heq
    clear heq
    go_wp2_with fail
    go_loopw [7] (fun i wr => ∃ k : Nat, k ≤ x.length ∧ i = .int .i64 ((k : Int) - 1) ∧ Hid (∀ j, k ≤ j → j < x.length → dg x j = dg y j) ∧ ∃ n, wr = w.drewN n) (fun i _ => (intOf i + 1).toNat)
    case atStart => exact ⟨x.length, Nat.le_refl _, rfl, fun j h1 h2 => by omega, 0, rfl⟩
    case round =>
      obtain ⟨k, hk, rfl, HD, n, rfl⟩ := hrel
      by_cases h0 : k = 0
      · subst h0
        go_wp2
        go_ret
        refine ⟨n, rfl, ?_⟩
        rw [EX.out, EY.out, cmpI_eq]
        · rfl
        · unfold V
          rw [← HE.out]
          exact S_congr (fun j hj => HD.out j (by omega) hj)
      · obtain ⟨j, rfl⟩ : ∃ j, k = j + 1 := ⟨k - 1, by omega⟩
        have hjy : j < y.length := by have := HE.out; omega
        obtain ⟨ad, rfl, hcx⟩ := HX3.out j (by omega)
        obtain ⟨bd, rfl, hcy⟩ := HY3.out j hjy
        clear h0
        have ej : ((j + 1 : Nat) : Int) - 1 = (j : Int) := by omega
        rw [ej]
        clear ej
        rcases Int.lt_trichotomy (dg x j) (dg y j) with hlt | heq | hgt
        · have hd : decide (dg x j < dg y j) = true := decide_eq_true hlt
          have HLT := Lib.hid hlt
          clear hlt
          go_wp2
          go_quiet (fail)
          go_wp2
          go_ret
          refine ⟨_, (by simp only [World.drewN_drewN]; rfl), ?_⟩
          rw [EX.out, EY.out, cmpI_lt (lt_at HE.out HNX.out.lim HNY.out.lim hk HD.out HLT.out)]
          rfl
        · have hd : decide (dg x j < dg y j) = false := decide_eq_false (by omega)
          have hd2 : decide (dg y j < dg x j) = false := decide_eq_false (by omega)
          have HLT := Lib.hid heq
          clear heq
          go_wp2
          go_quiet (fail)
          go_wp2
          go_quiet (fail)
          go_wp2
          go_roundw
          case rel =>
            refine ⟨j, by omega, rfl, fun i h1 h2 => ?_, ?_⟩
            · by_cases e : i = j
              · subst e; exact HLT.out
              · exact HD.out i (by omega) h2
            · first | exact ⟨_, rfl⟩ | exact ⟨_, (by simp only [World.drewN_drewN]; rfl)⟩
          case measure => simp [intOf]
        · have hd : decide (dg x j < dg y j) = false := decide_eq_false (by omega)
          have hd2 : decide (dg y j < dg x j) = true := decide_eq_true (by omega)
          have HLT := Lib.hid hgt
          clear hgt
          go_wp2
          go_quiet (fail)
          go_wp2
          go_quiet (fail)
          go_wp2
          go_ret
          refine ⟨_, (by simp only [World.drewN_drewN]; rfl), ?_⟩
          rw [EX.out, EY.out, cmpI_gt (lt_at HE.out.symm HNY.out.lim HNX.out.lim (by have := HE.out; omega) (fun i h1 h2 => (HD.out i h1 (by have := HE.out; omega)).symm) HLT.out)]
          rfl
  · have hb : (x.length == y.length) = false := beq_eq_false_iff_ne.2 (by omega)
    have hb2 : decide (x.length < y.length) = false := decide_eq_false (by omega)
    go_wp2_with fail
    go_ret
    exact ⟨0, rfl, by rw [EX.out, EY.out, cmpI_gt (HNY.out.lt_of_len HNX.out (by omega))]; rfl⟩

end Go.Proofs.Ytgdlnmhpnlmofaa.M
