/- The law EquateNumbers: its walk. -/
import Derived.Test.YtocpncjmcaecoaaGreatEqH
import Derived.Test.YtocpncjmcaecoaaGreatRfE
import Derived.Test.YtocpncjmcaecoaaGreatRfF
namespace Go.Proofs.YtocpncjmcaecoaaGreat.M
set_option maxRecDepth 10000
open Go.RowKit
set_option linter.unusedVariables false
set_option linter.unusedSimpArgs false

set_option maxHeartbeats 12800000 in
theorem numbers_ok (w : World) (FA : Option Addr) (fc : Nat) (f : List Int) (hf : Rk w .i64 FA fc f) (S : Option Addr) (cS : Nat) (rs : List Rt) (hrs : Rs w S cS rs) (hsm : ∀ (j : Nat) (r : Rt), rs[j]? = some r → r.xs.length ≤ 35184372088000 ∧ r.ys.length ≤ 35184372088000) (mode lo hi : Int) :
    Calls Tryz.prog 5 #[.slice FA f.length fc, .slice S rs.length cS, .int .i64 mode, .int .i64 lo, .int .i64 hi] w (RetT w) := by
  have HR := Lib.hid hf
  have hcl := hf.1
  have hcm := hf.2.1
  clear hf
  have HRS := Lib.hid hrs
  have HSM := Lib.hid hsm
  clear hrs hsm
  go_enter Tryz.func5, Tryz.ntmps5
  obtain ⟨E, hE⟩ : ∃ E, validE f = E := ⟨_, rfl⟩
  obtain ⟨mq, hmq⟩ : ∃ mq, momM f = mq := ⟨_, rfl⟩
  obtain ⟨vq, hvq⟩ : ∃ vq, momV f = vq := ⟨_, rfl⟩
  have HE := Lib.hid hE
  have HMQ := Lib.hid hmq
  have HVQ := Lib.hid hvq
  obtain ⟨e0, he0⟩ : ∃ e0, roundE rs.length mode lo hi = e0 := ⟨_, rfl⟩
  have HE0 := Lib.hid he0
  have ee1 : (e0 == e0) = true := beq_self_eq_true e0
  have ee2 : (e0 != e0) = false := bne_self_eq_false e0
  have ee3 : (E == E) = true := beq_self_eq_true E
  have ee4 : (E != E) = false := bne_self_eq_false E
  clear hE hmq hvq he0
  have H_w : Hid (Mo w w [] []) := Mo.start w
  go_wp2_with fail
  refine (rounded_ok w S cS rs mode lo hi HRS.out HSM.out).mono ?_
  rw [HE0.out]
  rintro e_ r1 ⟨LA, lc, la, rfl, HLA, hla, hB⟩
  have H_r1 := Lib.hid (Mo.call H_w.out hB)
  have HKA := Lib.hid hla
  clear hla
  clear hB
  go_wp2_with fail
  refine (rrounded_ok r1 S cS rs mode lo hi (HRS.out.below H_r1.out.below) HSM.out).mono ?_
  rw [HE0.out]
  rintro e_ r2 ⟨LB, ld, lb, rfl, HLB, hlb, hB⟩
  have H_r2 := Lib.hid (Mo.call H_r1.out hB)
  obtain rfl : lb = la := HLB.out.trans HLA.out.symm
  have HKB := Lib.hid hlb
  have HKA2 := Lib.hid (HKA.out.below hB)
  clear hlb HLA HLB HKA
  clear hB
  have hll : lb.length ≤ 9223372036854775807 := Nat.le_trans HKB.out.1 HKB.out.2.1
  have m1 : ((lb.length : Int) == (lb.length : Int)) = true := beq_self_eq_true _
  have m2 : ((lb.length : Int) != (lb.length : Int)) = false := bne_self_eq_false _
  go_wp2_with fail
  go_loopw [15, 50] (fun v iv wr => ∃ (k : Nat), iv = .int .i64 (k : Int) ∧ k ≤ lb.length ∧ Hid (Below r2.heap.size r2 wr)) (fun _ iv _ => lb.length - (intOf iv).toNat)
  case atStart => exact ⟨0, rfl, Nat.zero_le _, Below.refl _ _⟩
  case round =>
    clear m1 m2
    obtain ⟨k, rfl, hk, HB⟩ := hrel
    have H_wr := Lib.hid (Mo.call H_r2.out HB.out)
    by_cases hlt : k < lb.length
    · have d1 : decide ((k : Int) < (lb.length : Int)) = true := decide_eq_true (by omega)
      have bk1 : (0 : Int) ≤ (k : Int) := by omega
      have bk2 : (k : Int) < (lb.length : Int) := by omega
      obtain ⟨ad, hA, hc⟩ := (HKA2.out.below HB.out).2.2 k hlt
      obtain ⟨bd, hB, hc2⟩ := (HKB.out.below HB.out).2.2 k hlt
      subst hA
      subst hB
      obtain ⟨n, hn⟩ : ∃ n, dg lb k = n := ⟨_, rfl⟩
      rw [hn] at hc hc2
      have e5 : (n != n) = false := bne_self_eq_false n
      have e6 : (n == n) = true := beq_self_eq_true n
      clear hn
      go_wp2_with fail
      go_quiet (fail)
      go_wp2_with fail
      go_roundw
      case rel => exact ⟨k + 1, by go_num, hlt, by first | exact HB | exact Lib.hid HB.out.drew | exact Lib.hid (below_drewN HB.out _)⟩
      case measure => simp [intOf]; omega
    · have d1 : decide ((k : Int) < (lb.length : Int)) = false := decide_eq_false (by omega)
      have d2_ : decide (k < lb.length) = false := decide_eq_false hlt
      clear hlt hk
      go_wp2_with fail
      refine (moments_ok wr FA fc f (HR.out.below H_wr.out.below)).mono ?_
      rw [HMQ.out, HVQ.out, HE.out]
      rintro e_ r7 ⟨b20, A20, c20, x20, B20, d20, y20, b21, A21, c21, x21, B21, d21, y21, rfl, HQa20, HQb20, HQc20, HQa21, HQb21, HQc21, hx20, hy20, hx21, hy21, hB⟩
      have H_r7 := Lib.hid (Mo.num (Mo.num (Mo.num (Mo.num (Mo.call H_wr.out hB) hx20) hy20) hx21) hy21)
      clear hB hx20 hy20 hx21 hy21
      go_upto_region 12 with fail
      obtain ⟨T5, hT5⟩ : ∃ T5, T5 = (r7.alloc (.cells #[.bool b20, .slice A20 x20.length c20, .slice B20 y20.length d20] 28)).alloc (.cells #[.bool b21, .slice A21 x21.length c21, .slice B21 y21.length d21] 28) := ⟨_, rfl⟩
      rw [← hT5]
      have H_T5 : Hid (Mo w T5 _ _) := Lib.hid (by rw [hT5]; exact (H_r7.out.alloc' (t := 28) (cs := #[.bool b20, .slice A20 x20.length c20, .slice B20 y20.length d20]) (r7.heap.size) rfl (nd_rat _ _ _ _ _ _ _)).alloc' (t := 28) (cs := #[.bool b21, .slice A21 x21.length c21, .slice B21 y21.length d21]) (r7.heap.size + 1) (by rw [size_alloc]) (nd_rat _ _ _ _ _ _ _))
      clear hT5
      go_wp2_with fail
      refine (rmoments_ok T5 FA fc f (HR.out.below H_T5.out.below)).mono ?_
      rw [HMQ.out, HVQ.out, HE.out]
      rintro e_ r8 ⟨b22, A22, c22, x22, B22, d22, y22, b23, A23, c23, x23, B23, d23, y23, rfl, HQa22, HQb22, HQc22, HQa23, HQb23, HQc23, hx22, hy22, hx23, hy23, hB⟩
      have H_r8 := Lib.hid (Mo.num (Mo.num (Mo.num (Mo.num (Mo.call H_T5.out hB) hx22) hy22) hx23) hy23)
      clear hB hx22 hy22 hx23 hy23
      go_upto_region 13 with fail
      obtain ⟨T6, hT6⟩ : ∃ T6, T6 = (r8.alloc (.cells #[.bool b22, .slice A22 x22.length c22, .slice B22 y22.length d22] 28)).alloc (.cells #[.bool b23, .slice A23 x23.length c23, .slice B23 y23.length d23] 28) := ⟨_, rfl⟩
      rw [← hT6]
      have H_T6 : Hid (Mo w T6 _ _) := Lib.hid (by rw [hT6]; exact (H_r8.out.alloc' (t := 28) (cs := #[.bool b22, .slice A22 x22.length c22, .slice B22 y22.length d22]) (r8.heap.size) rfl (nd_rat _ _ _ _ _ _ _)).alloc' (t := 28) (cs := #[.bool b23, .slice A23 x23.length c23, .slice B23 y23.length d23]) (r8.heap.size + 1) (by rw [size_alloc]) (nd_rat _ _ _ _ _ _ _))
      clear hT6
      have k0T6c0 := ((H_T6.out.var 0 rfl)).cell 0 rfl
      have k0T6c1 := ((H_T6.out.var 0 rfl)).cell 1 rfl
      have k0T6c2 := ((H_T6.out.var 0 rfl)).cell 2 rfl
      have k2T6c0 := ((H_T6.out.var 2 rfl)).cell 0 rfl
      have k2T6c1 := ((H_T6.out.var 2 rfl)).cell 1 rfl
      have k2T6c2 := ((H_T6.out.var 2 rfl)).cell 2 rfl
      go_wp2_with fail
      refine (equal_ok T6 b20 b22 A20 B20 A22 B22 c20 d20 c22 d22 x20 y20 x22 y22 (H_T6.out.rn 0 rfl) (H_T6.out.rn 1 rfl) (H_T6.out.rn 4 rfl) (H_T6.out.rn 5 rfl) mq mq HQa20.out HQb20.out HQc20.out HQa22.out HQb22.out HQc22.out).mono ?_
      rw [decide_eq_true (show mq = mq from rfl)]
      rintro e_ r9 ⟨rfl, hB⟩
      have H_r9 := Lib.hid (Mo.call H_T6.out hB)
      have k1r9c0 := ((H_r9.out.var 1 rfl)).cell 0 rfl
      have k1r9c1 := ((H_r9.out.var 1 rfl)).cell 1 rfl
      have k1r9c2 := ((H_r9.out.var 1 rfl)).cell 2 rfl
      have k3r9c0 := ((H_r9.out.var 3 rfl)).cell 0 rfl
      have k3r9c1 := ((H_r9.out.var 3 rfl)).cell 1 rfl
      have k3r9c2 := ((H_r9.out.var 3 rfl)).cell 2 rfl
      clear hB
      go_wp2_with fail
      refine (equal_ok r9 b21 b23 A21 B21 A23 B23 c21 d21 c23 d23 x21 y21 x23 y23 (H_r9.out.rn 2 rfl) (H_r9.out.rn 3 rfl) (H_r9.out.rn 6 rfl) (H_r9.out.rn 7 rfl) vq vq HQa21.out HQb21.out HQc21.out HQa23.out HQb23.out HQc23.out).mono ?_
      rw [decide_eq_true (show vq = vq from rfl)]
      rintro e_ r10 ⟨rfl, hB⟩
      have H_r10 := Lib.hid (Mo.call H_r9.out hB)
      clear hB
      go_wp2_with fail
      refine (awake_ok r10).mono ?_
      rintro e_ r11 ⟨rfl, hB⟩
      have H_r11 := Lib.hid (Mo.call H_r10.out hB)
      clear hB
      go_wp2_with fail
      go_ret
      exact ⟨rfl, H_r11.out.below⟩
theorem numbers_row (w : World) (A : Option Addr) (c : Nat) (l : List Int) (hp : Rk w .i64 A c l) (hwf : ∀ x ∈ l, (Lit.int .i64 x).wf = true) (hsz : l.length * 8 ≤ 140737488351232) (S : Option Addr) (cS : Nat) (rs : List Rt) (hrs : Rs w S cS rs) (hz : ∀ (j : Nat) (r : Rt), rs[j]? = some r → r.xs.length * 4 ≤ 140737488351232 ∧ r.ys.length * 4 ≤ 140737488351232) (mode : Int) (hm : -9223372036854775808 ≤ mode ∧ mode ≤ 9223372036854775807) (lo : Int) (hlo : -9223372036854775808 ≤ lo ∧ lo ≤ 9223372036854775807) (hi : Int) (hhi : -9223372036854775808 ≤ hi ∧ hi ≤ 9223372036854775807) :
    Calls Tryz.prog 5 #[.slice A l.length c, .slice S rs.length cS, .int .i64 mode, .int .i64 lo, .int .i64 hi] w (RetT w) :=
  numbers_ok w A c l hp S cS rs hrs (fun j r hj => by have := hz j r hj; omega) mode lo hi

end Go.Proofs.YtocpncjmcaecoaaGreat.M
