/- The law EquateTables: its walk. -/
import Derived.Test.YtocpncjmcaecoaaGreatEqH
import Derived.Test.YtocpncjmcaecoaaGreatRfD
namespace Go.Proofs.YtocpncjmcaecoaaGreat.M
set_option maxRecDepth 10000
open Go.RowKit
set_option linter.unusedVariables false
set_option linter.unusedSimpArgs false

set_option maxHeartbeats 12800000 in
theorem tables_ok (w : World) (FA : Option Addr) (fc : Nat) (f : List Int) (GA : Option Addr) (gc : Nat) (g : List Int) (hf : Rk w .i64 FA fc f) (hg : Rk w .i64 GA gc g) (x : Int) :
    Calls Tryz.prog 4 #[.slice FA f.length fc, .slice GA g.length gc, .int .i64 x] w (RetT w) := by
  have HR := Lib.hid hf
  have HG := Lib.hid hg
  have hcl := hf.1
  have hcm := hf.2.1
  have hgl := hg.1
  have hgm := hg.2.1
  clear hf hg
  go_enter Tryz.func4, Tryz.ntmps4
  have H_w : Hid (Mo w w [] []) := Mo.start w
  go_wp2_with fail
  refine (escore_ok w FA fc f GA gc g (HR.out.below H_w.out.below) (HG.out.below H_w.out.below) x).mono ?_
  rintro e_ r1 ⟨q1, e1, HI1, b1, A1, c1, x1, B1, d1, y1, rfl, HQa1, HQb1, HQc1, hx1, hy1, hB⟩
  have H_r1 := Lib.hid (Mo.num (Mo.num (Mo.call H_w.out hB) hx1) hy1)
  clear hB hx1 hy1
  go_upto_region 2 with fail
  obtain ⟨T1, hT1⟩ : ∃ T1, T1 = r1.alloc (.cells #[.bool b1, .slice A1 x1.length c1, .slice B1 y1.length d1] 28) := ⟨_, rfl⟩
  rw [← hT1]
  have H_T1 : Hid (Mo w T1 _ _) := Lib.hid (by rw [hT1]; exact H_r1.out.alloc (t := 28) (cs := #[.bool b1, .slice A1 x1.length c1, .slice B1 y1.length d1]) (nd_rat _ _ _ _ _ _ _))
  clear hT1
  go_wp2_with fail
  refine (rscore_ok T1 FA fc f GA gc g (HR.out.below H_T1.out.below) (HG.out.below H_T1.out.below) x).mono ?_
  rintro e_ r2 ⟨q2, e2, HI2, b2, A2, c2, x2, B2, d2, y2, rfl, HQa2, HQb2, HQc2, hx2, hy2, hB⟩
  have H_r2 := Lib.hid (Mo.num (Mo.num (Mo.call H_T1.out hB) hx2) hy2)
  obtain ⟨rfl, rfl⟩ := scoreR_one HI1.out HI2.out
  clear hB hx2 hy2
  go_upto_region 3 with fail
  obtain ⟨T2, hT2⟩ : ∃ T2, T2 = r2.alloc (.cells #[.bool b2, .slice A2 x2.length c2, .slice B2 y2.length d2] 28) := ⟨_, rfl⟩
  rw [← hT2]
  have H_T2 : Hid (Mo w T2 _ _) := Lib.hid (by rw [hT2]; exact H_r2.out.alloc (t := 28) (cs := #[.bool b2, .slice A2 x2.length c2, .slice B2 y2.length d2]) (nd_rat _ _ _ _ _ _ _))
  clear hT2
  go_wp2_with fail
  refine (etable_ok T2 FA fc f GA gc g (HR.out.below H_T2.out.below) (HG.out.below H_T2.out.below)).mono ?_
  rintro e_ r3 ⟨TA, tc, rs, e5, rfl, HTB, hT, hB⟩
  have H_r3 := Lib.hid (Mo.call H_T2.out hB)
  have HTT := Lib.hid hT
  have BT_r3 : Hid (Below r3.heap.size r3 r3) := Below.refl _ _
  clear hT
  clear hB
  go_wp2_with fail
  refine (rtable_ok r3 FA fc f GA gc g (HR.out.below H_r3.out.below) (HG.out.below H_r3.out.below)).mono ?_
  rintro e_ r4 ⟨UA, uc, us, e6, rfl, HUB, hU, hB⟩
  have H_r4 := Lib.hid (Mo.call H_r3.out hB)
  have HUU := Lib.hid hU
  have HTT4 := Lib.hid (HTT.out.below hB)
  obtain ⟨rfl, hn1, hn2⟩ := tab_same HTB.out HUB.out
  have HN1 := Lib.hid hn1
  have HN2 := Lib.hid hn2
  clear hU hn1 hn2
  clear hB
  have ee1 : (e2 == e2) = true := beq_self_eq_true e2
  have ee2 : (e2 != e2) = false := bne_self_eq_false e2
  have ee3 : (e6 == e6) = true := beq_self_eq_true e6
  have ee4 : (e6 != e6) = false := bne_self_eq_false e6
  have k0r4c0 := ((H_r4.out.var 0 rfl)).cell 0 rfl
  have k0r4c1 := ((H_r4.out.var 0 rfl)).cell 1 rfl
  have k0r4c2 := ((H_r4.out.var 0 rfl)).cell 2 rfl
  have k1r4c0 := ((H_r4.out.var 1 rfl)).cell 0 rfl
  have k1r4c1 := ((H_r4.out.var 1 rfl)).cell 1 rfl
  have k1r4c2 := ((H_r4.out.var 1 rfl)).cell 2 rfl
  go_wp2_with fail
  refine (equal_ok r4 b1 b2 A1 B1 A2 B2 c1 d1 c2 d2 x1 y1 x2 y2 (H_r4.out.rn 0 rfl) (H_r4.out.rn 1 rfl) (H_r4.out.rn 2 rfl) (H_r4.out.rn 3 rfl) q2 q2 HQa1.out HQb1.out HQc1.out HQa2.out HQb2.out HQc2.out).mono ?_
  rw [decide_eq_true (show q2 = q2 from rfl)]
  rintro e_ r5 ⟨rfl, hB⟩
  have H_r5 := Lib.hid (Mo.call H_r4.out hB)
  have HTT5 := Lib.hid (HTT4.out.below hB)
  have HUU5 := Lib.hid (HUU.out.below hB)
  clear hB
  go_wp2_with fail
  refine (equals_ok r5 TA UA tc uc rs us HTT5.out HUU5.out (rs.map Rt.q) (rs.map Rt.q) HN1.out HN2.out).mono ?_
  rw [decide_eq_true (show rs.map Rt.q = rs.map Rt.q from rfl)]
  rintro e_ r6 ⟨rfl, hB⟩
  have H_r6 := Lib.hid (Mo.call H_r5.out hB)
  clear hB
  go_wp2_with fail
  refine (awake_ok r6).mono ?_
  rintro e_ r7 ⟨rfl, hB⟩
  have H_r7 := Lib.hid (Mo.call H_r6.out hB)
  clear hB
  go_wp2_with fail
  go_ret
  exact ⟨rfl, H_r7.out.below⟩
theorem tables_row (w : World) (A : Option Addr) (c : Nat) (l : List Int) (hp : Rk w .i64 A c l) (hwf : ∀ x ∈ l, (Lit.int .i64 x).wf = true) (hsz : l.length * 8 ≤ 140737488351232) (B : Option Addr) (d : Nat) (l2 : List Int) (hp2 : Rk w .i64 B d l2) (hwf2 : ∀ x ∈ l2, (Lit.int .i64 x).wf = true) (hsz2 : l2.length * 8 ≤ 140737488351232) (a : Int) (ha : -9223372036854775808 ≤ a ∧ a ≤ 9223372036854775807) :
    Calls Tryz.prog 4 #[.slice A l.length c, .slice B l2.length d, .int .i64 a] w (RetT w) := tables_ok w A c l B d l2 hp hp2 a

end Go.Proofs.YtocpncjmcaecoaaGreat.M
