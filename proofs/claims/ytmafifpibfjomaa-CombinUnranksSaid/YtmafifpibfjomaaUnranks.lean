/- The law CombinUnranks: its walk. -/
import Derived.Test.YtmafifpibfjomaaRefL
import Derived.Test.YtmafifpibfjomaaRowKit
namespace Go.Proofs.Ytmafifpibfjomaa.M
open Go.RowKit
set_option linter.unusedVariables false
set_option linter.unusedSimpArgs false

theorem rk_none (w : World) (k : IntKind) : Rk w k none 0 [] := ⟨Nat.le_refl _, by omega, fun j hj => by simp at hj⟩

set_option maxHeartbeats 1600000 in
theorem unranks_yes (w : World) (n k : Nat) (A : Option Addr) (c : Nat) (rs : List Int) (hn : n ≤ 200) (hk : k ≤ n) (hr : RN w A c rs) (hs : rs.length ≤ 40) (hv : (V rs).toNat < ch n k) :
    Calls Try.prog 7 #[.int .i64 (n : Int), .int .i64 (k : Int), .slice A rs.length c] w (RetTrue w) := by
  have d1 : decide ((40 : Int) < (rs.length : Int)) = false := decide_eq_false (by omega)
  have HR := Lib.hid hr
  have HV := Lib.hid hv
  clear hr hv
  go_enter Try.func7, Try.ntmps7
  go_wp2_with fail
  refine (unrank_yes _ n k A c rs hn hk HR.out hs HV.out).mono ?_
  rintro e w1 ⟨A1, c1, x, rfl, HX, hx, hB⟩
  have HB1 := Lib.hid hB
  have RX1 := Lib.hid hx
  have HR1 := Lib.hid (HR.out.below hB)
  clear hB hx
  go_wp2_with fail
  refine (runrank_yes _ n k A c rs hn hk HR1.out hs HV.out).mono ?_
  rintro e w2 ⟨A2, c2, y, rfl, HY, hy, hB⟩
  have HB2 := Lib.hid (below_seq HB1.out hB)
  have RX2 := Lib.hid (RX1.out.below hB)
  have RY2 := Lib.hid hy
  clear hB hy
  go_wp2_with fail
  refine (ints_yes _ A1 A2 _ _ x y RX2.out RY2.out (by rw [HX.out, HY.out])).mono ?_
  rintro e w3 ⟨n3, rfl, rfl⟩
  have HB3 := Lib.hid (below_drewN HB2.out n3)
  go_wp2_with fail
  go_ret
  exact ⟨rfl, HB3.out⟩

set_option maxHeartbeats 1600000 in
theorem unranks_no (w : World) (n k : Int) (A : Option Addr) (c : Nat) (rs : List Int) (hr : RN w A c rs) (hs : rs.length ≤ 40) (h : (n < 0 ∨ (0 ≤ n ∧ 200 < n)) ∨ (0 ≤ n ∧ n ≤ 200 ∧ (k < 0 ∨ (0 ≤ k ∧ n < k) ∨ (0 ≤ k ∧ k ≤ n ∧ (ch n.toNat k.toNat : Int) ≤ V rs)))) :
    Calls Try.prog 7 #[.int .i64 n, .int .i64 k, .slice A rs.length c] w (RetTrue w) := by
  have d1 : decide ((40 : Int) < (rs.length : Int)) = false := decide_eq_false (by omega)
  have h' : (n < 0 ∨ 200 < n) ∨ (0 ≤ n ∧ n ≤ 200 ∧ (k < 0 ∨ (0 ≤ k ∧ n < k) ∨ (0 ≤ k ∧ k ≤ n ∧ (ch n.toNat k.toNat : Int) ≤ V rs))) := h.imp (fun h => h.imp id And.right) id
  have HH := Lib.hid h
  have HH' := Lib.hid h'
  have HR := Lib.hid hr
  clear hr h h'
  go_enter Try.func7, Try.ntmps7
  go_wp2_with fail
  refine (unrank_no _ n k A c rs HR.out HH'.out).mono ?_
  rintro e w1 ⟨rfl, hB⟩
  have HB1 := Lib.hid hB
  have HR1 := Lib.hid (HR.out.below hB)
  clear hB
  go_wp2_with fail
  refine (runrank_no _ n k A c rs HR1.out HH.out).mono ?_
  rintro e w2 ⟨rfl, hB⟩
  have HB2 := Lib.hid (below_seq HB1.out hB)
  clear hB
  go_wp2_with fail
  refine (ints_yes _ none none 0 0 [] [] (rk_none _ _) (rk_none _ _) rfl).mono ?_
  rintro e w3 ⟨n3, rfl, rfl⟩
  have HB3 := Lib.hid (below_drewN HB2.out n3)
  go_wp2_with fail
  go_ret
  exact ⟨rfl, HB3.out⟩

set_option maxHeartbeats 1600000 in
theorem unranks_law (w : World) (n : Int) (hn : -9223372036854775808 ≤ n ∧ n ≤ 9223372036854775807) (k : Int) (hk : -9223372036854775808 ≤ k ∧ k ≤ 9223372036854775807) (A : Option Addr) (c : Nat) (rs : List Int) (hp : Rk w .u32 A c rs) (hwf : ∀ x ∈ rs, (Lit.int .u32 x).wf = true) (hsz : rs.length * 4 ≤ 140737488351232) :
    Calls Try.prog 7 #[.int .i64 n, .int .i64 k, .slice A rs.length c] w (RetTrue w) := by
  by_cases hs : rs.length ≤ 40
  · have hr : RN w A c rs := ⟨hp, Lim.of_mem fun x hx => wf_u32 (hwf x hx)⟩
    by_cases h1 : 0 ≤ n ∧ n ≤ 200 ∧ 0 ≤ k ∧ k ≤ n ∧ V rs < (ch n.toNat k.toNat : Int)
    · obtain ⟨h1, h2, h3, h4, h5⟩ := h1
      obtain ⟨m, rfl⟩ := Int.eq_ofNat_of_zero_le h1
      obtain ⟨j, rfl⟩ := Int.eq_ofNat_of_zero_le h3
      exact unranks_yes w m j A c rs (by omega) (by omega) hr hs (by have := V_nonneg hr.2; simp only [Int.toNat_natCast] at h5; omega)
    · exact unranks_no w n k A c rs hr hs (by omega)
  · have d1 : decide ((40 : Int) < (rs.length : Int)) = true := decide_eq_true (by omega)
    go_enter Try.func7, Try.ntmps7
    go_wp2_with fail
    go_ret
    exact ⟨rfl, Below.refl _ _⟩

end Go.Proofs.Ytmafifpibfjomaa.M
