/- Comparing two numbers limb by limb, as the laws do. -/
import Derived.Test.YtmafifpibfjomaaNatH
import Derived.Test.YtmafifpibfjomaaCombB
namespace Go.Proofs.Ytmafifpibfjomaa.M
open Go.RowKit
set_option linter.unusedVariables false

/-- A bool, some orders having been drawn. -/
def RetBq (b : Bool) (w : World) (e : Ending) (w' : World) : Prop := ∃ n, w' = w.drewN n ∧ e = .returned (.bool b)

set_option maxHeartbeats 800000 in
theorem limbs_yes (w : World) (A B : Option Addr) (c d : Nat) (xs ys : List Int) (hx : Rk w .u32 A c xs) (hy : Rk w .u32 B d ys) (he : xs = ys) :
    Calls Try.prog 13 #[.slice A xs.length c, .slice B ys.length d] w (RetBq true w) := by
  subst he
  obtain ⟨h1, h2, h3⟩ := hx
  obtain ⟨h4, h5, h6⟩ := hy
  have HX := Lib.hid h3
  have HY := Lib.hid h6
  clear h3 h6
  go_enter Try.func13, Try.ntmps13
  go_wp2_with fail
  go_loopw [5] (fun iv wr => ∃ k : Nat, k ≤ xs.length ∧ iv = .int .i64 (k : Int) ∧ ∃ n, wr = w.drewN n) (fun iv _ => xs.length - (intOf iv).toNat)
  case atStart => exact ⟨0, Nat.zero_le _, rfl, 0, rfl⟩
  case round =>
    obtain ⟨k, hk, rfl, n, rfl⟩ := hrel
    by_cases hlt : k < xs.length
    · obtain ⟨ad, rfl, hcx⟩ := HX.out k hlt
      obtain ⟨bd, rfl, hcy⟩ := HY.out k hlt
      have hne : (dg xs k != dg xs k) = false := by simp
      go_wp2
      go_quiet (fail)
      go_wp2
      go_roundw
      case rel => exact ⟨k + 1, hlt, by go_num, by first | exact ⟨_, rfl⟩ | exact ⟨_, (by simp only [World.drewN_drewN]; rfl)⟩⟩
      case measure => simp [intOf]; omega
    · obtain rfl : k = xs.length := by omega
      go_wp2
      go_ret
      exact ⟨n, rfl, rfl⟩

end Go.Proofs.Ytmafifpibfjomaa.M
