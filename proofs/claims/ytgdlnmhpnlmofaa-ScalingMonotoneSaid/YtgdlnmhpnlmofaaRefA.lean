/- The reference: Norm, Of, limb. -/
import Derived.Test.YtgdlnmhpnlmofaaNatG
import Derived.Laws.CopyRow
import Derived.Laws.IdiomCopy
namespace Go.Proofs.Ytgdlnmhpnlmofaa.M
set_option maxRecDepth 10000
open Go.RowKit
set_option linter.unusedVariables false

theorem wpList_copy_run {P : Program} {w w' : World} {ops : Array Oper} {rest : List Oper} {o : Oper} {a : Act} {Q : Exit → Act → World → Prop} (hgd : o.guard = none) (d s : Operand) (dT sT : TypeId)
    (ho : o.op = .call { callee := .builtin .copy, args := #[d, s], argTypes := #[dT, sT] })
    (v u r : Value) (hd : a.eval d = v) (hs : a.eval s = u) (hr : (Builtin.copy_ #[dT, sT] o.type #[v, u]).run P w = .ok r w')
    (h : wpList P ops Q rest (a.put o.dst r) w') : wpList P ops Q (o :: rest) a w :=
  wpList_plain hgd fun _ hK => by
    unfold Oper.wp execOp
    simp only [ho, resolve, invoke, builtin, Sem.run_bind, Sem.run_pure, Result.andThen_ok, List.map_toArray, List.map_cons, List.map_nil, hd, hs, hr]
    exact hK _ _ h

/-- A new row of n zeros takes the first n numbers of what is read. -/
theorem copy_take {P : Program} (t ty e : TypeId) (i : TypeInfo) (ht : P.underlying t = some (.slice e)) (hi : P.info? e = some i) (hsz : i.size = 1)
    {W : World} {g : Nat} {k : IntKind} {A : Option Addr} {c n : Nat} {xs : List Int} (hb : Bk W g e k (List.replicate n 0)) (h : Rk W k A c xs) (hn : n ≤ xs.length) :
    ∃ W', (Builtin.copy_ #[t, t] ty #[.slice (some ⟨g, 0, none⟩) n n, .slice A xs.length c]).run P W = .ok (goInt n) W' ∧ Bk W' g e k (xs.take n) ∧ Below g W W' := by
  have hs : (P.info? e).map (·.size) = some 1 := by rw [hi]; simp [hsz]
  by_cases h0 : n = 0
  · subst h0
    exact ⟨W, run_copy_none (P := P) W t t ty e _ A 0 0 xs.length c ht hs (by simp), by simpa using hb, Below.refl _ _⟩
  · obtain ⟨ad, rfl, _⟩ := h.2.2 0 (by omega)
    have hcs : ((xs.take n).map (Value.int k)).length = Nat.min xs.length n := by
      rw [List.length_map, List.length_take]
      exact Nat.min_comm _ _
    have hmin : Nat.min xs.length n = n := Nat.min_eq_right hn
    have hsrc : ∀ j v, ((xs.take n).map (Value.int k))[j]? = some v → W.cell? (ad.add j) = some v := by
      intro j v hv
      rw [List.getElem?_map] at hv
      obtain ⟨x, hx, rfl⟩ := Option.map_eq_some_iff.1 hv
      obtain ⟨hj, rfl⟩ := List.getElem?_eq_some_iff.1 hx
      rw [List.length_take] at hj
      obtain ⟨ad', e', hc'⟩ := h.2.2 j (by omega)
      cases e'
      rw [dg_get (by omega)] at hc'
      rw [List.getElem_take]
      exact hc'
    have hr := run_copy_row (P := P) W t t ty e g 0 n n ad xs.length c _ e _ ht hs hb hcs hsrc (by rw [hcs, hmin]; simp) (fun v hv => by
      obtain ⟨x, _, rfl⟩ := List.mem_map.1 hv
      rfl)
    rw [hcs, hmin] at hr
    refine ⟨_, hr, ?_, ⟨rfl, rfl, rfl, by simp, fun j hj => setRow_other W g j _ (by omega)⟩⟩
    unfold Bk
    rw [setRow_heap W g _ _ e _ hb]
    congr 2
    simp

set_option maxHeartbeats 400000 in
theorem rnorm_f (w : World) (A : Option Addr) (c : Nat) (xs : List Int) (h : RN w A c xs) (hs : xs.length ≤ 70368744177664) :
    Calls Try.prog 82 #[.slice A xs.length c] w (RetF (V xs).toNat w) := by
  obtain ⟨i0, hi, hz0, hz1, hz2⟩ := info_parts info_u32
  have hl := tl_le xs xs.length
  have HT0 := Lib.hid (take_tl h.2)
  have HR := Lib.hid h
  have H3 := Lib.hid h.1.2.2
  have hc1 := h.1.1
  have hc2 := h.1.2.1
  clear h
  go_enter Try.func82, Try.ntmps82
  go_wp2
  go_loop [3] (fun i => ∃ k : Nat, k ≤ xs.length ∧ i = .int .i64 k ∧ Hid (tl xs k = tl xs xs.length)) (fun i => (intOf i).toNat)
  case atStart => exact ⟨xs.length, Nat.le_refl _, rfl, rfl⟩
  case round =>
    obtain ⟨k, hk, rfl, HT⟩ := hrel
    by_cases hz : k ≠ 0 ∧ dg xs (k - 1) = 0
    · obtain ⟨h0, hz⟩ := hz
      obtain ⟨j, rfl⟩ : ∃ j, k = j + 1 := ⟨k - 1, by omega⟩
      rw [Nat.add_sub_cancel] at hz
      obtain ⟨ad, rfl, hc⟩ := H3.out j (by omega)
      have HT' : Hid (tl xs j = tl xs xs.length) := by have := HT.out; rwa [tl, if_pos hz] at this
      rw [hz] at hc
      clear hz h0
      go_wp2
      go_round
      case rel => exact ⟨j, by omega, rfl, HT'⟩
      case measure => simp [intOf]
    · have HE : Hid (k = tl xs xs.length) := by
        have h1 := HT.out
        rcases Nat.eq_zero_or_pos k with h0 | h0
        · subst h0; exact h1
        · obtain ⟨j, rfl⟩ : ∃ j, k = j + 1 := ⟨k - 1, by omega⟩
          rw [Nat.add_sub_cancel] at hz
          rw [tl, if_neg (fun h => hz ⟨by omega, h⟩)] at h1
          exact h1
      have hmk := mk_make 29 95 i0 .u32 Try.underlying29 hi hz0 hz1 (k : Int) (by omega) (by rw [hz2]; omega) (by omega)
      rw [Int.toNat_natCast] at hmk
      have hk0 := Bk.made (w := w) (e := 95) (k := .u32) k
      have hb0 : Below w.heap.size w (w.alloc (.cells (madeCells #[.int .u32 0] k) 95 (0, 0))) := (Below.refl _ w).alloc (Nat.le_refl _) _
      obtain ⟨W', hr, hK, hB⟩ := copy_take (P := Try.prog) 29 3 95 i0 Try.underlying29 hi hz1 hk0 ((HR.out).1.below hb0) hk
      have HB := Lib.hid (hb0.trans hB)
      have HK := Lib.hid hK
      clear hB hb0 hK hk0
      have hfin : ∃ ys : List Int, ys.length = k ∧ Hid (ys = limbs (V xs).toNat) ∧ RN W' (some ⟨w.heap.size, 0, none⟩) k ys := by
        have hlen : (xs.take k).length = k := by rw [List.length_take]; omega
        refine ⟨xs.take k, hlen, ?_, ?_, (HR.out).2.take k⟩
        · show _ = _
          rw [HE.out]
          exact HT0.out
        · have := HK.out.reads (by rw [hlen]; omega)
          rwa [hlen] at this
      have HF := Lib.hid hfin
      clear hfin
      by_cases h0 : k = 0
      · subst h0
        rw [Int.natCast_zero] at hmk
        go_wp2_with (with_reducible refine wpList_copy_run rfl _ _ _ _ rfl _ _ _ rfl rfl hr ?_; clear hr)
        go_wp2
        go_ret
        obtain ⟨ys, e1, e2, e3⟩ := HF.out
        exact ⟨w.heap.size, 0, ys, Nat.le_refl _, ret_slice e1.symm rfl, e2, e3, HB.out⟩
      · obtain ⟨j, rfl⟩ : ∃ j, k = j + 1 := ⟨k - 1, by omega⟩
        rw [Nat.add_sub_cancel] at hz
        have hz' : (dg xs j == 0) = false := by
          rw [beq_eq_false_iff_ne]
          exact fun h => hz ⟨by omega, h⟩
        obtain ⟨ad, rfl, hc⟩ := H3.out j (by omega)
        clear hz h0
        rw [Int.natCast_add, Int.natCast_one] at hmk
        go_wp2_with (with_reducible refine wpList_copy_run rfl _ _ _ _ rfl _ _ _ rfl rfl hr ?_; clear hr)
        go_wp2
        go_ret
        obtain ⟨ys, e1, e2, e3⟩ := HF.out
        exact ⟨w.heap.size, j + 1, ys, Nat.le_refl _, ret_slice e1.symm rfl, e2, e3, HB.out⟩

theorem rnorm_ok (w : World) (A : Option Addr) (c : Nat) (xs : List Int) (h : RN w A c xs) (hs : xs.length ≤ 70368744177664) :
    Calls Try.prog 82 #[.slice A xs.length c] w (RetN (V xs).toNat w) := (rnorm_f w A c xs h hs).mono fun _ _ h => h.n

set_option maxHeartbeats 400000 in
theorem rof_ok (w : World) (n : Int) (h0 : 0 ≤ n) (h1 : n ≤ 18446744073709551615) :
    Calls Try.prog 58 #[.int .u64 n] w (RetN n.toNat w) := by
  go_enter Try.func58, Try.ntmps58
  go_wp2_with fail
  have hb : Below w.heap.size w (w.alloc (.cells #[.int .u32 (n % 4294967296), .int .u32 (n / 4294967296)] 95 (0, 0))) := (Below.refl _ w).alloc (Nat.le_refl _) _
  have hk : Bk (w.alloc (.cells #[.int .u32 (n % 4294967296), .int .u32 (n / 4294967296)] 95 (0, 0))) w.heap.size 95 .u32 [n % 4294967296, n / 4294967296] := Bk.lit (w := w) (e := 95) (k := .u32) [n % 4294967296, n / 4294967296]
  have hr := hk.reads (by simp)
  refine (rnorm_ok _ _ _ [n % 4294967296, n / 4294967296] ⟨hr, Lim_two (by omega) (by omega) (by omega) (by omega)⟩ (by simp)).mono ?_
  rintro e w1 ⟨A, c, ys, rfl, HY, hy, hB⟩
  clear hr hk
  have HB := Lib.hid (below_seq hb hB)
  clear hb hB
  go_wp2
  go_ret
  refine ⟨_, _, ys, rfl, ?_, hy, HB.out⟩
  have := HY.out
  rw [V_two] at this
  show ys = limbs n.toNat
  rw [this]
  congr 2
  omega

/-- A digit, 0 beyond the end. -/
def RetU (v : Int) (w : World) (e : Ending) (w' : World) : Prop := e = .returned (.int .u64 v) ∧ w = w'
set_option maxHeartbeats 400000 in
theorem limb_ok (w : World) (A : Option Addr) (c : Nat) (xs : List Int) (h : RN w A c xs) (i : Int) (h0 : 0 ≤ i) :
    Calls Try.prog 88 #[.slice A xs.length c, .int .i64 i] w (RetU (dg xs i.toNat) w) := by
  have bx := h.2 i.toNat
  by_cases hlt : i.toNat < xs.length
  · obtain ⟨ad, rfl, hc⟩ := h.1.2.2 i.toNat hlt
    have hm : xs.length ≤ 9223372036854775807 := Nat.le_trans h.1.1 h.1.2.1
    have hd : decide (i < (xs.length : Int)) = true := decide_eq_true (by omega)
    clear h
    go_enter Try.func88, Try.ntmps88
    go_wp2
    go_ret
    exact ⟨rfl, rfl⟩
  · have hd : decide (i < (xs.length : Int)) = false := decide_eq_false (by omega)
    have HE := Lib.hid (dg_ge (xs := xs) (j := i.toNat) (by omega))
    clear h
    go_enter Try.func88, Try.ntmps88
    go_wp2
    go_ret
    exact ⟨by rw [HE.out]; rfl, rfl⟩

end Go.Proofs.Ytgdlnmhpnlmofaa.M
