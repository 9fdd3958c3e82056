/- The program's numbers: trim, Of, Norm: what each call comes to. -/
import Derived.Test.YtgdlnmhpnlmofaaProg
import Derived.Test.YtgdlnmhpnlmofaaMem
namespace Go.Proofs.Ytgdlnmhpnlmofaa.M
open Go.RowKit

/-- What a call comes to that makes a number: its normal form, in memory of its own or of an argument; nothing that was there has changed. -/
def RetN (N : Nat) (w : World) (e : Ending) (w' : World) : Prop := ∃ A c xs, e = .returned (.slice A xs.length c) ∧ Hid (xs = limbs N) ∧ RN w' A c xs ∧ Below w.heap.size w w'
/-- A number in memory that is new. -/
def RetF (N : Nat) (w : World) (e : Ending) (w' : World) : Prop := ∃ g c xs, w.heap.size ≤ g ∧ e = .returned (.slice (some ⟨g, 0, none⟩) xs.length c) ∧ Hid (xs = limbs N) ∧ RN w' (some ⟨g, 0, none⟩) c xs ∧ Below w.heap.size w w'
theorem RetF.n {N : Nat} {w : World} {e : Ending} {w' : World} (h : RetF N w e w') : RetN N w e w' := by
  obtain ⟨g, c, xs, _, h1, h2, h3, h4⟩ := h
  exact ⟨_, c, xs, h1, h2, h3, h4⟩
theorem ret_slice {A : Option Addr} {n m c c' : Nat} (h : n = m) (h' : c = c') : Ending.returned (.slice A n c) = .returned (.slice A m c') := by rw [h, h']

theorem wpList_append_run {P : Program} {w w' : World} {ops : Array Oper} {rest : List Oper} {o : Oper} {a : Act} {Q : Exit → Act → World → Prop} (hgd : o.guard = none) (s x : Operand) (t : TypeId)
    (ho : o.op = .call { callee := .builtin .append, args := #[s, x], argTypes := #[t, t] })
    (v u v' : Value) (hs : a.eval s = v) (hx : a.eval x = u) (hr : (Builtin.append_ #[t, t] o.type #[v, u]).run P w = .ok v' w')
    (h : wpList P ops Q rest (a.put o.dst v') w') : wpList P ops Q (o :: rest) a w :=
  wpList_plain hgd fun _ hK => by
    unfold Oper.wp execOp
    simp only [ho, resolve, invoke, builtin, Sem.run_bind, Sem.run_pure, Result.andThen_ok, List.map_toArray, List.map_cons, List.map_nil, hs, hx, hr]
    exact hK _ _ h

set_option maxHeartbeats 400000 in
theorem trim_ok (w : World) (A : Option Addr) (c : Nat) (xs : List Int) (h : RN w A c xs) :
    Calls Try.prog 89 #[.slice A xs.length c] w fun e w' => w = w' ∧ ∃ ys, e = .returned (.slice A ys.length ys.length) ∧ Hid (ys = nrm xs) ∧ RN w A ys.length ys := by
  have HF : ∃ ys : List Int, ys.length = tl xs xs.length ∧ ys = nrm xs ∧ RN w A ys.length ys := by
    have hle := tl_le xs xs.length
    have hl : (xs.take (tl xs xs.length)).length = tl xs xs.length := by rw [List.length_take]; omega
    refine ⟨xs.take (tl xs xs.length), hl, take_tl h.2, ?_, h.2.take _⟩
    rw [hl]
    exact h.1.take hle
  have H := Lib.hid HF
  clear HF
  obtain ⟨⟨h1, h2, h3⟩, -⟩ := h
  have H3 := Lib.hid h3
  clear h3
  go_enter Try.func89, Try.ntmps89
  go_wp2
  go_loop [3] (fun i => ∃ k : Nat, k ≤ xs.length ∧ i = .int .i64 k ∧ Hid (tl xs k = tl xs xs.length)) (fun i => (intOf i).toNat)
  case atStart => exact ⟨xs.length, Nat.le_refl _, rfl, rfl⟩
  case round =>
    obtain ⟨k, hk, rfl, HT⟩ := hrel
    by_cases h0 : k = 0
    · subst h0
      go_wp2
      go_ret
      obtain ⟨ys, e1, e2, e3⟩ := H.out
      have := HT.out
      rw [show tl xs 0 = 0 from rfl, ← e1] at this
      exact ⟨rfl, ys, ret_slice this this, e2, e3⟩
    · obtain ⟨j, rfl⟩ : ∃ j, k = j + 1 := ⟨k - 1, by omega⟩
      obtain ⟨ad, rfl, hc⟩ := H3.out j (by omega)
      clear h0
      by_cases hz : dg xs j = 0
      · have HT' : Hid (tl xs j = tl xs xs.length) := by have := HT.out; rwa [tl, if_pos hz] at this
        rw [hz] at hc
        clear hz
        go_wp2
        go_round
        case rel => exact ⟨j, by omega, rfl, HT'⟩
        case measure => simp [intOf]
      · have HT' : Hid (j + 1 = tl xs xs.length) := by have := HT.out; rwa [tl, if_neg hz] at this
        have hz' : (dg xs j == 0) = false := by simpa using hz
        clear hz
        go_wp2
        go_ret
        obtain ⟨ys, e1, e2, e3⟩ := H.out
        have := HT'.out
        rw [← e1] at this
        exact ⟨rfl, ys, ret_slice this this, e2, e3⟩

theorem V_two (a b : Int) : V [a, b] = a + 4294967296 * b := by rw [V_cons, V_cons, V_nil]; omega
theorem Lim_two {a b : Int} (h0 : 0 ≤ a) (h1 : a ≤ 4294967295) (h2 : 0 ≤ b) (h3 : b ≤ 4294967295) : Lim [a, b] := Lim.of_mem (by
  intro x hx
  simp at hx
  rcases hx with rfl | rfl <;> omega)
theorem mask32 (n : Int) (h0 : 0 ≤ n) (h1 : n ≤ 18446744073709551615) : Go.bits .and .u64 n 4294967295 % 4294967296 = n % 4294967296 := by
  have h := bits_mask .u64 64 (by decide) (fun m a b => IntWalk.u64_in m (by omega)) 32 (by decide) n h0 (by omega)
  have e : ((2 : Int) ^ 32 - 1) = 4294967295 := by decide
  have e2 : ((2 : Int) ^ 32) = 4294967296 := by decide
  rw [e, e2] at h
  rw [h]
  omega

set_option maxHeartbeats 400000 in
theorem of_ok (w : World) (n : Int) (h0 : 0 ≤ n) (h1 : n ≤ 18446744073709551615) :
    Calls Try.prog 65 #[.int .u64 n] w (RetN n.toNat w) := by
  have HM := Lib.hid (mask32 n h0 h1)
  go_enter Try.func65, Try.ntmps65
  go_wp2_with fail
  rw [HM.out]
  have hb : Below w.heap.size w (w.alloc (.cells #[.int .u32 (n % 4294967296), .int .u32 (n / 4294967296)] 95 (0, 0))) := (Below.refl _ w).alloc (Nat.le_refl _) _
  have hk : Bk (w.alloc (.cells #[.int .u32 (n % 4294967296), .int .u32 (n / 4294967296)] 95 (0, 0))) w.heap.size 95 .u32 [n % 4294967296, n / 4294967296] := Bk.lit (w := w) (e := 95) (k := .u32) [n % 4294967296, n / 4294967296]
  have hr := hk.reads (by simp)
  refine (trim_ok _ _ _ [n % 4294967296, n / 4294967296] ⟨hr, Lim_two (by omega) (by omega) (by omega) (by omega)⟩).mono ?_
  rintro e w1 ⟨rfl, ys, rfl, HY, hy⟩
  clear hr hk
  have HB := Lib.hid hb
  clear hb
  go_wp2
  go_ret
  refine ⟨_, _, ys, rfl, ?_, hy, HB.out⟩
  have := HY.out
  unfold nrm at this
  rw [V_two] at this
  show ys = limbs n.toNat
  rw [this]
  congr 2
  omega

theorem append_empty {P : Program} (t ty e : TypeId) (i : TypeInfo) (z : Value) (ht : P.underlying t = some (.slice e)) (hi : P.info? e = some i) (hz : i.zero = some z) (hsz : i.size = 1)
    (W : World) (g : Nat) (k : IntKind) (A : Option Addr) (c : Nat) (ys : List Int) (h : Rk W k A c ys) (hb : ys.length * i.bytes ≤ 281474976710656) :
    ∃ g' c' W', (Builtin.append_ #[t, t] ty #[.slice (some ⟨g, 0, none⟩) 0 0, .slice A ys.length c]).run P W = .ok (.slice (some ⟨g', 0, none⟩) ys.length c') W' ∧ (g' = g ∨ W.heap.size ≤ g') ∧ Rk W' k (some ⟨g', 0, none⟩) c' ys ∧ Below W.heap.size W W' := by
  obtain ⟨h1, h2, h3⟩ := h
  by_cases h0 : ys.length = 0
  · obtain rfl := List.length_eq_zero_iff.1 h0
    refine ⟨g, 0, W, ?_, .inl rfl, ⟨Nat.le_refl _, by omega, fun j hj => by simp at hj⟩, Below.refl _ _⟩
    cases A with
    | none => simp [Builtin.append_, run_underlying ht, sizeOf, typeInfo, hi, Builtin.lenOf, run_firstCells_none, storeCells]
    | some a =>
      have hf := run_firstCells_some (P := P) W 1 0 a 0 c [] rfl (by simp)
      simp [Builtin.append_, run_underlying ht, sizeOf, typeInfo, hi, Builtin.lenOf, hf, hsz, storeCells]
  · obtain ⟨ad, rfl, _⟩ := h3 0 (by omega)
    have hn : (ys.map (Value.int k)).length = ys.length * i.size := by simp [hsz]
    have hc : ∀ j v, (ys.map (Value.int k))[j]? = some v → W.cell? (ad.add j) = some v := by
      intro j v hv
      rw [List.getElem?_map] at hv
      obtain ⟨x, hx, rfl⟩ := Option.map_eq_some_iff.1 hv
      obtain ⟨hj, rfl⟩ := List.getElem?_eq_some_iff.1 hx
      obtain ⟨ad', e', hc'⟩ := h3 j hj
      cases e'
      rwa [dg_get hj] at hc'
    have hr := run_append_grow (P := P) W t ty e i z ht hi hz ⟨g, 0, none⟩ 0 0 [] (by simp) (by simp) ad ys.length c _ hn hc (by omega) (by omega) (by rw [Nat.zero_add, nextslicecap_zero (by omega)]; exact hb)
    rw [Nat.zero_add] at hr
    have hge := grownCap_ge W ys.length 0 e
    have hle := grownCap_le_maxLen W ys.length 0 e (by simp only [maxLen]; omega)
    simp only [maxLen] at hle
    refine ⟨_, _, _, hr, .inr (Nat.le_refl _), ⟨hge, hle, fun j hj => ⟨_, rfl, ?_⟩⟩, (below_drewN (Below.refl _ _) 1).alloc (Nat.le_refl _) _⟩
    rw [add_at]
    simp only [World.cell?]
    rw [show W.heap.size = W.drew.heap.size from rfl, heap_new]
    have hsz2 : j < (List.map (Value.int k) ys).toArray.size := by simpa using hj
    simp [hj, dg_get hj, Array.getElem?_append]

theorem info_u32 : (Try.prog.info? 95).map (fun i => (i.zero, i.size, i.bytes)) = some (some (.int .u32 0), 1, 4) := by kernel_rfl

set_option maxHeartbeats 400000 in
theorem norm_f (w : World) (A : Option Addr) (c : Nat) (xs : List Int) (h : RN w A c xs) (hs : xs.length ≤ 70368744177664) :
    Calls Try.prog 93 #[.slice A xs.length c] w (RetF (V xs).toNat w) := by
  obtain ⟨i0, hi, hz0, hz1, hz2⟩ := info_parts info_u32
  have HH := Lib.hid h.2
  go_enter Try.func93, Try.ntmps93
  go_wp2_with fail
  have hb : Below w.heap.size w (w.alloc (.cells #[] 95 (0, 0))) := (Below.refl _ w).alloc (Nat.le_refl _) _
  refine (trim_ok _ A c xs (h.below hb)).mono ?_
  rintro e w1 ⟨rfl, ys, rfl, HY, hy⟩
  have hl := nrm_len h.2
  rw [← HY.out] at hl
  obtain ⟨g', c', W', hr, hg', hR, hB⟩ := append_empty 29 29 95 i0 _ Try.underlying29 hi hz0 hz1 _ w.heap.size .u32 A ys.length ys hy.1 (by rw [hz2]; omega)
  have HB := Lib.hid (hb.trans (hB.mono (by simp)))
  have HL := Lib.hid hy.2
  have hgg : w.heap.size ≤ g' := by
    rcases hg' with h | h
    · omega
    · simp at h; omega
  clear hg'
  clear h hb hl hy hB
  go_wp2_with (at_builtin; refine wpList_append_run rfl _ _ _ rfl _ _ _ rfl rfl hr ?_; clear hr)
  go_ret
  exact ⟨g', c', ys, hgg, rfl, HY, ⟨hR, HL.out⟩, HB.out⟩

theorem norm_ok (w : World) (A : Option Addr) (c : Nat) (xs : List Int) (h : RN w A c xs) (hs : xs.length ≤ 70368744177664) :
    Calls Try.prog 93 #[.slice A xs.length c] w (RetN (V xs).toNat w) := (norm_f w A c xs h hs).mono fun _ _ h => h.n

end Go.Proofs.Ytgdlnmhpnlmofaa.M
