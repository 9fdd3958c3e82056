/- The program's numbers: trim, Of, Norm: what each call comes to. Comparing two numbers of the program. The product of two numbers of the program. The sum of two numbers of the program. The difference of two numbers of the program. -/
import Derived.Test.YtocpncjmcaecoaaGreatProg
import Derived.Test.YtocpncjmcaecoaaGreatMem
import Derived.Deep.DeepCutAuto
import Derived.Laws.AppendOwn
namespace Go.Proofs.YtocpncjmcaecoaaGreat.M
set_option maxRecDepth 10000
open Go.RowKit

/-- What a call comes to that makes a number: its normal form, in memory of its own or of an argument; nothing that was there has changed. -/
def RetN (N : Nat) (w : World) (e : Ending) (w' : World) : Prop := ∃ A c xs, e = .returned (.slice A xs.length c) ∧ Hid (xs = limbs N) ∧ RN w' A c xs ∧ Below w.heap.size w w'
/-- A number in memory that is new. -/
def RetF (N : Nat) (w : World) (e : Ending) (w' : World) : Prop := ∃ g c xs, w.heap.size ≤ g ∧ e = .returned (.slice (some ⟨g, 0, none⟩) xs.length c) ∧ Hid (xs = limbs N) ∧ RN w' (some ⟨g, 0, none⟩) c xs ∧ Below w.heap.size w w'
theorem RetF.n {N : Nat} {w : World} {e : Ending} {w' : World} (h : RetF N w e w') : RetN N w e w' := by
  obtain ⟨g, c, xs, _, h1, h2, h3, h4⟩ := h
  exact ⟨_, c, xs, h1, h2, h3, h4⟩
theorem ret_slice {A : Option Addr} {n m c c' : Nat} (h : n = m) (h' : c = c') : Ending.returned (.slice A n c) = .returned (.slice A m c') := by rw [h, h']

theorem wpList_append_run {P : Program} {w w' : World} {ops : Array Oper} {rest : List Oper} {o : Oper} {a : Act} {Q : Exit → Act → World → Prop} (hgd : o.guard = none) (s x : Operand) (t : TypeId)
    (ho : o.op = .call { callee := .builtin .append, args := #[s, x], argTypes := #[t, t] })
    (v u v' : Value) (hs : a.eval s = v) (hx : a.eval x = u) (hr : (Builtin.append_ #[t, t] o.type #[v, u]).run P w = .ok v' w')
    (h : wpList P ops Q rest (a.put o.dst v') w') : wpList P ops Q (o :: rest) a w :=
  wpList_plain hgd fun _ hK => by
    unfold Oper.wp execOp
    simp only [ho, resolve, invoke, builtin, Sem.run_bind, Sem.run_pure, Result.andThen_ok, List.map_toArray, List.map_cons, List.map_nil, hs, hx, hr]
    exact hK _ _ h

set_option maxHeartbeats 400000 in
theorem trim_ok (w : World) (A : Option Addr) (c : Nat) (xs : List Int) (h : RN w A c xs) :
    Calls Tryz.prog 89 #[.slice A xs.length c] w fun e w' => w = w' ∧ ∃ ys, e = .returned (.slice A ys.length ys.length) ∧ Hid (ys = nrm xs) ∧ RN w A ys.length ys := by
  have HF : ∃ ys : List Int, ys.length = tl xs xs.length ∧ ys = nrm xs ∧ RN w A ys.length ys := by
    have hle := tl_le xs xs.length
    have hl : (xs.take (tl xs xs.length)).length = tl xs xs.length := by rw [List.length_take]; omega
    refine ⟨xs.take (tl xs xs.length), hl, take_tl h.2, ?_, h.2.take _⟩
    rw [hl]
    exact h.1.take hle
  have H := Lib.hid HF
  clear HF
  obtain ⟨⟨h1, h2, h3⟩, -⟩ := h
  have H3 := Lib.hid h3
  clear h3
  go_enter Tryz.func89, Tryz.ntmps89
  go_wp2
  go_loop [3] (fun i => ∃ k : Nat, k ≤ xs.length ∧ i = .int .i64 k ∧ Hid (tl xs k = tl xs xs.length)) (fun i => (intOf i).toNat)
  case atStart => exact ⟨xs.length, Nat.le_refl _, rfl, rfl⟩
  case round =>
    obtain ⟨k, hk, rfl, HT⟩ := hrel
    by_cases h0 : k = 0
    · subst h0
      go_wp2
      go_ret
      obtain ⟨ys, e1, e2, e3⟩ := H.out
      have := HT.out
      rw [show tl xs 0 = 0 from rfl, ← e1] at this
      exact ⟨rfl, ys, ret_slice this this, e2, e3⟩
    · obtain ⟨j, rfl⟩ : ∃ j, k = j + 1 := ⟨k - 1, by omega⟩
      obtain ⟨ad, rfl, hc⟩ := H3.out j (by omega)
      clear h0
      by_cases hz : dg xs j = 0
      · have HT' : Hid (tl xs j = tl xs xs.length) := by have := HT.out; rwa [tl, if_pos hz] at this
        rw [hz] at hc
        clear hz
        go_wp2
        go_round
        case rel => exact ⟨j, by omega, rfl, HT'⟩
        case measure => simp [intOf]
      · have HT' : Hid (j + 1 = tl xs xs.length) := by have := HT.out; rwa [tl, if_neg hz] at this
        have hz' : (dg xs j == 0) = false := by simpa using hz
        clear hz
        go_wp2
        go_ret
        obtain ⟨ys, e1, e2, e3⟩ := H.out
        have := HT'.out
        rw [← e1] at this
        exact ⟨rfl, ys, ret_slice this this, e2, e3⟩

theorem V_two (a b : Int) : V [a, b] = a + 4294967296 * b := by rw [V_cons, V_cons, V_nil]; omega
theorem Lim_two {a b : Int} (h0 : 0 ≤ a) (h1 : a ≤ 4294967295) (h2 : 0 ≤ b) (h3 : b ≤ 4294967295) : Lim [a, b] := Lim.of_mem (by
  intro x hx
  simp at hx
  rcases hx with rfl | rfl <;> omega)
theorem mask32 (n : Int) (h0 : 0 ≤ n) (h1 : n ≤ 18446744073709551615) : Go.bits .and .u64 n 4294967295 % 4294967296 = n % 4294967296 := by
  have h := bits_mask .u64 64 (by decide) (fun m a b => IntWalk.u64_in m (by omega)) 32 (by decide) n h0 (by omega)
  have e : ((2 : Int) ^ 32 - 1) = 4294967295 := by decide
  have e2 : ((2 : Int) ^ 32) = 4294967296 := by decide
  rw [e, e2] at h
  rw [h]
  omega

set_option maxHeartbeats 400000 in
theorem of_ok (w : World) (n : Int) (h0 : 0 ≤ n) (h1 : n ≤ 18446744073709551615) :
    Calls Tryz.prog 82 #[.int .u64 n] w (RetN n.toNat w) := by
  have HM := Lib.hid (mask32 n h0 h1)
  go_enter Tryz.func82, Tryz.ntmps82
  go_wp2_with fail
  rw [HM.out]
  have hb : Below w.heap.size w (w.alloc (.cells #[.int .u32 (n % 4294967296), .int .u32 (n / 4294967296)] 83 (0, 0))) := (Below.refl _ w).alloc (Nat.le_refl _) _
  have hk : Bk (w.alloc (.cells #[.int .u32 (n % 4294967296), .int .u32 (n / 4294967296)] 83 (0, 0))) w.heap.size 83 .u32 [n % 4294967296, n / 4294967296] := Bk.lit (w := w) (e := 83) (k := .u32) [n % 4294967296, n / 4294967296]
  have hr := hk.reads (by simp)
  refine (trim_ok _ _ _ [n % 4294967296, n / 4294967296] ⟨hr, Lim_two (by omega) (by omega) (by omega) (by omega)⟩).mono ?_
  rintro e w1 ⟨rfl, ys, rfl, HY, hy⟩
  clear hr hk
  have HB := Lib.hid hb
  clear hb
  go_wp2
  go_ret
  refine ⟨_, _, ys, rfl, ?_, hy, HB.out⟩
  have := HY.out
  unfold nrm at this
  rw [V_two] at this
  show ys = limbs n.toNat
  rw [this]
  congr 2
  omega

theorem append_empty {P : Program} (t ty e : TypeId) (i : TypeInfo) (z : Value) (ht : P.underlying t = some (.slice e)) (hi : P.info? e = some i) (hz : i.zero = some z) (hsz : i.size = 1)
    (W : World) (g : Nat) (k : IntKind) (A : Option Addr) (c : Nat) (ys : List Int) (h : Rk W k A c ys) (hb : ys.length * i.bytes ≤ 281474976710656) :
    ∃ g' c' W', (Builtin.append_ #[t, t] ty #[.slice (some ⟨g, 0, none⟩) 0 0, .slice A ys.length c]).run P W = .ok (.slice (some ⟨g', 0, none⟩) ys.length c') W' ∧ (g' = g ∨ W.heap.size ≤ g') ∧ Rk W' k (some ⟨g', 0, none⟩) c' ys ∧ Below W.heap.size W W' := by
  obtain ⟨h1, h2, h3⟩ := h
  by_cases h0 : ys.length = 0
  · obtain rfl := List.length_eq_zero_iff.1 h0
    refine ⟨g, 0, W, ?_, .inl rfl, ⟨Nat.le_refl _, by omega, fun j hj => by simp at hj⟩, Below.refl _ _⟩
    cases A with
    | none => simp [Builtin.append_, run_underlying ht, sizeOf, typeInfo, hi, Builtin.lenOf, run_firstCells_none, storeCells]
    | some a =>
      have hf := run_firstCells_some (P := P) W 1 0 a 0 c [] rfl (by simp)
      simp [Builtin.append_, run_underlying ht, sizeOf, typeInfo, hi, Builtin.lenOf, hf, hsz, storeCells]
  · obtain ⟨ad, rfl, _⟩ := h3 0 (by omega)
    have hn : (ys.map (Value.int k)).length = ys.length * i.size := by simp [hsz]
    have hc : ∀ j v, (ys.map (Value.int k))[j]? = some v → W.cell? (ad.add j) = some v := by
      intro j v hv
      rw [List.getElem?_map] at hv
      obtain ⟨x, hx, rfl⟩ := Option.map_eq_some_iff.1 hv
      obtain ⟨hj, rfl⟩ := List.getElem?_eq_some_iff.1 hx
      obtain ⟨ad', e', hc'⟩ := h3 j hj
      cases e'
      rwa [dg_get hj] at hc'
    have hr := run_append_grow (P := P) W t ty e i z ht hi hz ⟨g, 0, none⟩ 0 0 [] (by simp) (by simp) ad ys.length c _ hn hc (by omega) (by omega) (by rw [Nat.zero_add, nextslicecap_zero (by omega)]; exact hb)
    rw [Nat.zero_add] at hr
    have hge := grownCap_ge W ys.length 0 e
    have hle := grownCap_le_maxLen W ys.length 0 e (by simp only [maxLen]; omega)
    simp only [maxLen] at hle
    refine ⟨_, _, _, hr, .inr (Nat.le_refl _), ⟨hge, hle, fun j hj => ⟨_, rfl, ?_⟩⟩, (below_drewN (Below.refl _ _) 1).alloc (Nat.le_refl _) _⟩
    rw [add_at]
    simp only [World.cell?]
    rw [show W.heap.size = W.drew.heap.size from rfl, heap_new]
    have hsz2 : j < (List.map (Value.int k) ys).toArray.size := by simpa using hj
    simp [hj, dg_get hj, Array.getElem?_append]

theorem info_u32 : (Tryz.prog.info? 83).map (fun i => (i.zero, i.size, i.bytes)) = some (some (.int .u32 0), 1, 4) := by kernel_rfl

set_option maxHeartbeats 400000 in
theorem norm_f (w : World) (A : Option Addr) (c : Nat) (xs : List Int) (h : RN w A c xs) (hs : xs.length ≤ 70368744177664) :
    Calls Tryz.prog 112 #[.slice A xs.length c] w (RetF (V xs).toNat w) := by
  obtain ⟨i0, hi, hz0, hz1, hz2⟩ := info_parts info_u32
  have HH := Lib.hid h.2
  go_enter Tryz.func112, Tryz.ntmps112
  go_wp2_with fail
  have hb : Below w.heap.size w (w.alloc (.cells #[] 83 (0, 0))) := (Below.refl _ w).alloc (Nat.le_refl _) _
  refine (trim_ok _ A c xs (h.below hb)).mono ?_
  rintro e w1 ⟨rfl, ys, rfl, HY, hy⟩
  have hl := nrm_len h.2
  rw [← HY.out] at hl
  obtain ⟨g', c', W', hr, hg', hR, hB⟩ := append_empty 24 24 83 i0 _ Tryz.underlying24 hi hz0 hz1 _ w.heap.size .u32 A ys.length ys hy.1 (by rw [hz2]; omega)
  have HB := Lib.hid (hb.trans (hB.mono (by simp)))
  have HL := Lib.hid hy.2
  have hgg : w.heap.size ≤ g' := by
    rcases hg' with h | h
    · omega
    · simp at h; omega
  clear hg'
  clear h hb hl hy hB
  go_wp2_with (at_builtin; refine wpList_append_run rfl _ _ _ rfl _ _ _ rfl rfl hr ?_; clear hr)
  go_ret
  exact ⟨g', c', ys, hgg, rfl, HY, ⟨hR, HL.out⟩, HB.out⟩

theorem norm_ok (w : World) (A : Option Addr) (c : Nat) (xs : List Int) (h : RN w A c xs) (hs : xs.length ≤ 70368744177664) :
    Calls Tryz.prog 112 #[.slice A xs.length c] w (RetN (V xs).toNat w) := (norm_f w A c xs h hs).mono fun _ _ h => h.n

end Go.Proofs.YtocpncjmcaecoaaGreat.M
namespace Go.Proofs.YtocpncjmcaecoaaGreat.M
set_option maxRecDepth 10000
open Go.RowKit

/-- What a call comes to that only reads and tells a whole number. -/
def RetI (v : Int) (w : World) (e : Ending) (w' : World) : Prop := ∃ n, w' = w.drewN n ∧ e = .returned (.int .i64 v)

theorem lt_at {x y : List Int} {j : Nat} (he : x.length = y.length) (hx : Lim x) (hy : Lim y) (hj : j + 1 ≤ x.length) (hd : ∀ i, j + 1 ≤ i → i < x.length → dg x i = dg y i) (h : dg x j < dg y j) : V x < V y := by
  unfold V
  rw [← he]
  exact S_lt hx hy (i := j) (by omega) (fun i h1 h2 => hd i (by omega) h2) h

set_option maxHeartbeats 400000 in
theorem cmp_ok (w : World) (A B : Option Addr) (c d : Nat) (xs ys : List Int) (hx : RN w A c xs) (hy : RN w B d ys) :
    Calls Tryz.prog 90 #[.slice A xs.length c, .slice B ys.length d] w (RetI (cmpI (V xs) (V ys)) w) := by
  have HVx := Lib.hid (V_nrm hx.2)
  have HVy := Lib.hid (V_nrm hy.2)
  go_enter Tryz.func90, Tryz.ntmps90
  go_wp2_with fail
  refine (trim_ok _ A c xs hx).mono ?_
  rintro e w1 ⟨rfl, x, rfl, HX, hx'⟩
  go_wp2_with fail
  refine (trim_ok _ B d ys hy).mono ?_
  rintro e w1 ⟨rfl, y, rfl, HY, hy'⟩
  have NX : Nf x := by rw [HX.out]; exact nrm_nf _
  have NY : Nf y := by rw [HY.out]; exact nrm_nf _
  have EX : Hid (V xs = V x) := by show V xs = V x; rw [HX.out]; exact HVx.out.symm
  have EY : Hid (V ys = V y) := by show V ys = V y; rw [HY.out]; exact HVy.out.symm
  clear HX HY HVx HVy hx hy
  obtain ⟨⟨hx1, hx2, hx3⟩, hx4⟩ := hx'
  obtain ⟨⟨hy1, hy2, hy3⟩, hy4⟩ := hy'
  have HX3 := Lib.hid hx3
  have HY3 := Lib.hid hy3
  have HNX := Lib.hid NX
  have HNY := Lib.hid NY
  clear hx3 hy3 NX NY hx4 hy4
  rcases Nat.lt_trichotomy x.length y.length with hlt | heq | hgt
  · have hb : (x.length == y.length) = false := beq_eq_false_iff_ne.2 (by omega)
    go_wp2_with fail
    go_ret
    exact ⟨0, rfl, by rw [EX.out, EY.out, cmpI_lt (HNX.out.lt_of_len HNY.out (by omega))]; rfl⟩
  · have hb : (x.length == y.length) = true := beq_iff_eq.2 heq
    have HE := Lib.hid heq
    clear heq
    go_wp2_with fail
    go_loopw [7] (fun i wr => ∃ k : Nat, k ≤ x.length ∧ i = .int .i64 ((k : Int) - 1) ∧ Hid (∀ j, k ≤ j → j < x.length → dg x j = dg y j) ∧ ∃ n, wr = w.drewN n) (fun i _ => (intOf i + 1).toNat)
    case atStart => exact ⟨x.length, Nat.le_refl _, rfl, fun j h1 h2 => by omega, 0, rfl⟩
    case round =>
      obtain ⟨k, hk, rfl, HD, n, rfl⟩ := hrel
      by_cases h0 : k = 0
      · subst h0
        go_wp2
        go_ret
        refine ⟨n, rfl, ?_⟩
        rw [EX.out, EY.out, cmpI_eq]
        · rfl
        · unfold V
          rw [← HE.out]
          exact S_congr (fun j hj => HD.out j (by omega) hj)
      · obtain ⟨j, rfl⟩ : ∃ j, k = j + 1 := ⟨k - 1, by omega⟩
        have hjy : j < y.length := by have := HE.out; omega
        obtain ⟨ad, rfl, hcx⟩ := HX3.out j (by omega)
        obtain ⟨bd, rfl, hcy⟩ := HY3.out j hjy
        clear h0
        have ej : ((j + 1 : Nat) : Int) - 1 = (j : Int) := by omega
        rw [ej]
        clear ej
        rcases Int.lt_trichotomy (dg x j) (dg y j) with hlt | heq | hgt
        · have hd : decide (dg x j < dg y j) = true := decide_eq_true hlt
          have HLT := Lib.hid hlt
          clear hlt
          go_wp2
          go_quiet (fail)
          go_wp2
          go_ret
          refine ⟨_, (by simp only [World.drewN_drewN]; rfl), ?_⟩
          rw [EX.out, EY.out, cmpI_lt (lt_at HE.out HNX.out.lim HNY.out.lim hk HD.out HLT.out)]
          rfl
        · have hd : decide (dg x j < dg y j) = false := decide_eq_false (by omega)
          have hd2 : decide (dg y j < dg x j) = false := decide_eq_false (by omega)
          have HLT := Lib.hid heq
          clear heq
          go_wp2
          go_quiet (fail)
          go_wp2
          go_quiet (fail)
          go_wp2
          go_roundw
          case rel =>
            refine ⟨j, by omega, rfl, fun i h1 h2 => ?_, ?_⟩
            · by_cases e : i = j
              · subst e; exact HLT.out
              · exact HD.out i (by omega) h2
            · first | exact ⟨_, rfl⟩ | exact ⟨_, (by simp only [World.drewN_drewN]; rfl)⟩
          case measure => simp [intOf]
        · have hd : decide (dg x j < dg y j) = false := decide_eq_false (by omega)
          have hd2 : decide (dg y j < dg x j) = true := decide_eq_true (by omega)
          have HLT := Lib.hid hgt
          clear hgt
          go_wp2
          go_quiet (fail)
          go_wp2
          go_quiet (fail)
          go_wp2
          go_ret
          refine ⟨_, (by simp only [World.drewN_drewN]; rfl), ?_⟩
          rw [EX.out, EY.out, cmpI_gt (lt_at HE.out.symm HNY.out.lim HNX.out.lim (by have := HE.out; omega) (fun i h1 h2 => (HD.out i h1 (by have := HE.out; omega)).symm) HLT.out)]
          rfl
  · have hb : (x.length == y.length) = false := beq_eq_false_iff_ne.2 (by omega)
    have hb2 : decide (x.length < y.length) = false := decide_eq_false (by omega)
    go_wp2_with fail
    go_ret
    exact ⟨0, rfl, by rw [EX.out, EY.out, cmpI_gt (HNY.out.lt_of_len HNX.out (by omega))]; rfl⟩

end Go.Proofs.YtocpncjmcaecoaaGreat.M
namespace Go.Proofs.YtocpncjmcaecoaaGreat.M
set_option maxRecDepth 10000
open Go.RowKit

theorem mask32' (n : Int) (h0 : 0 ≤ n) (h1 : n ≤ 18446744073709551615) : Go.bits .and .u64 n 4294967295 = n % 4294967296 := by
  have h := bits_mask .u64 64 (by decide) (fun m a b => IntWalk.u64_in m (by omega)) 32 (by decide) n h0 (by omega)
  have e : ((2 : Int) ^ 32 - 1) = 4294967295 := by decide
  have e2 : ((2 : Int) ^ 32) = 4294967296 := by decide
  rw [e, e2] at h
  exact h

theorem mk_make (t e : TypeId) (i : TypeInfo) (k : IntKind) (ht : Tryz.prog.underlying t = some (.slice e)) (hi : Tryz.prog.info? e = some i) (hz : i.zero = some (.int k 0)) (hsz : i.size = 1)
    (l : Int) (h0 : 0 ≤ l) (hb : (i.bytes : Int) * l ≤ 281474976710656) (h63 : l ≤ 9223372036854775807) :
    ∀ W : World, (Instr.makeSlice t (.int .i64 l) (.int .i64 l)).run Tryz.prog W = .ok (.slice (some ⟨W.heap.size, 0, none⟩) l.toNat l.toNat) (W.alloc (.cells (madeCells #[.int k 0] l.toNat) e)) := by
  intro W
  have h := run_make (P := Tryz.prog) W t e i _ ht hi hz .i64 .i64 l l h0 (Int.le_refl _) hb h63
  rw [hsz, Nat.mul_one] at h
  exact h

/-- The product so far: k digits of x have been taken. -/
def MulI (x y p : List Int) (k : Nat) : Prop := Lim p ∧ (∀ j, k + y.length ≤ j → dg p j = 0) ∧ V p = S (dg x) k * V y
theorem mul_start (x y : List Int) : MulI x y (List.replicate (x.length + y.length) 0) 0 := ⟨Lim.replicate _, fun j _ => dg_replicate _ j, by rw [V_replicate, S_zero, Int.zero_mul]⟩
/-- Inside: m digits of y have been taken for x's digit k. -/
def MulJ (x y p : List Int) (k m : Nat) (c : Int) : Prop := Lim p ∧ (∀ j, k + y.length ≤ j → dg p j = 0) ∧ 0 ≤ c ∧ c ≤ 4294967295 ∧ V p + c * pw (k + m) = S (dg x) k * V y + dg x k * (pw k * S (dg y) m)
theorem mul_in {x y p : List Int} {k : Nat} (h : MulI x y p k) : MulJ x y p k 0 0 := ⟨h.1, h.2.1, by omega, by omega, by rw [h.2.2, S_zero]; simp⟩
theorem mul_bound {a b : Int} (ha : 0 ≤ a ∧ a ≤ 4294967295) (hb : 0 ≤ b ∧ b ≤ 4294967295) : 0 ≤ a * b ∧ a * b ≤ 18446744065119617025 := by
  have h1 := Int.mul_nonneg ha.1 hb.1
  have h2 : a * b ≤ 4294967295 * 4294967295 := Int.mul_le_mul ha.2 hb.2 hb.1 (by omega)
  omega
theorem mul_round {x y p : List Int} {k m : Nat} {c : Int} (h : MulJ x y p k m c) (hx : Lim x) (hy : Lim y) (hm : m < y.length) (hp : p.length = x.length + y.length) (hk : k < x.length) :
    MulJ x y (p.set (k + m) ((c + (dg x k * dg y m + dg p (k + m))) % 4294967296)) k (m + 1) ((c + (dg x k * dg y m + dg p (k + m))) / 4294967296) := by
  obtain ⟨h1, h2, h3, h4, h5⟩ := h
  have hb := mul_bound (hx k) (hy m)
  have hq := h1 (k + m)
  generalize ht : c + (dg x k * dg y m + dg p (k + m)) = t
  refine ⟨h1.set _ (by omega) (by omega), fun j hj => ?_, by omega, by omega, ?_⟩
  · rw [dg_set, if_neg (fun h => by have := h.1; omega)]; exact h2 j hj
  · rw [V_set (by omega), S_succ, show k + (m + 1) = (k + m) + 1 from by omega, pw_succ, Int.mul_add, Int.mul_add, ← Int.add_assoc, ← h5, pw_add]
    have e : t = t / 4294967296 * 4294967296 + t % 4294967296 := by omega
    have e2 : (t % 4294967296 - dg p (k + m)) * (pw k * pw m) + t / 4294967296 * (4294967296 * (pw k * pw m)) = (c + dg x k * dg y m) * (pw k * pw m) := by
      rw [← Int.mul_assoc (t / 4294967296), ← Int.add_mul]
      congr 1
      omega
    have e3 : dg x k * (pw k * (dg y m * pw m)) = dg x k * dg y m * (pw k * pw m) := by
      rw [Int.mul_left_comm (pw k), ← Int.mul_assoc]
    rw [e3]
    rw [Int.add_mul] at e2
    omega
theorem mul_out {x y p : List Int} {k : Nat} {c : Int} (h : MulJ x y p k y.length c) (hp : p.length = x.length + y.length) (hk : k < x.length) : MulI x y (p.set (k + y.length) c) (k + 1) := by
  obtain ⟨h1, h2, h3, h4, h5⟩ := h
  refine ⟨h1.set _ h3 h4, fun j hj => ?_, ?_⟩
  · rw [dg_set, if_neg (fun h => by have := h.1; omega)]; exact h2 j (by omega)
  · rw [V_set (by omega), h2 _ (Nat.le_refl _), Int.sub_zero, h5, S_succ, Int.add_mul, Int.mul_assoc]
    rfl

set_option maxHeartbeats 400000 in
theorem mul_ok (w : World) (A B : Option Addr) (c d : Nat) (xs ys : List Int) (hx : RN w A c xs) (hy : RN w B d ys) (hs : xs.length + ys.length ≤ 70368744177664) :
    Calls Tryz.prog 54 #[.slice A xs.length c, .slice B ys.length d] w (RetN ((V xs).toNat * (V ys).toNat) w) := by
  have HVx := Lib.hid (V_nrm hx.2)
  have HVy := Lib.hid (V_nrm hy.2)
  have hlx := nrm_len hx.2
  have hly := nrm_len hy.2
  obtain ⟨i0, hi, hz0, hz1, hz2⟩ := info_parts info_u32
  go_enter Tryz.func54, Tryz.ntmps54
  go_wp2_with fail
  refine (trim_ok _ A c xs hx).mono ?_
  rintro e w1 ⟨rfl, x, rfl, HX, hx'⟩
  go_wp2_with fail
  refine (trim_ok _ B d ys hy).mono ?_
  rintro e w1 ⟨rfl, y, rfl, HY, hy'⟩
  rw [← HX.out] at hlx
  rw [← HY.out] at hly
  have EX : Hid (V xs = V x) := by show V xs = V x; rw [HX.out]; exact HVx.out.symm
  have EY : Hid (V ys = V y) := by show V ys = V y; rw [HY.out]; exact HVy.out.symm
  clear HX HY HVx HVy hx hy
  have RX := Lib.hid hx'
  have RY := Lib.hid hy'
  clear hx' hy'
  have hmk := mk_make 24 83 i0 .u32 Tryz.underlying24 hi hz0 hz1 ((x.length : Int) + (y.length : Int)) (by omega) (by rw [hz2]; omega) (by omega)
  rw [show ((x.length : Int) + (y.length : Int)).toNat = x.length + y.length from by omega] at hmk
  by_cases hx0 : x.length = 0
  · have hb : ((x.length : Int) == 0) = true := beq_iff_eq.2 (by omega)
    have Hx0 := Lib.hid hx0
    clear hx0
    go_wp2_with fail
    go_ret
    obtain rfl := List.length_eq_zero_iff.1 Hx0.out
    exact ⟨none, 0, [], rfl, by rw [EX.out, V_nil]; simp [Hid, limbs_zero], RN.nil _, Below.refl _ _⟩
  · have hb : ((x.length : Int) == 0) = false := beq_eq_false_iff_ne.2 (by omega)
    by_cases hy0 : y.length = 0
    · have hb2 : ((y.length : Int) == 0) = true := beq_iff_eq.2 (by omega)
      have Hy0 := Lib.hid hy0
      clear hy0 hx0
      go_wp2_with fail
      go_ret
      obtain rfl := List.length_eq_zero_iff.1 Hy0.out
      exact ⟨none, 0, [], rfl, by rw [EY.out, V_nil]; simp [Hid, limbs_zero], RN.nil _, Below.refl _ _⟩
    · have hb2 : ((y.length : Int) == 0) = false := beq_eq_false_iff_ne.2 (by omega)
      clear hx0 hy0
      go_wp2_with fail
      clear hmk
      go_loopw [33] (fun i wr => ∃ (k : Nat) (p : List Int), k ≤ x.length ∧ i = .int .i64 (k : Int) ∧ Hid (p.length = x.length + y.length) ∧ Hid (MulI x y p k) ∧ Bk wr w.heap.size 83 .u32 p ∧ Hid (Below w.heap.size w wr)) (fun i _ => x.length - (intOf i).toNat)
      case atStart => exact ⟨0, List.replicate (x.length + y.length) 0, Nat.zero_le _, rfl, by simp [Hid], mul_start x y, Bk.made _, (Below.refl _ w).alloc (Nat.le_refl _) _⟩
      case round =>
        obtain ⟨k, p, hk, rfl, HL, HI, HB, HW⟩ := hrel
        obtain ⟨wo, rfl⟩ : ∃ wo : World, wo = wr := ⟨_, rfl⟩
        by_cases hlt : k < x.length
        · obtain ⟨ad, rfl, hcx⟩ := ((RX.out).below HW.out).1.2.2 k hlt
          have bx := (RX.out).2 k
          go_wp2
          go_loopw [10, 40] (fun cv mv wr2 => ∃ (m : Nat) (q : Int) (p2 : List Int), m ≤ y.length ∧ mv = .int .i64 (m : Int) ∧ cv = .int .u64 q ∧ 0 ≤ q ∧ q ≤ 4294967295 ∧ Hid (p2.length = x.length + y.length) ∧ Hid (MulJ x y p2 k m q) ∧ Bk wr2 w.heap.size 83 .u32 p2 ∧ Hid (Below w.heap.size w wr2)) (fun _ mv _ => y.length - (intOf mv).toNat)
          case atStart => exact ⟨0, 0, p, Nat.zero_le _, rfl, rfl, Int.le_refl _, by omega, HL, mul_in HI.out, HB, HW⟩
          case round =>
            obtain ⟨m, q, p2, hm, rfl, rfl, hq0, hq1, HL2, HI2, HB2, HW2⟩ := hrel
            by_cases hlt2 : m < y.length
            · obtain ⟨bd, rfl, hcy⟩ := ((RY.out).below HW2.out).1.2.2 m hlt2
              have by' := (RY.out).2 m
              have bp := (HI2.out).1 (k + m)
              have bxy := mul_bound bx by'
              obtain ⟨hcp, hfp⟩ := HB2.cell (j := k + m) (by have := HL2.out; omega)
              have HS := Lib.hid (mul_round HI2.out RX.out.2 RY.out.2 hlt2 HL2.out hlt)
              go_wp2
              go_roundw
              case measure => simp [intOf]; omega
              case rel =>
                rw [mask32 _ (by omega) (by omega)]
                exact ⟨m + 1, _, p2.set (k + m) ((q + (dg x k * dg y m + dg p2 (k + m))) % 4294967296), by omega, by go_num, rfl, by omega, by omega, by show _ = _; rw [List.length_set]; exact HL2.out, HS, HB2.set _ _, below_set HW2.out (Nat.le_refl _) _⟩
            · obtain rfl : m = y.length := by omega
              obtain ⟨hcp, hfp⟩ := HB2.cell (j := k + y.length) (by have := HL2.out; omega)
              have HS := Lib.hid (mul_out HI2.out HL2.out hlt)
              go_wp2
              go_roundw
              case measure => simp [intOf]; omega
              case rel => exact ⟨k + 1, p2.set (k + y.length) q, by omega, by go_num, by show _ = _; rw [List.length_set]; exact HL2.out, HS, HB2.set _ _, below_set HW2.out (Nat.le_refl _) _⟩
        · obtain rfl : k = x.length := by omega
          have hR := HB.reads (by have := HL.out; omega)
          go_wp2_with fail
          rw [← HL.out]
          refine (trim_ok _ _ _ p ⟨hR, HI.out.1⟩).mono ?_
          rintro e w1 ⟨rfl, z, rfl, HZ, hz⟩
          go_wp2
          go_ret
          refine ⟨_, _, z, rfl, ?_, hz, HW.out⟩
          rw [HZ.out]
          unfold nrm
          rw [HI.out.2.2, EX.out, EY.out]
          show limbs (V x * V y).toNat = _
          have h1 := V_nonneg RX.out.2
          have h2 := V_nonneg RY.out.2
          congr 1
          rw [Int.toNat_mul h1 h2]

end Go.Proofs.YtocpncjmcaecoaaGreat.M
namespace Go.Proofs.YtocpncjmcaecoaaGreat.M
set_option maxRecDepth 10000
open Go.RowKit
set_option linter.unusedVariables false

theorem Nf.of_ge {s : List Int} (h : Lim s) (hv : 0 < s.length → pw (s.length - 1) ≤ V s) : Nf s := by
  refine ⟨h, fun h0 e => ?_⟩
  have h1 := hv h0
  unfold V at h1
  rw [show s.length = (s.length - 1) + 1 from by omega, S_succ, e, Int.zero_mul, Int.add_zero] at h1
  have h2 := (S_bound (f := dg s) (k := s.length - 1) (fun j _ => h j)).2
  simp only [Nat.add_sub_cancel] at h1
  omega

/-- The sum so far. -/
def AddI (x y s : List Int) (k : Nat) (q : Int) : Prop := Lim s ∧ s.length = k ∧ V s + q * pw k = S (dg x) k + S (dg y) k
theorem add_start (x y : List Int) : AddI x y [] 0 0 := ⟨Lim.nil, rfl, by simp [V_nil, S_zero]⟩
theorem add_round {x y s : List Int} {k : Nat} {q t : Int} (h : AddI x y s k q) (ht : q + dg x k + dg y k = t) (h0 : 0 ≤ t) : AddI x y (s ++ [t % 4294967296]) (k + 1) (t / 4294967296) := by
  obtain ⟨h1, h2, h3⟩ := h
  refine ⟨h1.snoc (by omega) (by omega), by simp [h2], ?_⟩
  rw [V_snoc, h2, S_succ, S_succ, pw_succ, ← Int.mul_assoc]
  have e : t % 4294967296 * pw k + t / 4294967296 * 4294967296 * pw k = t * pw k := by
    rw [← Int.add_mul]
    congr 1
    omega
  rw [← ht] at e ⊢
  rw [Int.add_mul, Int.add_mul] at e
  omega
theorem add_end0 {x y s : List Int} (h : AddI x y s x.length 0) (hx : Nf x) (hy : Lim y) (hl : y.length ≤ x.length) : s = limbs (V x + V y).toNat := by
  obtain ⟨h1, h2, h3⟩ := h
  have h4 := V_nonneg hx.1
  have h5 := V_nonneg hy
  rw [V_at hl] at h3
  have h6 : V s = V x + V y := by rw [Int.zero_mul, Int.add_zero] at h3; exact h3
  refine limbs_of (Nf.of_ge h1 fun h0 => ?_) (by omega)
  have := hx.pos (by omega)
  rw [h2]
  omega
theorem add_end1 {x y s : List Int} (h : AddI x y s x.length 1) (hx : Nf x) (hy : Lim y) (hl : y.length ≤ x.length) : s ++ [1] = limbs (V x + V y).toNat := by
  obtain ⟨h1, h2, h3⟩ := h
  have h4 := V_nonneg hx.1
  have h5 := V_nonneg hy
  rw [V_at hl] at h3
  have h6 : V (s ++ [1]) = V x + V y := by rw [V_snoc, h2, h3]; rfl
  refine limbs_of ⟨h1.snoc (by omega) (by omega), fun _ => ?_⟩ (by omega)
  rw [List.length_append, List.length_singleton, Nat.add_sub_cancel, dg_snoc, if_pos rfl]
  decide

/-- A row of whole numbers of the call's own, that may be appended to. -/
def OwnI (w : World) (base e : Nat) (k : IntKind) (v : Value) (xs : List Int) : Prop := w.ownsRow base e 1 v xs.length (xs.map (Value.int k))
theorem own_rk {w : World} {base e : Nat} {v : Value} {k : IntKind} {xs : List Int} (h : OwnI w base e k v xs) : ∃ A c, v = .slice A xs.length c ∧ Rk w k A c xs := by
  unfold OwnI at h
  rcases h.2 with ⟨rfl, h0⟩ | ⟨g, cap, cur, rfl, _, hh, h1, h2, h3, h4⟩
  · rw [h0]
    exact ⟨none, 0, rfl, by omega, by omega, fun j hj => by omega⟩
  · refine ⟨_, cap, rfl, h1, by simpa [maxLen] using h2, fun j hj => ⟨_, rfl, ?_⟩⟩
    refine h.cells (g := g) rfl j _ ?_
    rw [List.getElem?_map, List.getElem?_eq_getElem hj, dg_get hj]
    rfl

/-- One more number at the end of a row of the call's own. -/
theorem wpList_append1 {P : Program} {w0 W : World} {ops : Array Oper} {rest : List Oper} {o : Oper} {a : Act} {Q : Exit → Act → World → Prop} {k : IntKind} {x : Int} {base bytes : Nat} {e : TypeId} {i : TypeInfo} {v : Value} {xs : List Int}
    (hgd : o.guard = none) (s y : Operand) (t : TypeId) (ho : o.op = .call { callee := .builtin .append, args := #[s, y], argTypes := #[t, t] })
    (ht : P.underlying t = some (.slice e)) (hi : P.info? e = some i) (hz : i.zero = some (.int k 0)) (hsize : i.size = 1) (hby : i.bytes = bytes)
    (hs : a.eval s = v) (hy : a.eval y = .slice (some ⟨W.heap.size, 0, none⟩) 1 1) (hown : OwnI W base e k v xs)
    (HB : Below base w0 W) (hbase : base ≤ W.heap.size) (hl : (xs.length + 1) * bytes ≤ 140737488355328 ∧ xs.length + 1 ≤ 9223372036854775807)
    (h : ∀ v1 w1, OwnI w1 base e k v1 (xs ++ [x]) → Hid (Below base w0 w1) → wpList P ops Q rest (a.put o.dst v1) w1) :
    wpList P ops Q (o :: rest) a (W.alloc (.cells #[.int k x] e (0, 0))) := by
  refine wpList_append_own _ hgd s y t ho base e i _ 1 bytes ht hi hz hsize hby rfl (by decide) v xs.length _ hs (World.ownsRow.alloc hown _) ⟨W.heap.size, 0, none⟩ 1 1 [.int k x] hy rfl ?_ ?_ (by simp only [maxLen]; omega) hl.1 (by simp; omega) ?_
  · intro j u hj
    cases j with
    | zero =>
      simp at hj
      subst hj
      simp only [World.cell?, Addr.add, if_true]
      rw [heap_new]
      simp
    | succ j => simp at hj
  · intro u hu
    simp at hu
    subst hu
    rfl
  · intro v1 w1 h1 h2 _
    refine h v1 w1 ?_ ((HB.alloc hbase _).grown h2 (by simp; omega) (fun g hg => (World.ownsRow.lt hown g hg).1))
    unfold OwnI
    rw [List.map_append, List.length_append]
    exact h1

set_option maxHeartbeats 800000 in
theorem add_ok (w : World) (A B : Option Addr) (c d : Nat) (xs ys : List Int) (hx : RN w A c xs) (hy : RN w B d ys) (hsx : xs.length ≤ 35184372088830) (hsy : ys.length ≤ 35184372088830) :
    Calls Tryz.prog 87 #[.slice A xs.length c, .slice B ys.length d] w (RetN ((V xs).toNat + (V ys).toNat) w) := by
  have HVx := Lib.hid (V_nrm hx.2)
  have HVy := Lib.hid (V_nrm hy.2)
  have HLx := Lib.hid hx.2
  have HLy := Lib.hid hy.2
  have hlx := nrm_len hx.2
  have hly := nrm_len hy.2
  obtain ⟨i0, hi, hz0, hz1, hz2⟩ := info_parts info_u32
  go_enter Tryz.func87, Tryz.ntmps87
  go_wp2_with fail
  refine (trim_ok _ A c xs hx).mono ?_
  rintro e w1 ⟨rfl, x, rfl, HX, hx'⟩
  go_wp2_with fail
  refine (trim_ok _ B d ys hy).mono ?_
  rintro e w1 ⟨rfl, y, rfl, HY, hy'⟩
  rw [← HX.out] at hlx
  rw [← HY.out] at hly
  go_upto_if 19 with fail
  go_cut [5, 6] (fun s5 s6 wx => ∃ (A1 B1 : Option Addr) (a b : List Int), s5 = .slice A1 a.length a.length ∧ s6 = .slice B1 b.length b.length ∧ b.length ≤ a.length ∧ a.length ≤ 35184372088830 ∧ Hid (RN w A1 a.length a) ∧ Hid (RN w B1 b.length b) ∧ Hid (Nf a) ∧ Hid (V a + V b = V xs + V ys) ∧ w = wx)
  case first =>
    have h1 := HX.out
    have h2 := HY.out
    have HVs : Hid (V x + V y = V xs + V ys) := by show _ = _; rw [h1, h2, HVx.out, HVy.out]
    have HN1 : Hid (Nf x) := by show Nf x; rw [h1]; exact nrm_nf _
    have HN2 : Hid (Nf y) := by show Nf y; rw [h2]; exact nrm_nf _
    clear h1 h2 HX HY
    have RX := Lib.hid hx'
    have RY := Lib.hid hy'
    clear hx' hy' hx hy HVx HVy HLx HLy
    by_cases hlt : x.length < y.length
    · go_wp2_with fail
      go_meet
      exact ⟨B, A, y, x, rfl, rfl, by omega, by omega, RY, RX, HN2, by show _ = _; rw [Int.add_comm]; exact HVs.out, rfl⟩
    · have hd : decide (x.length < y.length) = false := decide_eq_false hlt
      go_wp2_with fail
      go_meet
      exact ⟨A, B, x, y, rfl, rfl, by omega, by omega, RX, RY, HN1, HVs, rfl⟩
  case rest =>
    obtain ⟨A1, B1, a, b, rfl, rfl, hle, hla, RA, RB, NA, HV, rfl⟩ := hcut
    have hmk : ∀ W : World, (Instr.makeSlice 24 (.int .i64 0) (.int .i64 ((a.length : Int) + 1))).run Tryz.prog W = .ok (.slice (some ⟨W.heap.size, 0, none⟩) 0 (a.length + 1)) (W.alloc (.cells (madeCells #[.int .u32 0] (a.length + 1)) 83)) := by
      intro W
      have h := run_make (P := Tryz.prog) W 24 83 i0 _ Tryz.underlying24 hi hz0 .i64 .i64 0 ((a.length : Int) + 1) (by omega) (by omega) (by rw [hz2]; omega) (by omega)
      rw [hz1, Nat.mul_one] at h
      exact h
    have hown := World.ownsRow_made (base := w.heap.size) (e := 83) (size := 1) w (madeCells #[.int .u32 0] (a.length + 1)) (a.length + 1) (Nat.le_refl _) (by simp only [maxLen]; omega) (by simp [size_madeCells])
    have HO := Lib.hid hown
    clear hown
    go_wp2_with fail
    clear hmk
    go_loopw [7, 8, 28] (fun vv qv iv wr => ∃ (k : Nat) (q : Int) (s : List Int), k ≤ a.length ∧ iv = .int .i64 (k : Int) ∧ qv = .int .u64 q ∧ 0 ≤ q ∧ q ≤ 1 ∧ Hid (AddI a b s k q) ∧ OwnI wr w.heap.size 83 .u32 vv s ∧ Hid (Below w.heap.size w wr)) (fun _ _ iv _ => a.length - (intOf iv).toNat)
    case atStart => exact ⟨0, 0, [], Nat.zero_le _, rfl, rfl, by omega, by omega, add_start a b, HO.out, (Below.refl _ w).alloc (Nat.le_refl _) _⟩
    case round =>
      clear HO
      obtain ⟨k, q, s, hk, rfl, rfl, hq0, hq1, HI, HO, HW⟩ := hrel
      by_cases hlt : k < a.length
      · obtain ⟨ad, rfl, hcx⟩ := ((RA.out).below HW.out).1.2.2 k hlt
        have bx := (RA.out).2 k
        by_cases hlt2 : k < b.length
        · obtain ⟨bd, rfl, hcy⟩ := ((RB.out).below HW.out).1.2.2 k hlt2
          have by' := (RB.out).2 k
          have HS := Lib.hid (add_round HI.out rfl (by omega))
          have hm := mask32 (q + dg a k + dg b k) (by omega) (by omega)
          go_wp2_with (at_builtin; refine wpList_append1 rfl _ _ 24 rfl Tryz.underlying24 hi hz0 hz1 hz2 rfl rfl HO HW.out HW.out.size ?_ ?_; (have := HI.out.2.1; omega))
          clear HO HW
          intro v' w1 HO HW
          go_wp2_with fail
          go_roundw
          case rel => exact ⟨k + 1, _, s ++ [(q + dg a k + dg b k) % 4294967296], by omega, by go_num, rfl, by omega, by omega, HS, HO, HW⟩
          case measure => simp [intOf]; omega
        · have hd : decide (k < b.length) = false := decide_eq_false hlt2
          have hb0 : dg b k = 0 := dg_ge (by omega)
          have HS := Lib.hid (add_round (k := k) HI.out (show q + dg a k + dg b k = q + dg a k by omega) (by omega))
          clear hb0
          have hm := mask32 (q + dg a k) (by omega) (by omega)
          go_wp2_with (at_builtin; refine wpList_append1 rfl _ _ 24 rfl Tryz.underlying24 hi hz0 hz1 hz2 rfl rfl HO HW.out HW.out.size ?_ ?_; (have := HI.out.2.1; omega))
          clear HO HW
          intro v' w1 HO HW
          go_wp2_with fail
          go_roundw
          case rel => exact ⟨k + 1, _, s ++ [(q + dg a k) % 4294967296], by omega, by go_num, rfl, by omega, by omega, HS, HO, HW⟩
          case measure => simp [intOf]; omega
      · obtain rfl : k = a.length := by omega
        clear hlt
        have e1 : V a + V b = V xs + V ys := HV.out
        have n1 := V_nonneg HLx.out
        have n2 := V_nonneg HLy.out
        have e2 : (V a + V b).toNat = (V xs).toNat + (V ys).toNat := by omega
        have HE := Lib.hid e2
        clear e1 e2 n1 n2
        rcases (show q = 0 ∨ q = 1 by omega) with rfl | rfl
        · go_wp2_with fail
          go_ret
          obtain ⟨A', c', rfl, hr⟩ := own_rk HO
          refine ⟨A', c', s, rfl, ?_, ⟨hr, HI.out.1⟩, HW.out⟩
          show s = _
          rw [← HE.out]
          exact add_end0 HI.out NA.out RB.out.2 hle
        · go_wp2_with (at_builtin; refine wpList_append1 rfl _ _ 24 rfl Tryz.underlying24 hi hz0 hz1 hz2 rfl rfl HO HW.out HW.out.size ?_ ?_; (have := HI.out.2.1; omega))
          clear HO HW
          intro v' w1 HO HW
          go_wp2_with fail
          go_ret
          obtain ⟨A', c', rfl, hr⟩ := own_rk HO
          refine ⟨A', c', s ++ [1], rfl, ?_, ⟨hr, HI.out.1.snoc (by omega) (by omega)⟩, HW.out⟩
          show s ++ [1] = _
          rw [← HE.out]
          exact add_end1 HI.out NA.out RB.out.2 hle

end Go.Proofs.YtocpncjmcaecoaaGreat.M
namespace Go.Proofs.YtocpncjmcaecoaaGreat.M
set_option maxRecDepth 10000
open Go.RowKit
set_option linter.unusedVariables false

/-- A number and a bool. -/
def RetNB (N : Nat) (b : Bool) (w : World) (e : Ending) (w' : World) : Prop := ∃ A c xs, e = .returned (.tuple #[.slice A xs.length c, .bool b]) ∧ Hid (xs = limbs N) ∧ RN w' A c xs ∧ Below w.heap.size w w'

/-- The difference so far. -/
def SubI (x y p : List Int) (k : Nat) (q : Int) : Prop := Lim p ∧ p.length = x.length ∧ (∀ j, k ≤ j → dg p j = 0) ∧ V p - q * pw k = S (dg x) k - S (dg y) k
theorem sub_start (x y : List Int) : SubI x y (List.replicate x.length 0) 0 0 := ⟨Lim.replicate _, by simp, fun j _ => dg_replicate _ j, by rw [V_replicate, S_zero, S_zero]; simp⟩
theorem sub_round {x y p : List Int} {k : Nat} {q d q' : Int} (h : SubI x y p k q) (hk : k < x.length) (hd : d - q' * 4294967296 = dg x k - (q + dg y k)) (h0 : 0 ≤ d) (h1 : d ≤ 4294967295) : SubI x y (p.set k d) (k + 1) q' := by
  obtain ⟨a1, a2, a3, a4⟩ := h
  refine ⟨a1.set _ h0 h1, by simp [a2], fun j hj => ?_, ?_⟩
  · rw [dg_set, if_neg (fun h => by have := h.1; omega)]; exact a3 j (by omega)
  · rw [V_set (by omega), a3 k (Nat.le_refl _), S_succ, S_succ, pw_succ, ← Int.mul_assoc, Int.sub_zero]
    have e : d * pw k - q' * 4294967296 * pw k = dg x k * pw k - q * pw k - dg y k * pw k := by
      rw [← Int.sub_mul, hd, Int.sub_mul, Int.add_mul]
      omega
    omega
theorem sub_end {x y p : List Int} {q : Int} (h : SubI x y p x.length q) (hy : Lim y) (hl : y.length ≤ x.length) (hv : V y ≤ V x) (hq : 0 ≤ q) : V p = V x - V y := by
  obtain ⟨a1, a2, a3, a4⟩ := h
  rw [V_at hl] at a4
  have h1 := V_lt a1
  rw [a2] at h1
  have h2 := pw_pos x.length
  rcases (show q = 0 ∨ 1 ≤ q by omega) with rfl | h3
  · rw [Int.zero_mul, Int.sub_zero] at a4; exact a4
  · have : 1 * pw x.length ≤ q * pw x.length := Int.mul_le_mul_of_nonneg_right h3 (by omega)
    have a5 : V p - q * pw x.length = V x - V y := a4
    omega

set_option maxHeartbeats 800000 in
theorem sub_no (w : World) (A B : Option Addr) (c d : Nat) (xs ys : List Int) (hx : RN w A c xs) (hy : RN w B d ys) (hv : V xs < V ys) :
    Calls Tryz.prog 88 #[.slice A xs.length c, .slice B ys.length d] w (RetNB 0 false w) := by
  have HVx := Lib.hid (V_nrm hx.2)
  have HVy := Lib.hid (V_nrm hy.2)
  have HV := Lib.hid hv
  clear hv
  go_enter Tryz.func88, Tryz.ntmps88
  go_wp2_with fail
  refine (trim_ok _ A c xs hx).mono ?_
  rintro e w1 ⟨rfl, x, rfl, HX, hx'⟩
  go_wp2_with fail
  refine (trim_ok _ B d ys hy).mono ?_
  rintro e w1 ⟨rfl, y, rfl, HY, hy'⟩
  go_wp2_with fail
  refine (cmp_ok _ A B _ _ x y hx' hy').mono ?_
  rintro e w1 ⟨n, rfl, rfl⟩
  have e1 : cmpI (V x) (V y) = -1 := cmpI_lt (by rw [HX.out, HY.out, HVx.out, HVy.out]; exact HV.out)
  rw [e1]
  clear e1
  go_wp2_with fail
  go_ret2
  exact ⟨none, 0, [], rfl, rfl, RN.nil _, below_drewN (Below.refl _ _) _⟩

/-- A number in memory that is new, and a bool. -/
def RetFB (N : Nat) (b : Bool) (w : World) (e : Ending) (w' : World) : Prop := ∃ g c xs, w.heap.size ≤ g ∧ e = .returned (.tuple #[.slice (some ⟨g, 0, none⟩) xs.length c, .bool b]) ∧ Hid (xs = limbs N) ∧ RN w' (some ⟨g, 0, none⟩) c xs ∧ Below w.heap.size w w'
set_option maxHeartbeats 800000 in
theorem sub_f (w : World) (A B : Option Addr) (c d : Nat) (xs ys : List Int) (hx : RN w A c xs) (hy : RN w B d ys) (hv : V ys ≤ V xs) (hs : xs.length ≤ 70368744177664) :
    Calls Tryz.prog 88 #[.slice A xs.length c, .slice B ys.length d] w (RetFB ((V xs).toNat - (V ys).toNat) true w) := by
  have HVx := Lib.hid (V_nrm hx.2)
  have HVy := Lib.hid (V_nrm hy.2)
  have HV := Lib.hid hv
  have hlx := nrm_len hx.2
  have HLx := Lib.hid hx.2
  have HLy := Lib.hid hy.2
  clear hv
  obtain ⟨i0, hi, hz0, hz1, hz2⟩ := info_parts info_u32
  go_enter Tryz.func88, Tryz.ntmps88
  go_wp2_with fail
  refine (trim_ok _ A c xs hx).mono ?_
  rintro e w1 ⟨rfl, x, rfl, HX, hx'⟩
  go_wp2_with fail
  refine (trim_ok _ B d ys hy).mono ?_
  rintro e w1 ⟨rfl, y, rfl, HY, hy'⟩
  rw [← HX.out] at hlx
  go_wp2_with fail
  refine (cmp_ok _ A B _ _ x y hx' hy').mono ?_
  rintro e w1 ⟨n, rfl, rfl⟩
  have EX : V x = V xs := by rw [HX.out]; exact HVx.out
  have EY : V y = V ys := by rw [HY.out]; exact HVy.out
  have hc : cmpI (V x) (V y) = 0 ∨ cmpI (V x) (V y) = 1 := by
    have := HV.out
    rcases (show V x = V y ∨ V y < V x by omega) with h | h
    · exact .inl (cmpI_eq h)
    · exact .inr (cmpI_gt h)
  have hb : Below w.heap.size w (w.drewN n) := below_drewN (Below.refl _ _) _
  have NX : Nf x := by rw [HX.out]; exact nrm_nf _
  have NY : Nf y := by rw [HY.out]; exact nrm_nf _
  have hlen : y.length ≤ x.length := by
    rcases Nat.lt_or_ge x.length y.length with h | h
    · have h1 := NX.lt_of_len NY h
      have h2 := HV.out
      omega
    · exact h
  have HEX := Lib.hid EX
  have HEY := Lib.hid EY
  have RX := Lib.hid (hx'.below hb)
  have RY := Lib.hid (hy'.below hb)
  have HB0 := Lib.hid hb
  clear EX EY hb NX NY HX HY HVx HVy hx hy hx' hy'
  have hmk := mk_make 24 83 i0 .u32 Tryz.underlying24 hi hz0 hz1 (x.length : Int) (by omega) (by rw [hz2]; omega) (by omega)
  rw [Int.toNat_natCast] at hmk
  have hc1 : decide (cmpI (V x) (V y) < 0) = false := by rcases hc with h | h <;> rw [h] <;> rfl
  clear hc
  go_wp2_with fail
  clear hmk hc1
  go_loopw [9, 27] (fun bv iv wr => ∃ (k : Nat) (q : Int) (p : List Int), k ≤ x.length ∧ iv = .int .i64 (k : Int) ∧ bv = .int .u64 q ∧ 0 ≤ q ∧ q ≤ 1 ∧ Hid (SubI x y p k q) ∧ Bk wr w.heap.size 83 .u32 p ∧ Hid (Below w.heap.size w wr)) (fun _ iv _ => x.length - (intOf iv).toNat)
  case atStart => exact ⟨0, 0, _, Nat.zero_le _, rfl, rfl, Int.le_refl _, by omega, sub_start x y, Bk.made (w := w.drewN n) _, HB0.out.alloc (Nat.le_refl _) _⟩
  case round =>
    obtain ⟨k, q, p, hk, rfl, rfl, hq0, hq1, HI, HB, HW⟩ := hrel
    by_cases hlt : k < x.length
    · have hW : Below (w.drewN n).heap.size (w.drewN n) wr := ⟨HW.out.os, HW.out.tape, HW.out.output, HW.out.size, HW.out.block⟩
      obtain ⟨ad, rfl, hcx⟩ := ((RX.out).below hW).1.2.2 k hlt
      have bx := (RX.out).2 k
      have by' := (RY.out).2 k
      obtain ⟨hcp, hfp⟩ := HB.cell (j := k) (by have := HI.out.2.1; omega)
      by_cases hlt2 : k < y.length
      · obtain ⟨bd, rfl, hcy⟩ := ((RY.out).below hW).1.2.2 k hlt2
        clear hW
        by_cases hb : dg x k < q + dg y k
        · have HS := Lib.hid (sub_round (q' := 1) HI.out hlt (show dg x k + 4294967296 - (q + dg y k) - 1 * 4294967296 = dg x k - (q + dg y k) by omega) (by omega) (by omega))
          go_wp2_with fail
          go_roundw
          case rel => exact ⟨k + 1, 1, p.set k (dg x k + 4294967296 - (q + dg y k)), by omega, by go_num, rfl, by omega, by omega, HS, by first | exact HB.set _ _ | (have := HB.set k (dg x k + 4294967296 - (q + dg y k)); simpa using this), by first | exact below_set HW.out (Nat.le_refl _) _⟩
          case measure => simp [intOf]; omega
        · have HS := Lib.hid (sub_round (q' := 0) HI.out hlt (show dg x k - (q + dg y k) - 0 * 4294967296 = dg x k - (q + dg y k) by omega) (by omega) (by omega))
          have hd : decide (dg x k < q + dg y k) = false := decide_eq_false hb
          go_wp2_with fail
          go_roundw
          case rel => exact ⟨k + 1, 0, p.set k (dg x k - (q + dg y k)), by omega, by go_num, rfl, by omega, by omega, HS, by first | exact HB.set _ _ | (have := HB.set k (dg x k - (q + dg y k)); simpa using this), by first | exact below_set HW.out (Nat.le_refl _) _⟩
          case measure => simp [intOf]; omega
      · clear hW
        have hd0 : decide (k < y.length) = false := decide_eq_false hlt2
        have hb0 : dg y k = 0 := dg_ge (by omega)
        by_cases hb : dg x k < q
        · have HS := Lib.hid (sub_round (q' := 1) HI.out hlt (show dg x k + 4294967296 - q - 1 * 4294967296 = dg x k - (q + dg y k) by omega) (by omega) (by omega))
          clear hb0
          go_wp2_with fail
          go_roundw
          case rel => exact ⟨k + 1, 1, p.set k (dg x k + 4294967296 - q), by omega, by go_num, rfl, by omega, by omega, HS, by first | exact HB.set _ _ | (have := HB.set k (dg x k + 4294967296 - q); simpa using this), by first | exact below_set HW.out (Nat.le_refl _) _⟩
          case measure => simp [intOf]; omega
        · have HS := Lib.hid (sub_round (q' := 0) HI.out hlt (show dg x k - q - 0 * 4294967296 = dg x k - (q + dg y k) by omega) (by omega) (by omega))
          have hd : decide (dg x k < q) = false := decide_eq_false hb
          clear hb0
          go_wp2_with fail
          go_roundw
          case rel => exact ⟨k + 1, 0, p.set k (dg x k - q), by omega, by go_num, rfl, by omega, by omega, HS, by first | exact HB.set _ _ | (have := HB.set k (dg x k - q); simpa using this), by first | exact below_set HW.out (Nat.le_refl _) _⟩
          case measure => simp [intOf]; omega
    · obtain rfl : k = x.length := by omega
      have hpl : p.length = x.length := HI.out.2.1
      have hR := HB.reads (by omega)
      have e2 : (V x - V y).toNat = (V xs).toNat - (V ys).toNat := by
        have h1 := HEX.out
        have h2 := HEY.out
        have h3 := HV.out
        have h4 := V_nonneg HLx.out
        have h5 := V_nonneg HLy.out
        omega
      have e3 : V y ≤ V x := by rw [HEX.out, HEY.out]; exact HV.out
      have e4 := sub_end HI.out RY.out.2 hlen e3 hq0
      have HE2 := Lib.hid e2
      have HE4 := Lib.hid e4
      have HP := Lib.hid hpl
      clear e2 e3 e4 hpl
      go_wp2_with fail
      rw [← HP.out]
      refine (trim_ok _ _ _ p ⟨hR, HI.out.1⟩).mono ?_
      rintro e w1 ⟨rfl, z, rfl, HZ, hz⟩
      clear hR
      go_wp2_with fail
      go_ret2
      refine ⟨w.heap.size, _, z, Nat.le_refl _, rfl, ?_, hz, HW.out⟩
      show z = _
      rw [HZ.out, ← HE2.out, ← HE4.out]
      rfl

theorem sub_yes (w : World) (A B : Option Addr) (c d : Nat) (xs ys : List Int) (hx : RN w A c xs) (hy : RN w B d ys) (hv : V ys ≤ V xs) (hs : xs.length ≤ 70368744177664) :
    Calls Tryz.prog 88 #[.slice A xs.length c, .slice B ys.length d] w (RetNB ((V xs).toNat - (V ys).toNat) true w) :=
  (sub_f w A B c d xs ys hx hy hv hs).mono fun _ _ h => by
    obtain ⟨g, c, xs, _, h1, h2, h3, h4⟩ := h
    exact ⟨_, c, xs, h1, h2, h3, h4⟩

end Go.Proofs.YtocpncjmcaecoaaGreat.M
