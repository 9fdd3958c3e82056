/- The sum of two numbers of the program. -/
import Derived.Test.YtgdlnmhpnlmofaaNatC
import Derived.Deep.DeepCutAuto
import Derived.Laws.AppendOwn
namespace Go.Proofs.Ytgdlnmhpnlmofaa.M
set_option maxRecDepth 10000
open Go.RowKit
set_option linter.unusedVariables false

theorem Nf.of_ge {s : List Int} (h : Lim s) (hv : 0 < s.length → pw (s.length - 1) ≤ V s) : Nf s := by
  refine ⟨h, fun h0 e => ?_⟩
  have h1 := hv h0
  unfold V at h1
  rw [show s.length = (s.length - 1) + 1 from by omega, S_succ, e, Int.zero_mul, Int.add_zero] at h1
  have h2 := (S_bound (f := dg s) (k := s.length - 1) (fun j _ => h j)).2
  simp only [Nat.add_sub_cancel] at h1
  omega

/-- The sum so far. -/
def AddI (x y s : List Int) (k : Nat) (q : Int) : Prop := Lim s ∧ s.length = k ∧ V s + q * pw k = S (dg x) k + S (dg y) k
theorem add_start (x y : List Int) : AddI x y [] 0 0 := ⟨Lim.nil, rfl, by simp [V_nil, S_zero]⟩
theorem add_round {x y s : List Int} {k : Nat} {q t : Int} (h : AddI x y s k q) (ht : q + dg x k + dg y k = t) (h0 : 0 ≤ t) : AddI x y (s ++ [t % 4294967296]) (k + 1) (t / 4294967296) := by
  obtain ⟨h1, h2, h3⟩ := h
  refine ⟨h1.snoc (by omega) (by omega), by simp [h2], ?_⟩
  rw [V_snoc, h2, S_succ, S_succ, pw_succ, ← Int.mul_assoc]
  have e : t % 4294967296 * pw k + t / 4294967296 * 4294967296 * pw k = t * pw k := by
    rw [← Int.add_mul]
    congr 1
    omega
  rw [← ht] at e ⊢
  rw [Int.add_mul, Int.add_mul] at e
  omega
theorem add_end0 {x y s : List Int} (h : AddI x y s x.length 0) (hx : Nf x) (hy : Lim y) (hl : y.length ≤ x.length) : s = limbs (V x + V y).toNat := by
  obtain ⟨h1, h2, h3⟩ := h
  have h4 := V_nonneg hx.1
  have h5 := V_nonneg hy
  rw [V_at hl] at h3
  have h6 : V s = V x + V y := by rw [Int.zero_mul, Int.add_zero] at h3; exact h3
  refine limbs_of (Nf.of_ge h1 fun h0 => ?_) (by omega)
  have := hx.pos (by omega)
  rw [h2]
  omega
theorem add_end1 {x y s : List Int} (h : AddI x y s x.length 1) (hx : Nf x) (hy : Lim y) (hl : y.length ≤ x.length) : s ++ [1] = limbs (V x + V y).toNat := by
  obtain ⟨h1, h2, h3⟩ := h
  have h4 := V_nonneg hx.1
  have h5 := V_nonneg hy
  rw [V_at hl] at h3
  have h6 : V (s ++ [1]) = V x + V y := by rw [V_snoc, h2, h3]; rfl
  refine limbs_of ⟨h1.snoc (by omega) (by omega), fun _ => ?_⟩ (by omega)
  rw [List.length_append, List.length_singleton, Nat.add_sub_cancel, dg_snoc, if_pos rfl]
  decide

/-- A row of whole numbers of the call's own, that may be appended to. -/
def OwnI (w : World) (base e : Nat) (k : IntKind) (v : Value) (xs : List Int) : Prop := w.ownsRow base e 1 v xs.length (xs.map (Value.int k))
theorem own_rk {w : World} {base e : Nat} {v : Value} {k : IntKind} {xs : List Int} (h : OwnI w base e k v xs) : ∃ A c, v = .slice A xs.length c ∧ Rk w k A c xs := by
  unfold OwnI at h
  rcases h.2 with ⟨rfl, h0⟩ | ⟨g, cap, cur, rfl, _, hh, h1, h2, h3, h4⟩
  · rw [h0]
    exact ⟨none, 0, rfl, by omega, by omega, fun j hj => by omega⟩
  · refine ⟨_, cap, rfl, h1, by simpa [maxLen] using h2, fun j hj => ⟨_, rfl, ?_⟩⟩
    refine h.cells (g := g) rfl j _ ?_
    rw [List.getElem?_map, List.getElem?_eq_getElem hj, dg_get hj]
    rfl

/-- One more number at the end of a row of the call's own. -/
theorem wpList_append1 {P : Program} {w0 W : World} {ops : Array Oper} {rest : List Oper} {o : Oper} {a : Act} {Q : Exit → Act → World → Prop} {k : IntKind} {x : Int} {base bytes : Nat} {e : TypeId} {i : TypeInfo} {v : Value} {xs : List Int}
    (hgd : o.guard = none) (s y : Operand) (t : TypeId) (ho : o.op = .call { callee := .builtin .append, args := #[s, y], argTypes := #[t, t] })
    (ht : P.underlying t = some (.slice e)) (hi : P.info? e = some i) (hz : i.zero = some (.int k 0)) (hsize : i.size = 1) (hby : i.bytes = bytes)
    (hs : a.eval s = v) (hy : a.eval y = .slice (some ⟨W.heap.size, 0, none⟩) 1 1) (hown : OwnI W base e k v xs)
    (HB : Below base w0 W) (hbase : base ≤ W.heap.size) (hl : (xs.length + 1) * bytes ≤ 140737488355328 ∧ xs.length + 1 ≤ 9223372036854775807)
    (h : ∀ v1 w1, OwnI w1 base e k v1 (xs ++ [x]) → Hid (Below base w0 w1) → wpList P ops Q rest (a.put o.dst v1) w1) :
    wpList P ops Q (o :: rest) a (W.alloc (.cells #[.int k x] e (0, 0))) := by
  refine wpList_append_own _ hgd s y t ho base e i _ 1 bytes ht hi hz hsize hby rfl (by decide) v xs.length _ hs (World.ownsRow.alloc hown _) ⟨W.heap.size, 0, none⟩ 1 1 [.int k x] hy rfl ?_ ?_ (by simp only [maxLen]; omega) hl.1 (by simp; omega) ?_
  · intro j u hj
    cases j with
    | zero =>
      simp at hj
      subst hj
      simp only [World.cell?, Addr.add, if_true]
      rw [heap_new]
      simp
    | succ j => simp at hj
  · intro u hu
    simp at hu
    subst hu
    rfl
  · intro v1 w1 h1 h2 _
    refine h v1 w1 ?_ ((HB.alloc hbase _).grown h2 (by simp; omega) (fun g hg => (World.ownsRow.lt hown g hg).1))
    unfold OwnI
    rw [List.map_append, List.length_append]
    exact h1

set_option maxHeartbeats 800000 in
theorem add_ok (w : World) (A B : Option Addr) (c d : Nat) (xs ys : List Int) (hx : RN w A c xs) (hy : RN w B d ys) (hsx : xs.length ≤ 35184372088830) (hsy : ys.length ≤ 35184372088830) :
    Calls Try.prog 98 #[.slice A xs.length c, .slice B ys.length d] w (RetN ((V xs).toNat + (V ys).toNat) w) := by
  have HVx := Lib.hid (V_nrm hx.2)
  have HVy := Lib.hid (V_nrm hy.2)
  have HLx := Lib.hid hx.2
  have HLy := Lib.hid hy.2
  have hlx := nrm_len hx.2
  have hly := nrm_len hy.2
  obtain ⟨i0, hi, hz0, hz1, hz2⟩ := info_parts info_u32
  go_enter Try.func98, Try.ntmps98
  go_wp2_with fail
  refine (trim_ok _ A c xs hx).mono ?_
  rintro e w1 ⟨rfl, x, rfl, HX, hx'⟩
  go_wp2_with fail
  refine (trim_ok _ B d ys hy).mono ?_
  rintro e w1 ⟨rfl, y, rfl, HY, hy'⟩
  rw [← HX.out] at hlx
  rw [← HY.out] at hly
  go_upto_if 19 with fail
  go_cut [5, 6] (fun s5 s6 wx => ∃ (A1 B1 : Option Addr) (a b : List Int), s5 = .slice A1 a.length a.length ∧ s6 = .slice B1 b.length b.length ∧ b.length ≤ a.length ∧ a.length ≤ 35184372088830 ∧ Hid (RN w A1 a.length a) ∧ Hid (RN w B1 b.length b) ∧ Hid (Nf a) ∧ Hid (V a + V b = V xs + V ys) ∧ w = wx)
  case first =>
    have h1 := HX.out
    have h2 := HY.out
    have HVs : Hid (V x + V y = V xs + V ys) := by show _ = _; rw [h1, h2, HVx.out, HVy.out]
    have HN1 : Hid (Nf x) := by show Nf x; rw [h1]; exact nrm_nf _
    have HN2 : Hid (Nf y) := by show Nf y; rw [h2]; exact nrm_nf _
    clear h1 h2 HX HY
    have RX := Lib.hid hx'
    have RY := Lib.hid hy'
    clear hx' hy' hx hy HVx HVy HLx HLy
    by_cases hlt : x.length < y.length
    · go_wp2_with fail
      go_meet
      exact ⟨B, A, y, x, rfl, rfl, by omega, by omega, RY, RX, HN2, by show _ = _; rw [Int.add_comm]; exact HVs.out, rfl⟩
    · have hd : decide (x.length < y.length) = false := decide_eq_false hlt
      go_wp2_with fail
      go_meet
      exact ⟨A, B, x, y, rfl, rfl, by omega, by omega, RX, RY, HN1, HVs, rfl⟩
  case rest =>
    obtain ⟨A1, B1, a, b, rfl, rfl, hle, hla, RA, RB, NA, HV, rfl⟩ := hcut
    have hmk : ∀ W : World, (Instr.makeSlice 29 (.int .i64 0) (.int .i64 ((a.length : Int) + 1))).run Try.prog W = .ok (.slice (some ⟨W.heap.size, 0, none⟩) 0 (a.length + 1)) (W.alloc (.cells (madeCells #[.int .u32 0] (a.length + 1)) 95)) := by
      intro W
      have h := run_make (P := Try.prog) W 29 95 i0 _ Try.underlying29 hi hz0 .i64 .i64 0 ((a.length : Int) + 1) (by omega) (by omega) (by rw [hz2]; omega) (by omega)
      rw [hz1, Nat.mul_one] at h
      exact h
    have hown := World.ownsRow_made (base := w.heap.size) (e := 95) (size := 1) w (madeCells #[.int .u32 0] (a.length + 1)) (a.length + 1) (Nat.le_refl _) (by simp only [maxLen]; omega) (by simp [size_madeCells])
    have HO := Lib.hid hown
    clear hown
    go_wp2_with fail
    clear hmk
    go_loopw [7, 8, 28] (fun vv qv iv wr => ∃ (k : Nat) (q : Int) (s : List Int), k ≤ a.length ∧ iv = .int .i64 (k : Int) ∧ qv = .int .u64 q ∧ 0 ≤ q ∧ q ≤ 1 ∧ Hid (AddI a b s k q) ∧ OwnI wr w.heap.size 95 .u32 vv s ∧ Hid (Below w.heap.size w wr)) (fun _ _ iv _ => a.length - (intOf iv).toNat)
    case atStart => exact ⟨0, 0, [], Nat.zero_le _, rfl, rfl, by omega, by omega, add_start a b, HO.out, (Below.refl _ w).alloc (Nat.le_refl _) _⟩
    case round =>
      clear HO
      obtain ⟨k, q, s, hk, rfl, rfl, hq0, hq1, HI, HO, HW⟩ := hrel
      by_cases hlt : k < a.length
      · obtain ⟨ad, rfl, hcx⟩ := ((RA.out).below HW.out).1.2.2 k hlt
        have bx := (RA.out).2 k
        by_cases hlt2 : k < b.length
        · obtain ⟨bd, rfl, hcy⟩ := ((RB.out).below HW.out).1.2.2 k hlt2
          have by' := (RB.out).2 k
          have HS := Lib.hid (add_round HI.out rfl (by omega))
          have hm := mask32 (q + dg a k + dg b k) (by omega) (by omega)
          go_wp2_with (at_builtin; refine wpList_append1 rfl _ _ 29 rfl Try.underlying29 hi hz0 hz1 hz2 rfl rfl HO HW.out HW.out.size ?_ ?_; (have := HI.out.2.1; omega))
          clear HO HW
          intro v' w1 HO HW
          go_wp2_with fail
          go_roundw
          case rel => exact ⟨k + 1, _, s ++ [(q + dg a k + dg b k) % 4294967296], by omega, by go_num, rfl, by omega, by omega, HS, HO, HW⟩
          case measure => simp [intOf]; omega
        · have hd : decide (k < b.length) = false := decide_eq_false hlt2
          have hb0 : dg b k = 0 := dg_ge (by omega)
          have HS := Lib.hid (add_round (k := k) HI.out (show q + dg a k + dg b k = q + dg a k by omega) (by omega))
          clear hb0
          have hm := mask32 (q + dg a k) (by omega) (by omega)
          go_wp2_with (at_builtin; refine wpList_append1 rfl _ _ 29 rfl Try.underlying29 hi hz0 hz1 hz2 rfl rfl HO HW.out HW.out.size ?_ ?_; (have := HI.out.2.1; omega))
          clear HO HW
          intro v' w1 HO HW
          go_wp2_with fail
          go_roundw
          case rel => exact ⟨k + 1, _, s ++ [(q + dg a k) % 4294967296], by omega, by go_num, rfl, by omega, by omega, HS, HO, HW⟩
          case measure => simp [intOf]; omega
      · obtain rfl : k = a.length := by omega
        clear hlt
        have e1 : V a + V b = V xs + V ys := HV.out
        have n1 := V_nonneg HLx.out
        have n2 := V_nonneg HLy.out
        have e2 : (V a + V b).toNat = (V xs).toNat + (V ys).toNat := by omega
        have HE := Lib.hid e2
        clear e1 e2 n1 n2
        rcases (show q = 0 ∨ q = 1 by omega) with rfl | rfl
        · go_wp2_with fail
          go_ret
          obtain ⟨A', c', rfl, hr⟩ := own_rk HO
          refine ⟨A', c', s, rfl, ?_, ⟨hr, HI.out.1⟩, HW.out⟩
          show s = _
          rw [← HE.out]
          exact add_end0 HI.out NA.out RB.out.2 hle
        · go_wp2_with (at_builtin; refine wpList_append1 rfl _ _ 29 rfl Try.underlying29 hi hz0 hz1 hz2 rfl rfl HO HW.out HW.out.size ?_ ?_; (have := HI.out.2.1; omega))
          clear HO HW
          intro v' w1 HO HW
          go_wp2_with fail
          go_ret
          obtain ⟨A', c', rfl, hr⟩ := own_rk HO
          refine ⟨A', c', s ++ [1], rfl, ?_, ⟨hr, HI.out.1.snoc (by omega) (by omega)⟩, HW.out⟩
          show s ++ [1] = _
          rw [← HE.out]
          exact add_end1 HI.out NA.out RB.out.2 hle

end Go.Proofs.Ytgdlnmhpnlmofaa.M
