/- The reference: Norm, Of, limb. The reference: Cmp. The reference: Mul. The reference: Add. The reference: Sub, short. -/
import Derived.Test.YtocpncjmcaecoaaGreatNatG
import Derived.Laws.CopyRow
import Derived.Laws.IdiomCopy
import Derived.Deep.DeepCutAuto
namespace Go.Proofs.YtocpncjmcaecoaaGreat.M
set_option maxRecDepth 10000
open Go.RowKit
set_option linter.unusedVariables false

theorem wpList_copy_run {P : Program} {w w' : World} {ops : Array Oper} {rest : List Oper} {o : Oper} {a : Act} {Q : Exit → Act → World → Prop} (hgd : o.guard = none) (d s : Operand) (dT sT : TypeId)
    (ho : o.op = .call { callee := .builtin .copy, args := #[d, s], argTypes := #[dT, sT] })
    (v u r : Value) (hd : a.eval d = v) (hs : a.eval s = u) (hr : (Builtin.copy_ #[dT, sT] o.type #[v, u]).run P w = .ok r w')
    (h : wpList P ops Q rest (a.put o.dst r) w') : wpList P ops Q (o :: rest) a w :=
  wpList_plain hgd fun _ hK => by
    unfold Oper.wp execOp
    simp only [ho, resolve, invoke, builtin, Sem.run_bind, Sem.run_pure, Result.andThen_ok, List.map_toArray, List.map_cons, List.map_nil, hd, hs, hr]
    exact hK _ _ h

/-- A new row of n zeros takes the first n numbers of what is read. -/
theorem copy_take {P : Program} (t ty e : TypeId) (i : TypeInfo) (ht : P.underlying t = some (.slice e)) (hi : P.info? e = some i) (hsz : i.size = 1)
    {W : World} {g : Nat} {k : IntKind} {A : Option Addr} {c n : Nat} {xs : List Int} (hb : Bk W g e k (List.replicate n 0)) (h : Rk W k A c xs) (hn : n ≤ xs.length) :
    ∃ W', (Builtin.copy_ #[t, t] ty #[.slice (some ⟨g, 0, none⟩) n n, .slice A xs.length c]).run P W = .ok (goInt n) W' ∧ Bk W' g e k (xs.take n) ∧ Below g W W' := by
  have hs : (P.info? e).map (·.size) = some 1 := by rw [hi]; simp [hsz]
  by_cases h0 : n = 0
  · subst h0
    exact ⟨W, run_copy_none (P := P) W t t ty e _ A 0 0 xs.length c ht hs (by simp), by simpa using hb, Below.refl _ _⟩
  · obtain ⟨ad, rfl, _⟩ := h.2.2 0 (by omega)
    have hcs : ((xs.take n).map (Value.int k)).length = Nat.min xs.length n := by
      rw [List.length_map, List.length_take]
      exact Nat.min_comm _ _
    have hmin : Nat.min xs.length n = n := Nat.min_eq_right hn
    have hsrc : ∀ j v, ((xs.take n).map (Value.int k))[j]? = some v → W.cell? (ad.add j) = some v := by
      intro j v hv
      rw [List.getElem?_map] at hv
      obtain ⟨x, hx, rfl⟩ := Option.map_eq_some_iff.1 hv
      obtain ⟨hj, rfl⟩ := List.getElem?_eq_some_iff.1 hx
      rw [List.length_take] at hj
      obtain ⟨ad', e', hc'⟩ := h.2.2 j (by omega)
      cases e'
      rw [dg_get (by omega)] at hc'
      rw [List.getElem_take]
      exact hc'
    have hr := run_copy_row (P := P) W t t ty e g 0 n n ad xs.length c _ e _ ht hs hb hcs hsrc (by rw [hcs, hmin]; simp) (fun v hv => by
      obtain ⟨x, _, rfl⟩ := List.mem_map.1 hv
      rfl)
    rw [hcs, hmin] at hr
    refine ⟨_, hr, ?_, ⟨rfl, rfl, rfl, by simp, fun j hj => setRow_other W g j _ (by omega)⟩⟩
    unfold Bk
    rw [setRow_heap W g _ _ e _ hb]
    congr 2
    simp

set_option maxHeartbeats 400000 in
theorem rnorm_f (w : World) (A : Option Addr) (c : Nat) (xs : List Int) (h : RN w A c xs) (hs : xs.length ≤ 70368744177664) :
    Calls Tryz.prog 94 #[.slice A xs.length c] w (RetF (V xs).toNat w) := by
  obtain ⟨i0, hi, hz0, hz1, hz2⟩ := info_parts info_u32
  have hl := tl_le xs xs.length
  have HT0 := Lib.hid (take_tl h.2)
  have HR := Lib.hid h
  have H3 := Lib.hid h.1.2.2
  have hc1 := h.1.1
  have hc2 := h.1.2.1
  clear h
  go_enter Tryz.func94, Tryz.ntmps94
  go_wp2
  go_loop [3] (fun i => ∃ k : Nat, k ≤ xs.length ∧ i = .int .i64 k ∧ Hid (tl xs k = tl xs xs.length)) (fun i => (intOf i).toNat)
  case atStart => exact ⟨xs.length, Nat.le_refl _, rfl, rfl⟩
  case round =>
    obtain ⟨k, hk, rfl, HT⟩ := hrel
    by_cases hz : k ≠ 0 ∧ dg xs (k - 1) = 0
    · obtain ⟨h0, hz⟩ := hz
      obtain ⟨j, rfl⟩ : ∃ j, k = j + 1 := ⟨k - 1, by omega⟩
      rw [Nat.add_sub_cancel] at hz
      obtain ⟨ad, rfl, hc⟩ := H3.out j (by omega)
      have HT' : Hid (tl xs j = tl xs xs.length) := by have := HT.out; rwa [tl, if_pos hz] at this
      rw [hz] at hc
      clear hz h0
      go_wp2
      go_round
      case rel => exact ⟨j, by omega, rfl, HT'⟩
      case measure => simp [intOf]
    · have HE : Hid (k = tl xs xs.length) := by
        have h1 := HT.out
        rcases Nat.eq_zero_or_pos k with h0 | h0
        · subst h0; exact h1
        · obtain ⟨j, rfl⟩ : ∃ j, k = j + 1 := ⟨k - 1, by omega⟩
          rw [Nat.add_sub_cancel] at hz
          rw [tl, if_neg (fun h => hz ⟨by omega, h⟩)] at h1
          exact h1
      have hmk := mk_make 24 83 i0 .u32 Tryz.underlying24 hi hz0 hz1 (k : Int) (by omega) (by rw [hz2]; omega) (by omega)
      rw [Int.toNat_natCast] at hmk
      have hk0 := Bk.made (w := w) (e := 83) (k := .u32) k
      have hb0 : Below w.heap.size w (w.alloc (.cells (madeCells #[.int .u32 0] k) 83 (0, 0))) := (Below.refl _ w).alloc (Nat.le_refl _) _
      obtain ⟨W', hr, hK, hB⟩ := copy_take (P := Tryz.prog) 24 3 83 i0 Tryz.underlying24 hi hz1 hk0 ((HR.out).1.below hb0) hk
      have HB := Lib.hid (hb0.trans hB)
      have HK := Lib.hid hK
      clear hB hb0 hK hk0
      have hfin : ∃ ys : List Int, ys.length = k ∧ Hid (ys = limbs (V xs).toNat) ∧ RN W' (some ⟨w.heap.size, 0, none⟩) k ys := by
        have hlen : (xs.take k).length = k := by rw [List.length_take]; omega
        refine ⟨xs.take k, hlen, ?_, ?_, (HR.out).2.take k⟩
        · show _ = _
          rw [HE.out]
          exact HT0.out
        · have := HK.out.reads (by rw [hlen]; omega)
          rwa [hlen] at this
      have HF := Lib.hid hfin
      clear hfin
      by_cases h0 : k = 0
      · subst h0
        rw [Int.natCast_zero] at hmk
        go_wp2_with (with_reducible refine wpList_copy_run rfl _ _ _ _ rfl _ _ _ rfl rfl hr ?_; clear hr)
        go_wp2
        go_ret
        obtain ⟨ys, e1, e2, e3⟩ := HF.out
        exact ⟨w.heap.size, 0, ys, Nat.le_refl _, ret_slice e1.symm rfl, e2, e3, HB.out⟩
      · obtain ⟨j, rfl⟩ : ∃ j, k = j + 1 := ⟨k - 1, by omega⟩
        rw [Nat.add_sub_cancel] at hz
        have hz' : (dg xs j == 0) = false := by
          rw [beq_eq_false_iff_ne]
          exact fun h => hz ⟨by omega, h⟩
        obtain ⟨ad, rfl, hc⟩ := H3.out j (by omega)
        clear hz h0
        rw [Int.natCast_add, Int.natCast_one] at hmk
        go_wp2_with (with_reducible refine wpList_copy_run rfl _ _ _ _ rfl _ _ _ rfl rfl hr ?_; clear hr)
        go_wp2
        go_ret
        obtain ⟨ys, e1, e2, e3⟩ := HF.out
        exact ⟨w.heap.size, j + 1, ys, Nat.le_refl _, ret_slice e1.symm rfl, e2, e3, HB.out⟩

theorem rnorm_ok (w : World) (A : Option Addr) (c : Nat) (xs : List Int) (h : RN w A c xs) (hs : xs.length ≤ 70368744177664) :
    Calls Tryz.prog 94 #[.slice A xs.length c] w (RetN (V xs).toNat w) := (rnorm_f w A c xs h hs).mono fun _ _ h => h.n

set_option maxHeartbeats 400000 in
theorem rof_ok (w : World) (n : Int) (h0 : 0 ≤ n) (h1 : n ≤ 18446744073709551615) :
    Calls Tryz.prog 77 #[.int .u64 n] w (RetN n.toNat w) := by
  go_enter Tryz.func77, Tryz.ntmps77
  go_wp2_with fail
  have hb : Below w.heap.size w (w.alloc (.cells #[.int .u32 (n % 4294967296), .int .u32 (n / 4294967296)] 83 (0, 0))) := (Below.refl _ w).alloc (Nat.le_refl _) _
  have hk : Bk (w.alloc (.cells #[.int .u32 (n % 4294967296), .int .u32 (n / 4294967296)] 83 (0, 0))) w.heap.size 83 .u32 [n % 4294967296, n / 4294967296] := Bk.lit (w := w) (e := 83) (k := .u32) [n % 4294967296, n / 4294967296]
  have hr := hk.reads (by simp)
  refine (rnorm_ok _ _ _ [n % 4294967296, n / 4294967296] ⟨hr, Lim_two (by omega) (by omega) (by omega) (by omega)⟩ (by simp)).mono ?_
  rintro e w1 ⟨A, c, ys, rfl, HY, hy, hB⟩
  clear hr hk
  have HB := Lib.hid (below_seq hb hB)
  clear hb hB
  go_wp2
  go_ret
  refine ⟨_, _, ys, rfl, ?_, hy, HB.out⟩
  have := HY.out
  rw [V_two] at this
  show ys = limbs n.toNat
  rw [this]
  congr 2
  omega

/-- A digit, 0 beyond the end. -/
def RetU (v : Int) (w : World) (e : Ending) (w' : World) : Prop := e = .returned (.int .u64 v) ∧ w = w'
set_option maxHeartbeats 400000 in
theorem limb_ok (w : World) (A : Option Addr) (c : Nat) (xs : List Int) (h : RN w A c xs) (i : Int) (h0 : 0 ≤ i) :
    Calls Tryz.prog 110 #[.slice A xs.length c, .int .i64 i] w (RetU (dg xs i.toNat) w) := by
  have bx := h.2 i.toNat
  by_cases hlt : i.toNat < xs.length
  · obtain ⟨ad, rfl, hc⟩ := h.1.2.2 i.toNat hlt
    have hm : xs.length ≤ 9223372036854775807 := Nat.le_trans h.1.1 h.1.2.1
    have hd : decide (i < (xs.length : Int)) = true := decide_eq_true (by omega)
    clear h
    go_enter Tryz.func110, Tryz.ntmps110
    go_wp2
    go_ret
    exact ⟨rfl, rfl⟩
  · have hd : decide (i < (xs.length : Int)) = false := decide_eq_false (by omega)
    have HE := Lib.hid (dg_ge (xs := xs) (j := i.toNat) (by omega))
    clear h
    go_enter Tryz.func110, Tryz.ntmps110
    go_wp2
    go_ret
    exact ⟨by rw [HE.out]; rfl, rfl⟩

end Go.Proofs.YtocpncjmcaecoaaGreat.M
namespace Go.Proofs.YtocpncjmcaecoaaGreat.M
set_option maxRecDepth 10000
open Go.RowKit
set_option linter.unusedVariables false

theorem V_lt_of {x y : List Int} {j n : Nat} (hx : Lim x) (hy : Lim y) (hxn : x.length ≤ n) (hyn : y.length ≤ n) (hj : j < n) (hd : ∀ i, j + 1 ≤ i → dg x i = dg y i) (h : dg x j < dg y j) : V x < V y := by
  rw [← V_at hxn, ← V_at hyn]
  exact S_lt hx hy (i := j) hj (fun i h1 _ => hd i (by omega)) h
theorem V_eq_of {x y : List Int} (hd : ∀ i, dg x i = dg y i) : V x = V y := by
  rw [← V_at (xs := x) (n := max x.length y.length) (by omega), ← V_at (xs := y) (n := max x.length y.length) (by omega)]
  exact S_congr (fun i _ => hd i)

set_option maxHeartbeats 800000 in
theorem rcmp_ok (w : World) (A B : Option Addr) (c d : Nat) (xs ys : List Int) (hx : RN w A c xs) (hy : RN w B d ys) :
    Calls Tryz.prog 76 #[.slice A xs.length c, .slice B ys.length d] w (RetI (cmpI (V xs) (V ys)) w) := by
  have hmx : xs.length ≤ 9223372036854775807 := Nat.le_trans hx.1.1 hx.1.2.1
  have hmy : ys.length ≤ 9223372036854775807 := Nat.le_trans hy.1.1 hy.1.2.1
  have RX := Lib.hid hx
  have RY := Lib.hid hy
  clear hx hy
  go_enter Tryz.func76, Tryz.ntmps76
  go_upto_region 1 with fail
  go_cut [5] (fun s5 wx => s5 = .int .i64 (((max xs.length ys.length : Nat) : Int) - 1) ∧ w = wx)
  case first =>
    by_cases hm : (ys.length : Int) ≤ (xs.length : Int)
    · have hd : decide (ys.length ≤ xs.length) = true := decide_eq_true (by omega)
      have e : max xs.length ys.length = xs.length := Nat.max_eq_left (by omega)
      have HE := Lib.hid e
      clear e
      go_wp2_with fail
      go_meet
      exact ⟨by rw [HE.out], rfl⟩
    · have hd : decide (ys.length ≤ xs.length) = false := decide_eq_false (by omega)
      have e : max xs.length ys.length = ys.length := Nat.max_eq_right (by omega)
      have HE := Lib.hid e
      clear e
      go_wp2_with fail
      go_meet
      exact ⟨by rw [HE.out], rfl⟩
  case rest =>
    obtain ⟨rfl, rfl⟩ := hcut
    have h1 : xs.length ≤ max xs.length ys.length := by omega
    have h2 : ys.length ≤ max xs.length ys.length := by omega
    have h3 : max xs.length ys.length ≤ 9223372036854775807 := by omega
    generalize max xs.length ys.length = n at *
    go_wp2_with fail
    go_loopw [5] (fun iv wr => ∃ k : Nat, k ≤ n ∧ iv = .int .i64 ((k : Int) - 1) ∧ Hid (∀ j, k ≤ j → dg xs j = dg ys j) ∧ w = wr) (fun iv _ => (intOf iv + 1).toNat)
    case atStart => exact ⟨n, Nat.le_refl _, rfl, fun j hj => by rw [dg_ge (by omega), dg_ge (by omega)], rfl⟩
    case round =>
      obtain ⟨k, hk, rfl, HD, rfl⟩ := hrel
      by_cases h0 : k = 0
      · subst h0
        go_wp2_with fail
        go_ret
        exact ⟨0, rfl, by rw [cmpI_eq (V_eq_of (fun i => HD.out i (Nat.zero_le _)))]; rfl⟩
      · obtain ⟨j, rfl⟩ : ∃ j, k = j + 1 := ⟨k - 1, by omega⟩
        have ej : ((j + 1 : Nat) : Int) - 1 = (j : Int) := by omega
        rw [ej]
        clear ej h0
        have bx := (RX.out).2 j
        have by' := (RY.out).2 j
        go_wp2_with fail
        refine (limb_ok _ A c xs RX.out (j : Int) (by omega)).mono ?_
        rintro e w1 ⟨rfl, rfl⟩
        rw [Int.toNat_natCast]
        go_wp2_with fail
        refine (limb_ok _ B d ys RY.out (j : Int) (by omega)).mono ?_
        rintro e w1 ⟨rfl, rfl⟩
        rw [Int.toNat_natCast]
        rcases Int.lt_trichotomy (dg xs j) (dg ys j) with hlt | heq | hgt
        · have hd : decide (dg xs j < dg ys j) = true := decide_eq_true hlt
          have HLT := Lib.hid hlt
          clear hlt
          go_wp2_with fail
          go_ret
          exact ⟨0, rfl, by rw [cmpI_lt (V_lt_of RX.out.2 RY.out.2 h1 h2 (by omega) HD.out HLT.out)]; rfl⟩
        · have hd : decide (dg xs j < dg ys j) = false := decide_eq_false (by omega)
          have hd2 : decide (dg ys j < dg xs j) = false := decide_eq_false (by omega)
          have HLT := Lib.hid heq
          clear heq
          go_wp2_with fail
          go_roundw
          case rel =>
            refine ⟨j, by omega, rfl, fun i hi => ?_, by first | rfl | trivial⟩
            by_cases e : i = j
            · subst e; exact HLT.out
            · exact HD.out i (by omega)
          case measure => simp [intOf]
        · have hd : decide (dg xs j < dg ys j) = false := decide_eq_false (by omega)
          have hd2 : decide (dg ys j < dg xs j) = true := decide_eq_true (by omega)
          have HLT := Lib.hid hgt
          clear hgt
          go_wp2_with fail
          go_ret
          exact ⟨0, rfl, by rw [cmpI_gt (V_lt_of RY.out.2 RX.out.2 h2 h1 (by omega) (fun i hi => (HD.out i hi).symm) HLT.out)]; rfl⟩

end Go.Proofs.YtocpncjmcaecoaaGreat.M
namespace Go.Proofs.YtocpncjmcaecoaaGreat.M
set_option maxRecDepth 10000
open Go.RowKit
set_option linter.unusedVariables false

theorem Bk.drewN {w : World} {g e : Nat} {k : IntKind} {l : List Int} (h : Bk w g e k l) (n : Nat) : Bk (w.drewN n) g e k l := h

set_option maxHeartbeats 800000 in
theorem rmul_ok (w : World) (A B : Option Addr) (c d : Nat) (x y : List Int) (hx : RN w A c x) (hy : RN w B d y) (hs : x.length + y.length ≤ 70368744177664) :
    Calls Tryz.prog 68 #[.slice A x.length c, .slice B y.length d] w (RetN ((V x).toNat * (V y).toNat) w) := by
  obtain ⟨i0, hi, hz0, hz1, hz2⟩ := info_parts info_u32
  have RX := Lib.hid hx
  have RY := Lib.hid hy
  clear hx hy
  have hmk := mk_make 24 83 i0 .u32 Tryz.underlying24 hi hz0 hz1 ((x.length : Int) + (y.length : Int)) (by omega) (by rw [hz2]; omega) (by omega)
  rw [show ((x.length : Int) + (y.length : Int)).toNat = x.length + y.length from by omega] at hmk
  go_enter Tryz.func68, Tryz.ntmps68
  go_wp2_with fail
  clear hmk
  go_loopw [6] (fun i wr => ∃ (k : Nat) (p : List Int), k ≤ x.length ∧ i = .int .i64 (k : Int) ∧ Hid (p.length = x.length + y.length) ∧ Hid (MulI x y p k) ∧ Bk wr w.heap.size 83 .u32 p ∧ Hid (Below w.heap.size w wr)) (fun i _ => x.length - (intOf i).toNat)
  case atStart => exact ⟨0, List.replicate (x.length + y.length) 0, Nat.zero_le _, rfl, by simp [Hid], mul_start x y, Bk.made _, (Below.refl _ w).alloc (Nat.le_refl _) _⟩
  case round =>
    obtain ⟨k, p, hk, rfl, HL, HI, HB, HW⟩ := hrel
    obtain ⟨wo, rfl⟩ : ∃ wo : World, wo = wr := ⟨_, rfl⟩
    by_cases hlt : k < x.length
    · have bx := (RX.out).2 k
      go_wp2
      go_loopw [7, 8] (fun cv mv wr2 => ∃ (m : Nat) (q : Int) (p2 : List Int), m ≤ y.length ∧ mv = .int .i64 (m : Int) ∧ cv = .int .u64 q ∧ 0 ≤ q ∧ q ≤ 4294967295 ∧ Hid (p2.length = x.length + y.length) ∧ Hid (MulJ x y p2 k m q) ∧ Bk wr2 w.heap.size 83 .u32 p2 ∧ Hid (Below w.heap.size w wr2)) (fun _ mv _ => y.length - (intOf mv).toNat)
      case atStart => exact ⟨0, 0, p, Nat.zero_le _, rfl, rfl, Int.le_refl _, by omega, HL, mul_in HI.out, HB, HW⟩
      case round =>
        obtain ⟨m, q, p2, hm, rfl, rfl, hq0, hq1, HL2, HI2, HB2, HW2⟩ := hrel
        by_cases hlt2 : m < y.length
        · obtain ⟨ad, rfl, hcx⟩ := ((RX.out).below HW2.out).1.2.2 k hlt
          obtain ⟨bd, rfl, hcy⟩ := ((RY.out).below HW2.out).1.2.2 m hlt2
          have by' := (RY.out).2 m
          have bp := (HI2.out).1 (k + m)
          have bxy := mul_bound bx by'
          obtain ⟨hcp, hfp⟩ := HB2.cell (j := k + m) (by have := HL2.out; omega)
          have HS : Hid (MulJ x y (p2.set (k + m) ((dg p2 (k + m) + dg x k * dg y m + q) % 4294967296)) k (m + 1) ((dg p2 (k + m) + dg x k * dg y m + q) / 4294967296)) := by
            have h := mul_round HI2.out RX.out.2 RY.out.2 hlt2 HL2.out hlt
            rw [show q + (dg x k * dg y m + dg p2 (k + m)) = dg p2 (k + m) + dg x k * dg y m + q by omega] at h
            exact h
          go_wp2
          go_quiet (fail)
          go_wp2
          go_roundw
          case measure => simp [intOf]; omega
          case rel =>
            exact ⟨m + 1, _, p2.set (k + m) ((dg p2 (k + m) + dg x k * dg y m + q) % 4294967296), by omega, by go_num, rfl, by omega, by omega, by show _ = _; rw [List.length_set]; exact HL2.out, HS, (HB2.drewN _).set _ _, below_set (below_drewN HW2.out _) (Nat.le_refl _) _⟩
        · obtain rfl : m = y.length := by omega
          obtain ⟨hcp, hfp⟩ := HB2.cell (j := k + y.length) (by have := HL2.out; omega)
          have HS := Lib.hid (mul_out HI2.out HL2.out hlt)
          go_wp2
          go_roundw
          case measure => simp [intOf]; omega
          case rel => exact ⟨k + 1, p2.set (k + y.length) q, by omega, by go_num, by show _ = _; rw [List.length_set]; exact HL2.out, HS, HB2.set _ _, below_set HW2.out (Nat.le_refl _) _⟩
    · obtain rfl : k = x.length := by omega
      have hpl : p.length ≤ 70368744177664 := by have := HL.out; omega
      have hR := HB.reads (by omega)
      go_wp2_with fail
      rw [← HL.out]
      refine (rnorm_ok _ _ _ p ⟨hR, HI.out.1⟩ hpl).mono ?_
      rintro e w1 ⟨A1, c1, z, rfl, HZ, hz, hB⟩
      have HB1 := Lib.hid (below_seq HW.out hB)
      clear hR hB
      go_wp2
      go_ret
      refine ⟨_, _, z, rfl, ?_, hz, HB1.out⟩
      show z = _
      rw [HZ.out, HI.out.2.2]
      have h1 := V_nonneg RX.out.2
      have h2 := V_nonneg RY.out.2
      congr 1
      show (V x * V y).toNat = _
      rw [Int.toNat_mul h1 h2]

end Go.Proofs.YtocpncjmcaecoaaGreat.M
namespace Go.Proofs.YtocpncjmcaecoaaGreat.M
set_option maxRecDepth 10000
open Go.RowKit
set_option linter.unusedVariables false

/-- The reference's sum so far, in a row of n digits. -/
def RAddI (x y p : List Int) (n k : Nat) (q : Int) : Prop := Lim p ∧ p.length = n ∧ (∀ j, k ≤ j → dg p j = 0) ∧ V p + q * pw k = S (dg x) k + S (dg y) k
theorem radd_start (x y : List Int) (n : Nat) : RAddI x y (List.replicate n 0) n 0 0 := ⟨Lim.replicate _, by simp, fun j _ => dg_replicate _ j, by rw [V_replicate, S_zero, S_zero]; simp⟩
theorem radd_round {x y p : List Int} {n k : Nat} {q t : Int} (h : RAddI x y p n k q) (hk : k < n) (ht : dg x k + dg y k + q = t) (h0 : 0 ≤ t) : RAddI x y (p.set k (t % 4294967296)) n (k + 1) (t / 4294967296) := by
  obtain ⟨a1, a2, a3, a4⟩ := h
  refine ⟨a1.set _ (by omega) (by omega), by simp [a2], fun j hj => ?_, ?_⟩
  · rw [dg_set, if_neg (fun h => by have := h.1; omega)]; exact a3 j (by omega)
  · rw [V_set (by omega), a3 k (Nat.le_refl _), S_succ, S_succ, pw_succ, ← Int.mul_assoc, Int.sub_zero]
    have e : t % 4294967296 * pw k + t / 4294967296 * 4294967296 * pw k = t * pw k := by
      rw [← Int.add_mul]
      congr 1
      omega
    rw [← ht] at e ⊢
    rw [Int.add_mul, Int.add_mul] at e
    omega
theorem radd_end {x y p : List Int} {n : Nat} {q : Int} (h : RAddI x y p (n + 1) (n + 1) q) (hx : Lim x) (hy : Lim y) (hlx : x.length ≤ n) (hly : y.length ≤ n) (hq : 0 ≤ q) : V p = V x + V y := by
  obtain ⟨a1, a2, a3, a4⟩ := h
  rw [V_at (show x.length ≤ n + 1 by omega), V_at (show y.length ≤ n + 1 by omega)] at a4
  have h1 := V_lt hx
  have h2 := V_lt hy
  have h3 := pw_le hlx
  have h4 := pw_le hly
  have h5 := pw_pos n
  have h6 := V_nonneg a1
  rw [pw_succ] at a4
  rcases (show q = 0 ∨ 1 ≤ q by omega) with rfl | h7
  · rw [Int.zero_mul, Int.add_zero] at a4; exact a4
  · have : 1 * (4294967296 * pw n) ≤ q * (4294967296 * pw n) := Int.mul_le_mul_of_nonneg_right h7 (by omega)
    omega

set_option maxHeartbeats 800000 in
theorem radd_ok (w : World) (A B : Option Addr) (c d : Nat) (xs ys : List Int) (hx : RN w A c xs) (hy : RN w B d ys) (hsx : xs.length ≤ 70368744177663) (hsy : ys.length ≤ 70368744177663) :
    Calls Tryz.prog 99 #[.slice A xs.length c, .slice B ys.length d] w (RetN ((V xs).toNat + (V ys).toNat) w) := by
  obtain ⟨i0, hi, hz0, hz1, hz2⟩ := info_parts info_u32
  have RX := Lib.hid hx
  have RY := Lib.hid hy
  clear hx hy
  have h1 : xs.length ≤ max xs.length ys.length := by omega
  have h2 : ys.length ≤ max xs.length ys.length := by omega
  have h3 : max xs.length ys.length ≤ 70368744177663 := by omega
  have hmk := mk_make 24 83 i0 .u32 Tryz.underlying24 hi hz0 hz1 (((max xs.length ys.length : Nat) : Int) + 1) (by omega) (by rw [hz2]; omega) (by omega)
  rw [show (((max xs.length ys.length : Nat) : Int) + 1).toNat = max xs.length ys.length + 1 from by omega] at hmk
  have HMK := Lib.hid hmk
  clear hmk
  go_enter Tryz.func99, Tryz.ntmps99
  go_upto_region 1 with fail
  go_cut [5] (fun s5 wx => s5 = .slice (some ⟨w.heap.size, 0, none⟩) (max xs.length ys.length + 1) (max xs.length ys.length + 1) ∧ Bk wx w.heap.size 83 .u32 (List.replicate (max xs.length ys.length + 1) 0) ∧ Hid (Below w.heap.size w wx))
  case first =>
    have hbk := Lib.hid (Bk.made (w := w) (e := 83) (k := .u32) (max xs.length ys.length + 1))
    have hb0 : Hid (Below w.heap.size w (w.alloc (.cells (madeCells #[.int .u32 0] (max xs.length ys.length + 1)) 83 (0, 0)))) := (Below.refl _ w).alloc (Nat.le_refl _) _
    by_cases hm : (ys.length : Int) ≤ (xs.length : Int)
    · have hd : decide (ys.length ≤ xs.length) = true := decide_eq_true (by omega)
      have e : max xs.length ys.length = xs.length := Nat.max_eq_left (by omega)
      have hmk := HMK.out
      rw [e] at hmk hbk hb0
      have HE := Lib.hid e
      clear e
      go_wp2_with fail
      go_meet
      exact ⟨by rw [HE.out], by rw [HE.out]; exact hbk.out, hb0⟩
    · have hd : decide (ys.length ≤ xs.length) = false := decide_eq_false (by omega)
      have e : max xs.length ys.length = ys.length := Nat.max_eq_right (by omega)
      have hmk := HMK.out
      rw [e] at hmk hbk hb0
      have HE := Lib.hid e
      clear e
      go_wp2_with fail
      go_meet
      exact ⟨by rw [HE.out], by rw [HE.out]; exact hbk.out, hb0⟩
  case rest =>
    obtain ⟨rfl, hbk, hb0⟩ := hcut
    have HBK := Lib.hid hbk
    clear HMK hbk
    generalize max xs.length ys.length = n at *
    go_wp2_with fail
    go_loopw [6, 7] (fun qv iv wr => ∃ (k : Nat) (q : Int) (p : List Int), k ≤ n + 1 ∧ iv = .int .i64 (k : Int) ∧ qv = .int .u64 q ∧ 0 ≤ q ∧ q ≤ 1 ∧ Hid (RAddI xs ys p (n + 1) k q) ∧ Bk wr w.heap.size 83 .u32 p ∧ Hid (Below w.heap.size w wr)) (fun _ iv _ => n + 1 - (intOf iv).toNat)
    case atStart => exact ⟨0, 0, _, Nat.zero_le _, rfl, rfl, Int.le_refl _, by omega, radd_start xs ys (n + 1), HBK.out, hb0⟩
    case round =>
      clear HBK hb0
      obtain ⟨k, q, p, hk, rfl, rfl, hq0, hq1, HI, HB, HW⟩ := hrel
      by_cases hlt : k < n + 1
      · have bx := (RX.out).2 k
        have by' := (RY.out).2 k
        obtain ⟨hcp, hfp⟩ := HB.cell (j := k) (by have := HI.out.2.1; omega)
        have hlti : (k : Int) < (n : Int) + 1 := by omega
        have HS := Lib.hid (radd_round HI.out hlt rfl (by omega))
        go_wp2_with fail
        refine (limb_ok _ A c xs ((RX.out).below HW.out) (k : Int) (by omega)).mono ?_
        rintro e w1 ⟨rfl, rfl⟩
        rw [Int.toNat_natCast]
        go_wp2_with fail
        refine (limb_ok _ B d ys ((RY.out).below HW.out) (k : Int) (by omega)).mono ?_
        rintro e w1 ⟨rfl, rfl⟩
        rw [Int.toNat_natCast]
        go_wp2_with fail
        go_roundw
        case rel => exact ⟨k + 1, _, p.set k ((dg xs k + dg ys k + q) % 4294967296), by omega, by go_num, rfl, by omega, by omega, HS, HB.set _ _, below_set HW.out (Nat.le_refl _) _⟩
        case measure => simp [intOf]; omega
      · obtain rfl : k = n + 1 := by omega
        have hpl : p.length ≤ 70368744177664 := by have := HI.out.2.1; omega
        have hR := HB.reads (by omega)
        have e1 := radd_end HI.out RX.out.2 RY.out.2 h1 h2 hq0
        have n1 := V_nonneg RX.out.2
        have n2 := V_nonneg RY.out.2
        have e2 : (V p).toNat = (V xs).toNat + (V ys).toNat := by omega
        have HE := Lib.hid e2
        have HL := Lib.hid HI.out.2.1
        clear e1 e2 n1 n2
        go_wp2_with fail
        rw [← HL.out]
        refine (rnorm_ok _ _ _ p ⟨hR, HI.out.1⟩ hpl).mono ?_
        rintro e w1 ⟨A1, c1, z, rfl, HZ, hz, hB⟩
        have HB1 := Lib.hid (below_seq HW.out hB)
        clear hR hB
        go_wp2
        go_ret
        exact ⟨_, _, z, rfl, by show z = _; rw [HZ.out, HE.out], hz, HB1.out⟩

end Go.Proofs.YtocpncjmcaecoaaGreat.M
namespace Go.Proofs.YtocpncjmcaecoaaGreat.M
set_option maxRecDepth 10000
open Go.RowKit
set_option linter.unusedVariables false

theorem S_short {y : List Int} {n : Nat} (hy : Lim y) (h : V y < pw n) : S (dg y) n = V y := by
  rcases Nat.le_total y.length n with h1 | h1
  · exact V_at h1
  · have e : V y = S (dg y) n + pw n * S (fun j => dg y (n + j)) (y.length - n) := by
      rw [← S_split, show n + (y.length - n) = y.length by omega]
      rfl
    have h2 := (S_bound (f := dg y) (k := n) (fun j _ => hy j)).1
    have h3 := (S_bound (f := fun j => dg y (n + j)) (k := y.length - n) (fun j _ => hy _)).1
    have h4 := pw_pos n
    generalize S (fun j => dg y (n + j)) (y.length - n) = r at *
    rcases (show r = 0 ∨ 1 ≤ r by omega) with rfl | h5
    · rw [e, Int.mul_zero, Int.add_zero]
    · have : pw n * 1 ≤ pw n * r := Int.mul_le_mul_of_nonneg_left h5 (by omega)
      omega
theorem sub_end' {x y p : List Int} {q : Int} (h : SubI x y p x.length q) (hx : Lim x) (hy : Lim y) (hv : V y ≤ V x) (hq : 0 ≤ q) : V p = V x - V y := by
  obtain ⟨a1, a2, a3, a4⟩ := h
  have h0 := V_lt hx
  rw [S_short hy (by omega)] at a4
  have h1 := V_lt a1
  rw [a2] at h1
  have h2 := pw_pos x.length
  rcases (show q = 0 ∨ 1 ≤ q by omega) with rfl | h3
  · rw [Int.zero_mul, Int.sub_zero] at a4; exact a4
  · have : 1 * pw x.length ≤ q * pw x.length := Int.mul_le_mul_of_nonneg_right h3 (by omega)
    have a5 : V p - q * pw x.length = V x - V y := a4
    omega

set_option maxHeartbeats 800000 in
theorem rsub_no (w : World) (A B : Option Addr) (c d : Nat) (xs ys : List Int) (hx : RN w A c xs) (hy : RN w B d ys) (hv : V xs < V ys) :
    Calls Tryz.prog 100 #[.slice A xs.length c, .slice B ys.length d] w (RetNB 0 false w) := by
  have HV := Lib.hid hv
  clear hv
  go_enter Tryz.func100, Tryz.ntmps100
  go_wp2_with fail
  refine (rcmp_ok _ A B _ _ xs ys hx hy).mono ?_
  rintro e w1 ⟨n, rfl, rfl⟩
  rw [cmpI_lt HV.out]
  go_wp2_with fail
  go_ret2
  exact ⟨none, 0, [], rfl, rfl, RN.nil _, below_drewN (Below.refl _ _) _⟩

set_option maxHeartbeats 800000 in
theorem rsub_f (w : World) (A B : Option Addr) (c d : Nat) (x y : List Int) (hx : RN w A c x) (hy : RN w B d y) (hv : V y ≤ V x) (hs : x.length ≤ 70368744177664) :
    Calls Tryz.prog 100 #[.slice A x.length c, .slice B y.length d] w (RetFB ((V x).toNat - (V y).toNat) true w) := by
  obtain ⟨i0, hi, hz0, hz1, hz2⟩ := info_parts info_u32
  have HV := Lib.hid hv
  clear hv
  go_enter Tryz.func100, Tryz.ntmps100
  go_wp2_with fail
  refine (rcmp_ok _ A B _ _ x y hx hy).mono ?_
  rintro e w1 ⟨n, rfl, rfl⟩
  have hb : Below w.heap.size w (w.drewN n) := below_drewN (Below.refl _ _) _
  have hc : cmpI (V x) (V y) = 0 ∨ cmpI (V x) (V y) = 1 := by
    have := HV.out
    rcases (show V x = V y ∨ V y < V x by omega) with h | h
    · exact .inl (cmpI_eq h)
    · exact .inr (cmpI_gt h)
  have RX := Lib.hid (hx.below hb)
  have RY := Lib.hid (hy.below hb)
  have HB0 := Lib.hid hb
  clear hb hx hy
  have hmk := mk_make 24 83 i0 .u32 Tryz.underlying24 hi hz0 hz1 (x.length : Int) (by omega) (by rw [hz2]; omega) (by omega)
  rw [Int.toNat_natCast] at hmk
  have hc1 : decide (cmpI (V x) (V y) < 0) = false := by rcases hc with h | h <;> rw [h] <;> rfl
  clear hc
  go_wp2_with fail
  clear hmk hc1
  go_loopw [7, 8] (fun bv iv wr => ∃ (k : Nat) (q : Int) (p : List Int), k ≤ x.length ∧ iv = .int .i64 (k : Int) ∧ bv = .int .u64 q ∧ 0 ≤ q ∧ q ≤ 1 ∧ Hid (SubI x y p k q) ∧ Bk wr w.heap.size 83 .u32 p ∧ Hid (Below w.heap.size w wr)) (fun _ iv _ => x.length - (intOf iv).toNat)
  case atStart => exact ⟨0, 0, _, Nat.zero_le _, rfl, rfl, Int.le_refl _, by omega, sub_start x y, Bk.made (w := w.drewN n) _, HB0.out.alloc (Nat.le_refl _) _⟩
  case round =>
    obtain ⟨k, q, p, hk, rfl, rfl, hq0, hq1, HI, HB, HW⟩ := hrel
    have hW : Hid (Below (w.drewN n).heap.size (w.drewN n) wr) := ⟨HW.out.os, HW.out.tape, HW.out.output, HW.out.size, HW.out.block⟩
    by_cases hlt : k < x.length
    · have bx := (RX.out).2 k
      have by' := (RY.out).2 k
      obtain ⟨hcp, hfp⟩ := HB.cell (j := k) (by have := HI.out.2.1; omega)
      go_wp2_with fail
      refine (limb_ok _ A c x ((RX.out).below hW.out) (k : Int) (by omega)).mono ?_
      rintro e w1 ⟨rfl, rfl⟩
      rw [Int.toNat_natCast]
      go_wp2_with fail
      refine (limb_ok _ B d y ((RY.out).below hW.out) (k : Int) (by omega)).mono ?_
      rintro e w1 ⟨rfl, rfl⟩
      rw [Int.toNat_natCast]
      by_cases hb : dg x k < dg y k + q
      · have HS := Lib.hid (sub_round (q' := 1) HI.out hlt (show dg x k + 4294967296 - (dg y k + q) - 1 * 4294967296 = dg x k - (q + dg y k) by omega) (by omega) (by omega))
        go_wp2_with fail
        go_roundw
        case rel => exact ⟨k + 1, 1, p.set k (dg x k + 4294967296 - (dg y k + q)), by omega, by go_num, rfl, by omega, by omega, HS, by first | exact HB.set _ _ | (have := HB.set k (dg x k + 4294967296 - (dg y k + q)); simpa using this), by first | exact below_set HW.out (Nat.le_refl _) _⟩
        case measure => simp [intOf]; omega
      · have HS := Lib.hid (sub_round (q' := 0) HI.out hlt (show dg x k - (dg y k + q) - 0 * 4294967296 = dg x k - (q + dg y k) by omega) (by omega) (by omega))
        have hd : decide (dg x k < dg y k + q) = false := decide_eq_false hb
        go_wp2_with fail
        go_roundw
        case rel => exact ⟨k + 1, 0, p.set k (dg x k - (dg y k + q)), by omega, by go_num, rfl, by omega, by omega, HS, by first | exact HB.set _ _ | (have := HB.set k (dg x k - (dg y k + q)); simpa using this), by first | exact below_set HW.out (Nat.le_refl _) _⟩
        case measure => simp [intOf]; omega
    · obtain rfl : k = x.length := by omega
      have hpl : p.length = x.length := HI.out.2.1
      have hR := HB.reads (by omega)
      have hpl2 : p.length ≤ 70368744177664 := by omega
      have e4 := sub_end' HI.out RX.out.2 RY.out.2 HV.out hq0
      have e5 : (V p).toNat = (V x).toNat - (V y).toNat := by
        have h4 := V_nonneg RX.out.2
        have h5 := V_nonneg RY.out.2
        have := HV.out
        omega
      have HE := Lib.hid e5
      have HP := Lib.hid hpl
      clear e4 e5 hpl
      go_wp2_with fail
      rw [← HP.out]
      refine (rnorm_f _ _ _ p ⟨hR, HI.out.1⟩ hpl2).mono ?_
      rintro e w1 ⟨g1, c1, z, hg1, rfl, HZ, hz, hB⟩
      have HB1 := Lib.hid (below_seq HW.out hB)
      clear hR hB
      go_wp2_with fail
      go_ret2
      have hg2 := HW.out.size
      exact ⟨g1, _, z, Nat.le_trans hg2 hg1, rfl, by show z = _; rw [HZ.out, HE.out], hz, HB1.out⟩

theorem rsub_yes (w : World) (A B : Option Addr) (c d : Nat) (x y : List Int) (hx : RN w A c x) (hy : RN w B d y) (hv : V y ≤ V x) (hs : x.length ≤ 70368744177664) :
    Calls Tryz.prog 100 #[.slice A x.length c, .slice B y.length d] w (RetNB ((V x).toNat - (V y).toNat) true w) :=
  (rsub_f w A B c d x y hx hy hv hs).mono fun _ _ h => by
    obtain ⟨g, c, xs, _, h1, h2, h3, h4⟩ := h
    exact ⟨_, c, xs, h1, h2, h3, h4⟩

/-- A quotient and a remainder of 64 bits. -/
def RetNU64 (N : Nat) (r : Int) (w : World) (e : Ending) (w' : World) : Prop := ∃ A c xs, e = .returned (.tuple #[.slice A xs.length c, .int .u64 r]) ∧ Hid (xs = limbs N) ∧ RN w' A c xs ∧ Below w.heap.size w w'

set_option maxHeartbeats 800000 in
theorem rshort_ok (w : World) (A : Option Addr) (c : Nat) (xs : List Int) (d : Int) (hx : RN w A c xs) (hd0 : 0 < d) (hd1 : d ≤ 4294967295) (hs : xs.length ≤ 70368744177664) :
    Calls Tryz.prog 120 #[.slice A xs.length c, .int .u64 d] w (RetNU64 (V xs / d).toNat (V xs % d) w) := by
  obtain ⟨i0, hi, hz0, hz1, hz2⟩ := info_parts info_u32
  have RX := Lib.hid hx
  clear hx
  have hmk := mk_make 24 83 i0 .u32 Tryz.underlying24 hi hz0 hz1 (xs.length : Int) (by omega) (by rw [hz2]; omega) (by omega)
  rw [Int.toNat_natCast] at hmk
  go_enter Tryz.func120, Tryz.ntmps120
  go_wp2_with fail
  clear hmk
  go_loopw [7, 8] (fun rv iv wr => ∃ (k : Nat) (r : Int) (p : List Int), k ≤ xs.length ∧ iv = .int .i64 ((k : Int) - 1) ∧ rv = .int .u64 r ∧ 0 ≤ r ∧ r ≤ 4294967294 ∧ Hid (DivI xs p d k r) ∧ Bk wr w.heap.size 83 .u32 p ∧ Hid (Below w.heap.size w wr)) (fun _ iv _ => (intOf iv + 1).toNat)
  case atStart => exact ⟨xs.length, 0, _, Nat.le_refl _, rfl, rfl, Int.le_refl _, by omega, div_start xs hd0, Bk.made _, (Below.refl _ _).alloc (Nat.le_refl _) _⟩
  case round =>
    obtain ⟨k, r, p, hk, rfl, rfl, hr0, hr1, HI, HB, HW⟩ := hrel
    by_cases h0 : k = 0
    · subst h0
      have hpl : p.length = xs.length := HI.out.2.1
      have hR := HB.reads (by omega)
      have hpl2 : p.length ≤ 70368744177664 := by omega
      have HP := Lib.hid hpl
      clear hpl
      go_wp2_with fail
      rw [← HP.out]
      refine (rnorm_ok _ _ _ p ⟨hR, HI.out.1⟩ hpl2).mono ?_
      rintro e w1 ⟨A1, c1, z, rfl, HZ, hz, hB⟩
      have HB1 := Lib.hid (below_seq HW.out hB)
      clear hR hB
      go_wp2_with fail
      go_ret2
      obtain ⟨e1, e2⟩ := div_end HI.out
      refine ⟨_, _, z, ?_, ?_, hz, HB1.out⟩
      · rw [← e2]; rfl
      · show z = _
        rw [HZ.out, ← e1]
    · obtain ⟨j, rfl⟩ : ∃ j, k = j + 1 := ⟨k - 1, by omega⟩
      have ej : ((j + 1 : Nat) : Int) - 1 = (j : Int) := by omega
      rw [ej]
      clear ej h0
      obtain ⟨ad, rfl, hcx⟩ := ((RX.out).below HW.out).1.2.2 j (by omega)
      have bx := (RX.out).2 j
      obtain ⟨hcp, hfp⟩ := HB.cell (j := j) (by have := HI.out.2.1; omega)
      have HS := Lib.hid (div_round HI.out RX.out.2 (by omega) hd1 rfl)
      go_wp2_with fail
      go_roundw
      case rel =>
        have h2 := Int.emod_nonneg (r * 4294967296 + dg xs j) (by omega : d ≠ 0)
        have h3 := Int.emod_lt_of_pos (r * 4294967296 + dg xs j) hd0
        have hq := div_small_lt HI.out bx hd0
        rw [Int.emod_eq_of_lt hq.1 hq.2]
        exact ⟨j, _, p.set j ((r * 4294967296 + dg xs j) / d), by omega, rfl, rfl, h2, by omega, HS, HB.set _ _, below_set HW.out (Nat.le_refl _) _⟩
      case measure => simp [intOf]

end Go.Proofs.YtocpncjmcaecoaaGreat.M
