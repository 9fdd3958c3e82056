/- The law EquateShares: its walk. -/
import Derived.Test.YtocpncjmcaecoaaEqH
import Derived.Test.YtocpncjmcaecoaaShaP
namespace Go.Proofs.Ytocpncjmcaecoaa.M
set_option maxRecDepth 10000
open Go.RowKit
set_option linter.unusedVariables false
set_option linter.unusedSimpArgs false
theorem inv_szR {f : List Int} {p q : Rat} {e : Int} {n : Nat} (h : InvR f p q e) (hp : sz p n) : sz q (n + 20) := by
  rcases h with ⟨_, h, _⟩ | ⟨h0, ⟨_, h, _⟩ | ⟨_, ⟨k, h1, h2, _⟩ | ⟨_, h, _⟩⟩⟩
  · rw [h]; exact sz_zero.mono (by omega)
  · rw [h]; exact sz_zero.mono (by omega)
  · rw [h2]; exact inv_sz h0 hp h1.1 h1.2.1
  · rw [h]; exact sz_zero.mono (by omega)
theorem inv_bad {f : List Int} {p q : Rat} {e : Int} (h : InvR f p q e) (h0 : validE f ≠ 0) : e = validE f := by
  rcases h with ⟨_, _, h⟩ | ⟨h, _⟩
  · exact h
  · exact absurd h h0
theorem inv_out {f : List Int} {p q : Rat} {e : Int} (h : InvR f p q e) (h0 : validE f = 0) (hp : p < 0 ∨ 1 < p) : e = 3 := by
  rcases h with ⟨h, _⟩ | ⟨_, ⟨_, _, h⟩ | ⟨h, _⟩⟩
  · exact absurd h0 h
  · exact h
  · exact absurd hp h
theorem inv_in {f : List Int} {p q : Rat} {e : Int} (h : InvR f p q e) (h0 : validE f = 0) (hp : ¬ (p < 0 ∨ 1 < p)) : e = 0 ∧ rankQ f q = p := by
  obtain ⟨k, hk⟩ := inv_there h0 hp
  obtain ⟨h1, h2⟩ := invR_one (inv_hit h0 hp hk) h
  exact ⟨h2, by rw [h1]; exact rank_inv h0 hp hk⟩
theorem cmp_same (q : Rat) : cmpQ q q = 0 := by
  unfold cmpQ
  rw [if_neg Rat.lt_irrefl, if_pos rfl]

set_option maxHeartbeats 12800000 in
theorem shares_ok (w : World) (FA : Option Addr) (fc : Nat) (f : List Int) (hf : Rk w .i64 FA fc f) (xb : Bool) (xA xD : Option Addr) (xc xe : Nat) (xn xd : List Int) (hxn : RN w xA xc xn) (hxd : RN w xD xe xd) (sxn : xn.length ≤ 35184372088100) (sxd : xd.length ≤ 35184372088100) (yb : Bool) (yA yD : Option Addr) (yc ye : Nat) (yn yd : List Int) (hyn : RN w yA yc yn) (hyd : RN w yD ye yd) (syn : yn.length ≤ 35184372088100) (syd : yd.length ≤ 35184372088100) (pb : Bool) (pA pD : Option Addr) (pc pe : Nat) (pn pd : List Int) (hpn : RN w pA pc pn) (hpd : RN w pD pe pd) (spn : pn.length ≤ 35184372088100) (spd : pd.length ≤ 35184372088100) :
    Calls Try.prog 6 #[.slice FA f.length fc, .agg #[.bool xb, .slice xA xn.length xc, .slice xD xd.length xe], .agg #[.bool yb, .slice yA yn.length yc, .slice yD yd.length ye], .agg #[.bool pb, .slice pA pn.length pc, .slice pD pd.length pe]] w (RetT w) := by
  have HR := Lib.hid hf
  have hcl := hf.1
  have hcm := hf.2.1
  clear hf
  have N_x := Lib.hid hxn
  have D_x := Lib.hid hxd
  clear hxn hxd
  have N_y := Lib.hid hyn
  have D_y := Lib.hid hyd
  clear hyn hyd
  have N_p := Lib.hid hpn
  have D_p := Lib.hid hpd
  clear hpn hpd
  go_enter Try.func6, Try.ntmps6
  obtain ⟨E, hE⟩ : ∃ E, validE f = E := ⟨_, rfl⟩
  have HE := Lib.hid hE
  obtain ⟨qx, hqx⟩ : ∃ qx, qv xb xn xd = qx := ⟨_, rfl⟩
  obtain ⟨qy, hqy⟩ : ∃ qy, qv yb yn yd = qy := ⟨_, rfl⟩
  obtain ⟨qp, hqp⟩ : ∃ qp, qv pb pn pd = qp := ⟨_, rfl⟩
  have Q_x := Lib.hid hqx
  have Q_y := Lib.hid hqy
  have Q_p := Lib.hid hqp
  have Z_x : Hid (sz qx 35184372088101) := by show sz _ _; rw [← hqx]; exact sz_cells N_x.out.2 D_x.out.2 (by omega) (by omega)
  have Z_y : Hid (sz qy 35184372088101) := by show sz _ _; rw [← hqy]; exact sz_cells N_y.out.2 D_y.out.2 (by omega) (by omega)
  have Z_p : Hid (sz qp 35184372088101) := by show sz _ _; rw [← hqp]; exact sz_cells N_p.out.2 D_p.out.2 (by omega) (by omega)
  clear hE hqx hqy hqp
  go_upto_region 1 with fail
  obtain ⟨W, hW⟩ : ∃ W, W = (((w.alloc (.cells #[.bool xb, .slice xA xn.length xc, .slice xD xd.length xe] 28)).alloc (.cells #[.bool yb, .slice yA yn.length yc, .slice yD yd.length ye] 28)).alloc (.cells #[.bool pb, .slice pA pn.length pc, .slice pD pd.length pe] 28)) := ⟨_, rfl⟩
  rw [← hW]
  have H_W : Mo w W [(w.heap.size, 28, #[.bool xb, .slice xA xn.length xc, .slice xD xd.length xe]), (w.heap.size + 1, 28, #[.bool yb, .slice yA yn.length yc, .slice yD yd.length ye]), (w.heap.size + 1 + 1, 28, #[.bool pb, .slice pA pn.length pc, .slice pD pd.length pe])] [] := by
    rw [hW]
    have h := ((((Mo.start w).alloc (t := 28) (cs := #[.bool xb, .slice xA xn.length xc, .slice xD xd.length xe]) (nd_rat _ _ _ _ _ _ _)).alloc (t := 28) (cs := #[.bool yb, .slice yA yn.length yc, .slice yD yd.length ye]) (nd_rat _ _ _ _ _ _ _)).alloc (t := 28) (cs := #[.bool pb, .slice pA pn.length pc, .slice pD pd.length pe]) (nd_rat _ _ _ _ _ _ _))
    simp only [size_alloc, List.nil_append, List.cons_append] at h
    exact h
  clear hW
  obtain ⟨gW2, hgW2⟩ : ∃ g, w.heap.size + 1 + 1 = g := ⟨_, rfl⟩
  rw [hgW2] at H_W ⊢
  clear hgW2
  obtain ⟨gW1, hgW1⟩ : ∃ g, w.heap.size + 1 = g := ⟨_, rfl⟩
  rw [hgW1] at H_W ⊢
  clear hgW1
  have neW01 : w.heap.size ≠ gW1 := H_W.apart 0 1 _ _ _ _ _ _ rfl rfl (by decide)
  have neW02 : w.heap.size ≠ gW2 := H_W.apart 0 2 _ _ _ _ _ _ rfl rfl (by decide)
  have neW10 : gW1 ≠ w.heap.size := H_W.apart 1 0 _ _ _ _ _ _ rfl rfl (by decide)
  have neW12 : gW1 ≠ gW2 := H_W.apart 1 2 _ _ _ _ _ _ rfl rfl (by decide)
  have neW20 : gW2 ≠ w.heap.size := H_W.apart 2 0 _ _ _ _ _ _ rfl rfl (by decide)
  have neW21 : gW2 ≠ gW1 := H_W.apart 2 1 _ _ _ _ _ _ rfl rfl (by decide)
  have H_W := Lib.hid H_W
  go_cut [9, 10] (fun s9 s10 wc => ∃ (g1 g2 : Nat), s9 = .pointer (some ⟨g1, 0, none⟩) ∧ s10 = .pointer (some ⟨g2, 0, none⟩) ∧ Hid (Mo w wc [(w.heap.size, 28, #[.bool xb, .slice xA xn.length xc, .slice xD xd.length xe]), (gW1, 28, #[.bool yb, .slice yA yn.length yc, .slice yD yd.length ye]), (gW2, 28, #[.bool pb, .slice pA pn.length pc, .slice pD pd.length pe]), (g1, 28, #[.bool xb, .slice xA xn.length xc, .slice xD xd.length xe]), (g2, 28, #[.bool yb, .slice yA yn.length yc, .slice yD yd.length ye])] []))
  case first =>
    have k0Wc0 := ((H_W.out.var 0 rfl)).cell 0 rfl
    have k0Wc1 := ((H_W.out.var 0 rfl)).cell 1 rfl
    have k0Wc2 := ((H_W.out.var 0 rfl)).cell 2 rfl
    have k1Wc0 := ((H_W.out.var 1 rfl)).cell 0 rfl
    have k1Wc1 := ((H_W.out.var 1 rfl)).cell 1 rfl
    have k1Wc2 := ((H_W.out.var 1 rfl)).cell 2 rfl
    have neW01 : w.heap.size ≠ gW1 := H_W.out.apart 0 1 _ _ _ _ _ _ rfl rfl (by decide)
    have neW02 : w.heap.size ≠ gW2 := H_W.out.apart 0 2 _ _ _ _ _ _ rfl rfl (by decide)
    have neW10 : gW1 ≠ w.heap.size := H_W.out.apart 1 0 _ _ _ _ _ _ rfl rfl (by decide)
    have neW12 : gW1 ≠ gW2 := H_W.out.apart 1 2 _ _ _ _ _ _ rfl rfl (by decide)
    have neW20 : gW2 ≠ w.heap.size := H_W.out.apart 2 0 _ _ _ _ _ _ rfl rfl (by decide)
    have neW21 : gW2 ≠ gW1 := H_W.out.apart 2 1 _ _ _ _ _ _ rfl rfl (by decide)
    have H_Wd := Lib.hid H_W.out.drew
    try have p3c0 := ((((H_Wd.out).alloc' (t := 28) (cs := #[.bool false, .slice none 0 0, .slice none 0 0]) (W.heap.size) (by first | rfl | (simp only [size_alloc]; done) | (simp only [size_alloc]; rfl)) (nd_rat _ _ _ _ _ _ _))).var 3 rfl).cell 0 rfl
    try have p3f0 := ((((H_Wd.out).alloc' (t := 28) (cs := #[.bool false, .slice none 0 0, .slice none 0 0]) (W.heap.size) (by first | rfl | (simp only [size_alloc]; done) | (simp only [size_alloc]; rfl)) (nd_rat _ _ _ _ _ _ _))).var 3 rfl).thaw 0
    try have p3c1 := ((((H_Wd.out).alloc' (t := 28) (cs := #[.bool false, .slice none 0 0, .slice none 0 0]) (W.heap.size) (by first | rfl | (simp only [size_alloc]; done) | (simp only [size_alloc]; rfl)) (nd_rat _ _ _ _ _ _ _))).var 3 rfl).cell 1 rfl
    try have p3f1 := ((((H_Wd.out).alloc' (t := 28) (cs := #[.bool false, .slice none 0 0, .slice none 0 0]) (W.heap.size) (by first | rfl | (simp only [size_alloc]; done) | (simp only [size_alloc]; rfl)) (nd_rat _ _ _ _ _ _ _))).var 3 rfl).thaw 1
    try have p3c2 := ((((H_Wd.out).alloc' (t := 28) (cs := #[.bool false, .slice none 0 0, .slice none 0 0]) (W.heap.size) (by first | rfl | (simp only [size_alloc]; done) | (simp only [size_alloc]; rfl)) (nd_rat _ _ _ _ _ _ _))).var 3 rfl).cell 2 rfl
    try have p3f2 := ((((H_Wd.out).alloc' (t := 28) (cs := #[.bool false, .slice none 0 0, .slice none 0 0]) (W.heap.size) (by first | rfl | (simp only [size_alloc]; done) | (simp only [size_alloc]; rfl)) (nd_rat _ _ _ _ _ _ _))).var 3 rfl).thaw 2
    try have p4c0 := ((((H_Wd.out).alloc' (t := 28) (cs := #[.bool false, .slice none 0 0, .slice none 0 0]) (W.heap.size) (by first | rfl | (simp only [size_alloc]; done) | (simp only [size_alloc]; rfl)) (nd_rat _ _ _ _ _ _ _))).var 4 rfl).cell 0 rfl
    try have p4f0 := ((((H_Wd.out).alloc' (t := 28) (cs := #[.bool false, .slice none 0 0, .slice none 0 0]) (W.heap.size) (by first | rfl | (simp only [size_alloc]; done) | (simp only [size_alloc]; rfl)) (nd_rat _ _ _ _ _ _ _))).var 4 rfl).thaw 0
    try have p4c1 := ((((H_Wd.out).alloc' (t := 28) (cs := #[.bool false, .slice none 0 0, .slice none 0 0]) (W.heap.size) (by first | rfl | (simp only [size_alloc]; done) | (simp only [size_alloc]; rfl)) (nd_rat _ _ _ _ _ _ _))).var 4 rfl).cell 1 rfl
    try have p4f1 := ((((H_Wd.out).alloc' (t := 28) (cs := #[.bool false, .slice none 0 0, .slice none 0 0]) (W.heap.size) (by first | rfl | (simp only [size_alloc]; done) | (simp only [size_alloc]; rfl)) (nd_rat _ _ _ _ _ _ _))).var 4 rfl).thaw 1
    try have p4c2 := ((((H_Wd.out).alloc' (t := 28) (cs := #[.bool false, .slice none 0 0, .slice none 0 0]) (W.heap.size) (by first | rfl | (simp only [size_alloc]; done) | (simp only [size_alloc]; rfl)) (nd_rat _ _ _ _ _ _ _))).var 4 rfl).cell 2 rfl
    try have p4f2 := ((((H_Wd.out).alloc' (t := 28) (cs := #[.bool false, .slice none 0 0, .slice none 0 0]) (W.heap.size) (by first | rfl | (simp only [size_alloc]; done) | (simp only [size_alloc]; rfl)) (nd_rat _ _ _ _ _ _ _))).var 4 rfl).thaw 2
    try have pn01 := (((H_Wd.out).alloc' (t := 28) (cs := #[.bool false, .slice none 0 0, .slice none 0 0]) (W.heap.size) (by first | rfl | (simp only [size_alloc]; done) | (simp only [size_alloc]; rfl)) (nd_rat _ _ _ _ _ _ _))).apart 0 1 _ _ _ _ _ _ rfl rfl (by decide)
    try have pn02 := (((H_Wd.out).alloc' (t := 28) (cs := #[.bool false, .slice none 0 0, .slice none 0 0]) (W.heap.size) (by first | rfl | (simp only [size_alloc]; done) | (simp only [size_alloc]; rfl)) (nd_rat _ _ _ _ _ _ _))).apart 0 2 _ _ _ _ _ _ rfl rfl (by decide)
    try have pn03 := (((H_Wd.out).alloc' (t := 28) (cs := #[.bool false, .slice none 0 0, .slice none 0 0]) (W.heap.size) (by first | rfl | (simp only [size_alloc]; done) | (simp only [size_alloc]; rfl)) (nd_rat _ _ _ _ _ _ _))).apart 0 3 _ _ _ _ _ _ rfl rfl (by decide)
    try have pn04 := (((H_Wd.out).alloc' (t := 28) (cs := #[.bool false, .slice none 0 0, .slice none 0 0]) (W.heap.size) (by first | rfl | (simp only [size_alloc]; done) | (simp only [size_alloc]; rfl)) (nd_rat _ _ _ _ _ _ _))).apart 0 4 _ _ _ _ _ _ rfl rfl (by decide)
    try have pn10 := (((H_Wd.out).alloc' (t := 28) (cs := #[.bool false, .slice none 0 0, .slice none 0 0]) (W.heap.size) (by first | rfl | (simp only [size_alloc]; done) | (simp only [size_alloc]; rfl)) (nd_rat _ _ _ _ _ _ _))).apart 1 0 _ _ _ _ _ _ rfl rfl (by decide)
    try have pn12 := (((H_Wd.out).alloc' (t := 28) (cs := #[.bool false, .slice none 0 0, .slice none 0 0]) (W.heap.size) (by first | rfl | (simp only [size_alloc]; done) | (simp only [size_alloc]; rfl)) (nd_rat _ _ _ _ _ _ _))).apart 1 2 _ _ _ _ _ _ rfl rfl (by decide)
    try have pn13 := (((H_Wd.out).alloc' (t := 28) (cs := #[.bool false, .slice none 0 0, .slice none 0 0]) (W.heap.size) (by first | rfl | (simp only [size_alloc]; done) | (simp only [size_alloc]; rfl)) (nd_rat _ _ _ _ _ _ _))).apart 1 3 _ _ _ _ _ _ rfl rfl (by decide)
    try have pn14 := (((H_Wd.out).alloc' (t := 28) (cs := #[.bool false, .slice none 0 0, .slice none 0 0]) (W.heap.size) (by first | rfl | (simp only [size_alloc]; done) | (simp only [size_alloc]; rfl)) (nd_rat _ _ _ _ _ _ _))).apart 1 4 _ _ _ _ _ _ rfl rfl (by decide)
    try have pn20 := (((H_Wd.out).alloc' (t := 28) (cs := #[.bool false, .slice none 0 0, .slice none 0 0]) (W.heap.size) (by first | rfl | (simp only [size_alloc]; done) | (simp only [size_alloc]; rfl)) (nd_rat _ _ _ _ _ _ _))).apart 2 0 _ _ _ _ _ _ rfl rfl (by decide)
    try have pn21 := (((H_Wd.out).alloc' (t := 28) (cs := #[.bool false, .slice none 0 0, .slice none 0 0]) (W.heap.size) (by first | rfl | (simp only [size_alloc]; done) | (simp only [size_alloc]; rfl)) (nd_rat _ _ _ _ _ _ _))).apart 2 1 _ _ _ _ _ _ rfl rfl (by decide)
    try have pn23 := (((H_Wd.out).alloc' (t := 28) (cs := #[.bool false, .slice none 0 0, .slice none 0 0]) (W.heap.size) (by first | rfl | (simp only [size_alloc]; done) | (simp only [size_alloc]; rfl)) (nd_rat _ _ _ _ _ _ _))).apart 2 3 _ _ _ _ _ _ rfl rfl (by decide)
    try have pn24 := (((H_Wd.out).alloc' (t := 28) (cs := #[.bool false, .slice none 0 0, .slice none 0 0]) (W.heap.size) (by first | rfl | (simp only [size_alloc]; done) | (simp only [size_alloc]; rfl)) (nd_rat _ _ _ _ _ _ _))).apart 2 4 _ _ _ _ _ _ rfl rfl (by decide)
    try have pn30 := (((H_Wd.out).alloc' (t := 28) (cs := #[.bool false, .slice none 0 0, .slice none 0 0]) (W.heap.size) (by first | rfl | (simp only [size_alloc]; done) | (simp only [size_alloc]; rfl)) (nd_rat _ _ _ _ _ _ _))).apart 3 0 _ _ _ _ _ _ rfl rfl (by decide)
    try have pn31 := (((H_Wd.out).alloc' (t := 28) (cs := #[.bool false, .slice none 0 0, .slice none 0 0]) (W.heap.size) (by first | rfl | (simp only [size_alloc]; done) | (simp only [size_alloc]; rfl)) (nd_rat _ _ _ _ _ _ _))).apart 3 1 _ _ _ _ _ _ rfl rfl (by decide)
    try have pn32 := (((H_Wd.out).alloc' (t := 28) (cs := #[.bool false, .slice none 0 0, .slice none 0 0]) (W.heap.size) (by first | rfl | (simp only [size_alloc]; done) | (simp only [size_alloc]; rfl)) (nd_rat _ _ _ _ _ _ _))).apart 3 2 _ _ _ _ _ _ rfl rfl (by decide)
    try have pn34 := (((H_Wd.out).alloc' (t := 28) (cs := #[.bool false, .slice none 0 0, .slice none 0 0]) (W.heap.size) (by first | rfl | (simp only [size_alloc]; done) | (simp only [size_alloc]; rfl)) (nd_rat _ _ _ _ _ _ _))).apart 3 4 _ _ _ _ _ _ rfl rfl (by decide)
    try have pn40 := (((H_Wd.out).alloc' (t := 28) (cs := #[.bool false, .slice none 0 0, .slice none 0 0]) (W.heap.size) (by first | rfl | (simp only [size_alloc]; done) | (simp only [size_alloc]; rfl)) (nd_rat _ _ _ _ _ _ _))).apart 4 0 _ _ _ _ _ _ rfl rfl (by decide)
    try have pn41 := (((H_Wd.out).alloc' (t := 28) (cs := #[.bool false, .slice none 0 0, .slice none 0 0]) (W.heap.size) (by first | rfl | (simp only [size_alloc]; done) | (simp only [size_alloc]; rfl)) (nd_rat _ _ _ _ _ _ _))).apart 4 1 _ _ _ _ _ _ rfl rfl (by decide)
    try have pn42 := (((H_Wd.out).alloc' (t := 28) (cs := #[.bool false, .slice none 0 0, .slice none 0 0]) (W.heap.size) (by first | rfl | (simp only [size_alloc]; done) | (simp only [size_alloc]; rfl)) (nd_rat _ _ _ _ _ _ _))).apart 4 2 _ _ _ _ _ _ rfl rfl (by decide)
    try have pn43 := (((H_Wd.out).alloc' (t := 28) (cs := #[.bool false, .slice none 0 0, .slice none 0 0]) (W.heap.size) (by first | rfl | (simp only [size_alloc]; done) | (simp only [size_alloc]; rfl)) (nd_rat _ _ _ _ _ _ _))).apart 4 3 _ _ _ _ _ _ rfl rfl (by decide)
    try have q3c0 := ((((((H_Wd.out).alloc' (t := 28) (cs := #[.bool false, .slice none 0 0, .slice none 0 0]) (W.heap.size) (by first | rfl | (simp only [size_alloc]; done) | (simp only [size_alloc]; rfl)) (nd_rat _ _ _ _ _ _ _))).alloc' (t := 28) (cs := #[.bool false, .slice none 0 0, .slice none 0 0]) (W.heap.size + 1) (by first | rfl | (simp only [size_alloc]; done) | (simp only [size_alloc]; rfl)) (nd_rat _ _ _ _ _ _ _))).var 3 rfl).cell 0 rfl
    try have q3f0 := ((((((H_Wd.out).alloc' (t := 28) (cs := #[.bool false, .slice none 0 0, .slice none 0 0]) (W.heap.size) (by first | rfl | (simp only [size_alloc]; done) | (simp only [size_alloc]; rfl)) (nd_rat _ _ _ _ _ _ _))).alloc' (t := 28) (cs := #[.bool false, .slice none 0 0, .slice none 0 0]) (W.heap.size + 1) (by first | rfl | (simp only [size_alloc]; done) | (simp only [size_alloc]; rfl)) (nd_rat _ _ _ _ _ _ _))).var 3 rfl).thaw 0
    try have q3c1 := ((((((H_Wd.out).alloc' (t := 28) (cs := #[.bool false, .slice none 0 0, .slice none 0 0]) (W.heap.size) (by first | rfl | (simp only [size_alloc]; done) | (simp only [size_alloc]; rfl)) (nd_rat _ _ _ _ _ _ _))).alloc' (t := 28) (cs := #[.bool false, .slice none 0 0, .slice none 0 0]) (W.heap.size + 1) (by first | rfl | (simp only [size_alloc]; done) | (simp only [size_alloc]; rfl)) (nd_rat _ _ _ _ _ _ _))).var 3 rfl).cell 1 rfl
    try have q3f1 := ((((((H_Wd.out).alloc' (t := 28) (cs := #[.bool false, .slice none 0 0, .slice none 0 0]) (W.heap.size) (by first | rfl | (simp only [size_alloc]; done) | (simp only [size_alloc]; rfl)) (nd_rat _ _ _ _ _ _ _))).alloc' (t := 28) (cs := #[.bool false, .slice none 0 0, .slice none 0 0]) (W.heap.size + 1) (by first | rfl | (simp only [size_alloc]; done) | (simp only [size_alloc]; rfl)) (nd_rat _ _ _ _ _ _ _))).var 3 rfl).thaw 1
    try have q3c2 := ((((((H_Wd.out).alloc' (t := 28) (cs := #[.bool false, .slice none 0 0, .slice none 0 0]) (W.heap.size) (by first | rfl | (simp only [size_alloc]; done) | (simp only [size_alloc]; rfl)) (nd_rat _ _ _ _ _ _ _))).alloc' (t := 28) (cs := #[.bool false, .slice none 0 0, .slice none 0 0]) (W.heap.size + 1) (by first | rfl | (simp only [size_alloc]; done) | (simp only [size_alloc]; rfl)) (nd_rat _ _ _ _ _ _ _))).var 3 rfl).cell 2 rfl
    try have q3f2 := ((((((H_Wd.out).alloc' (t := 28) (cs := #[.bool false, .slice none 0 0, .slice none 0 0]) (W.heap.size) (by first | rfl | (simp only [size_alloc]; done) | (simp only [size_alloc]; rfl)) (nd_rat _ _ _ _ _ _ _))).alloc' (t := 28) (cs := #[.bool false, .slice none 0 0, .slice none 0 0]) (W.heap.size + 1) (by first | rfl | (simp only [size_alloc]; done) | (simp only [size_alloc]; rfl)) (nd_rat _ _ _ _ _ _ _))).var 3 rfl).thaw 2
    try have q4c0 := ((((((H_Wd.out).alloc' (t := 28) (cs := #[.bool false, .slice none 0 0, .slice none 0 0]) (W.heap.size) (by first | rfl | (simp only [size_alloc]; done) | (simp only [size_alloc]; rfl)) (nd_rat _ _ _ _ _ _ _))).alloc' (t := 28) (cs := #[.bool false, .slice none 0 0, .slice none 0 0]) (W.heap.size + 1) (by first | rfl | (simp only [size_alloc]; done) | (simp only [size_alloc]; rfl)) (nd_rat _ _ _ _ _ _ _))).var 4 rfl).cell 0 rfl
    try have q4f0 := ((((((H_Wd.out).alloc' (t := 28) (cs := #[.bool false, .slice none 0 0, .slice none 0 0]) (W.heap.size) (by first | rfl | (simp only [size_alloc]; done) | (simp only [size_alloc]; rfl)) (nd_rat _ _ _ _ _ _ _))).alloc' (t := 28) (cs := #[.bool false, .slice none 0 0, .slice none 0 0]) (W.heap.size + 1) (by first | rfl | (simp only [size_alloc]; done) | (simp only [size_alloc]; rfl)) (nd_rat _ _ _ _ _ _ _))).var 4 rfl).thaw 0
    try have q4c1 := ((((((H_Wd.out).alloc' (t := 28) (cs := #[.bool false, .slice none 0 0, .slice none 0 0]) (W.heap.size) (by first | rfl | (simp only [size_alloc]; done) | (simp only [size_alloc]; rfl)) (nd_rat _ _ _ _ _ _ _))).alloc' (t := 28) (cs := #[.bool false, .slice none 0 0, .slice none 0 0]) (W.heap.size + 1) (by first | rfl | (simp only [size_alloc]; done) | (simp only [size_alloc]; rfl)) (nd_rat _ _ _ _ _ _ _))).var 4 rfl).cell 1 rfl
    try have q4f1 := ((((((H_Wd.out).alloc' (t := 28) (cs := #[.bool false, .slice none 0 0, .slice none 0 0]) (W.heap.size) (by first | rfl | (simp only [size_alloc]; done) | (simp only [size_alloc]; rfl)) (nd_rat _ _ _ _ _ _ _))).alloc' (t := 28) (cs := #[.bool false, .slice none 0 0, .slice none 0 0]) (W.heap.size + 1) (by first | rfl | (simp only [size_alloc]; done) | (simp only [size_alloc]; rfl)) (nd_rat _ _ _ _ _ _ _))).var 4 rfl).thaw 1
    try have q4c2 := ((((((H_Wd.out).alloc' (t := 28) (cs := #[.bool false, .slice none 0 0, .slice none 0 0]) (W.heap.size) (by first | rfl | (simp only [size_alloc]; done) | (simp only [size_alloc]; rfl)) (nd_rat _ _ _ _ _ _ _))).alloc' (t := 28) (cs := #[.bool false, .slice none 0 0, .slice none 0 0]) (W.heap.size + 1) (by first | rfl | (simp only [size_alloc]; done) | (simp only [size_alloc]; rfl)) (nd_rat _ _ _ _ _ _ _))).var 4 rfl).cell 2 rfl
    try have q4f2 := ((((((H_Wd.out).alloc' (t := 28) (cs := #[.bool false, .slice none 0 0, .slice none 0 0]) (W.heap.size) (by first | rfl | (simp only [size_alloc]; done) | (simp only [size_alloc]; rfl)) (nd_rat _ _ _ _ _ _ _))).alloc' (t := 28) (cs := #[.bool false, .slice none 0 0, .slice none 0 0]) (W.heap.size + 1) (by first | rfl | (simp only [size_alloc]; done) | (simp only [size_alloc]; rfl)) (nd_rat _ _ _ _ _ _ _))).var 4 rfl).thaw 2
    try have qn01 := (((((H_Wd.out).alloc' (t := 28) (cs := #[.bool false, .slice none 0 0, .slice none 0 0]) (W.heap.size) (by first | rfl | (simp only [size_alloc]; done) | (simp only [size_alloc]; rfl)) (nd_rat _ _ _ _ _ _ _))).alloc' (t := 28) (cs := #[.bool false, .slice none 0 0, .slice none 0 0]) (W.heap.size + 1) (by first | rfl | (simp only [size_alloc]; done) | (simp only [size_alloc]; rfl)) (nd_rat _ _ _ _ _ _ _))).apart 0 1 _ _ _ _ _ _ rfl rfl (by decide)
    try have qn02 := (((((H_Wd.out).alloc' (t := 28) (cs := #[.bool false, .slice none 0 0, .slice none 0 0]) (W.heap.size) (by first | rfl | (simp only [size_alloc]; done) | (simp only [size_alloc]; rfl)) (nd_rat _ _ _ _ _ _ _))).alloc' (t := 28) (cs := #[.bool false, .slice none 0 0, .slice none 0 0]) (W.heap.size + 1) (by first | rfl | (simp only [size_alloc]; done) | (simp only [size_alloc]; rfl)) (nd_rat _ _ _ _ _ _ _))).apart 0 2 _ _ _ _ _ _ rfl rfl (by decide)
    try have qn03 := (((((H_Wd.out).alloc' (t := 28) (cs := #[.bool false, .slice none 0 0, .slice none 0 0]) (W.heap.size) (by first | rfl | (simp only [size_alloc]; done) | (simp only [size_alloc]; rfl)) (nd_rat _ _ _ _ _ _ _))).alloc' (t := 28) (cs := #[.bool false, .slice none 0 0, .slice none 0 0]) (W.heap.size + 1) (by first | rfl | (simp only [size_alloc]; done) | (simp only [size_alloc]; rfl)) (nd_rat _ _ _ _ _ _ _))).apart 0 3 _ _ _ _ _ _ rfl rfl (by decide)
    try have qn04 := (((((H_Wd.out).alloc' (t := 28) (cs := #[.bool false, .slice none 0 0, .slice none 0 0]) (W.heap.size) (by first | rfl | (simp only [size_alloc]; done) | (simp only [size_alloc]; rfl)) (nd_rat _ _ _ _ _ _ _))).alloc' (t := 28) (cs := #[.bool false, .slice none 0 0, .slice none 0 0]) (W.heap.size + 1) (by first | rfl | (simp only [size_alloc]; done) | (simp only [size_alloc]; rfl)) (nd_rat _ _ _ _ _ _ _))).apart 0 4 _ _ _ _ _ _ rfl rfl (by decide)
    try have qn10 := (((((H_Wd.out).alloc' (t := 28) (cs := #[.bool false, .slice none 0 0, .slice none 0 0]) (W.heap.size) (by first | rfl | (simp only [size_alloc]; done) | (simp only [size_alloc]; rfl)) (nd_rat _ _ _ _ _ _ _))).alloc' (t := 28) (cs := #[.bool false, .slice none 0 0, .slice none 0 0]) (W.heap.size + 1) (by first | rfl | (simp only [size_alloc]; done) | (simp only [size_alloc]; rfl)) (nd_rat _ _ _ _ _ _ _))).apart 1 0 _ _ _ _ _ _ rfl rfl (by decide)
    try have qn12 := (((((H_Wd.out).alloc' (t := 28) (cs := #[.bool false, .slice none 0 0, .slice none 0 0]) (W.heap.size) (by first | rfl | (simp only [size_alloc]; done) | (simp only [size_alloc]; rfl)) (nd_rat _ _ _ _ _ _ _))).alloc' (t := 28) (cs := #[.bool false, .slice none 0 0, .slice none 0 0]) (W.heap.size + 1) (by first | rfl | (simp only [size_alloc]; done) | (simp only [size_alloc]; rfl)) (nd_rat _ _ _ _ _ _ _))).apart 1 2 _ _ _ _ _ _ rfl rfl (by decide)
    try have qn13 := (((((H_Wd.out).alloc' (t := 28) (cs := #[.bool false, .slice none 0 0, .slice none 0 0]) (W.heap.size) (by first | rfl | (simp only [size_alloc]; done) | (simp only [size_alloc]; rfl)) (nd_rat _ _ _ _ _ _ _))).alloc' (t := 28) (cs := #[.bool false, .slice none 0 0, .slice none 0 0]) (W.heap.size + 1) (by first | rfl | (simp only [size_alloc]; done) | (simp only [size_alloc]; rfl)) (nd_rat _ _ _ _ _ _ _))).apart 1 3 _ _ _ _ _ _ rfl rfl (by decide)
    try have qn14 := (((((H_Wd.out).alloc' (t := 28) (cs := #[.bool false, .slice none 0 0, .slice none 0 0]) (W.heap.size) (by first | rfl | (simp only [size_alloc]; done) | (simp only [size_alloc]; rfl)) (nd_rat _ _ _ _ _ _ _))).alloc' (t := 28) (cs := #[.bool false, .slice none 0 0, .slice none 0 0]) (W.heap.size + 1) (by first | rfl | (simp only [size_alloc]; done) | (simp only [size_alloc]; rfl)) (nd_rat _ _ _ _ _ _ _))).apart 1 4 _ _ _ _ _ _ rfl rfl (by decide)
    try have qn20 := (((((H_Wd.out).alloc' (t := 28) (cs := #[.bool false, .slice none 0 0, .slice none 0 0]) (W.heap.size) (by first | rfl | (simp only [size_alloc]; done) | (simp only [size_alloc]; rfl)) (nd_rat _ _ _ _ _ _ _))).alloc' (t := 28) (cs := #[.bool false, .slice none 0 0, .slice none 0 0]) (W.heap.size + 1) (by first | rfl | (simp only [size_alloc]; done) | (simp only [size_alloc]; rfl)) (nd_rat _ _ _ _ _ _ _))).apart 2 0 _ _ _ _ _ _ rfl rfl (by decide)
    try have qn21 := (((((H_Wd.out).alloc' (t := 28) (cs := #[.bool false, .slice none 0 0, .slice none 0 0]) (W.heap.size) (by first | rfl | (simp only [size_alloc]; done) | (simp only [size_alloc]; rfl)) (nd_rat _ _ _ _ _ _ _))).alloc' (t := 28) (cs := #[.bool false, .slice none 0 0, .slice none 0 0]) (W.heap.size + 1) (by first | rfl | (simp only [size_alloc]; done) | (simp only [size_alloc]; rfl)) (nd_rat _ _ _ _ _ _ _))).apart 2 1 _ _ _ _ _ _ rfl rfl (by decide)
    try have qn23 := (((((H_Wd.out).alloc' (t := 28) (cs := #[.bool false, .slice none 0 0, .slice none 0 0]) (W.heap.size) (by first | rfl | (simp only [size_alloc]; done) | (simp only [size_alloc]; rfl)) (nd_rat _ _ _ _ _ _ _))).alloc' (t := 28) (cs := #[.bool false, .slice none 0 0, .slice none 0 0]) (W.heap.size + 1) (by first | rfl | (simp only [size_alloc]; done) | (simp only [size_alloc]; rfl)) (nd_rat _ _ _ _ _ _ _))).apart 2 3 _ _ _ _ _ _ rfl rfl (by decide)
    try have qn24 := (((((H_Wd.out).alloc' (t := 28) (cs := #[.bool false, .slice none 0 0, .slice none 0 0]) (W.heap.size) (by first | rfl | (simp only [size_alloc]; done) | (simp only [size_alloc]; rfl)) (nd_rat _ _ _ _ _ _ _))).alloc' (t := 28) (cs := #[.bool false, .slice none 0 0, .slice none 0 0]) (W.heap.size + 1) (by first | rfl | (simp only [size_alloc]; done) | (simp only [size_alloc]; rfl)) (nd_rat _ _ _ _ _ _ _))).apart 2 4 _ _ _ _ _ _ rfl rfl (by decide)
    try have qn30 := (((((H_Wd.out).alloc' (t := 28) (cs := #[.bool false, .slice none 0 0, .slice none 0 0]) (W.heap.size) (by first | rfl | (simp only [size_alloc]; done) | (simp only [size_alloc]; rfl)) (nd_rat _ _ _ _ _ _ _))).alloc' (t := 28) (cs := #[.bool false, .slice none 0 0, .slice none 0 0]) (W.heap.size + 1) (by first | rfl | (simp only [size_alloc]; done) | (simp only [size_alloc]; rfl)) (nd_rat _ _ _ _ _ _ _))).apart 3 0 _ _ _ _ _ _ rfl rfl (by decide)
    try have qn31 := (((((H_Wd.out).alloc' (t := 28) (cs := #[.bool false, .slice none 0 0, .slice none 0 0]) (W.heap.size) (by first | rfl | (simp only [size_alloc]; done) | (simp only [size_alloc]; rfl)) (nd_rat _ _ _ _ _ _ _))).alloc' (t := 28) (cs := #[.bool false, .slice none 0 0, .slice none 0 0]) (W.heap.size + 1) (by first | rfl | (simp only [size_alloc]; done) | (simp only [size_alloc]; rfl)) (nd_rat _ _ _ _ _ _ _))).apart 3 1 _ _ _ _ _ _ rfl rfl (by decide)
    try have qn32 := (((((H_Wd.out).alloc' (t := 28) (cs := #[.bool false, .slice none 0 0, .slice none 0 0]) (W.heap.size) (by first | rfl | (simp only [size_alloc]; done) | (simp only [size_alloc]; rfl)) (nd_rat _ _ _ _ _ _ _))).alloc' (t := 28) (cs := #[.bool false, .slice none 0 0, .slice none 0 0]) (W.heap.size + 1) (by first | rfl | (simp only [size_alloc]; done) | (simp only [size_alloc]; rfl)) (nd_rat _ _ _ _ _ _ _))).apart 3 2 _ _ _ _ _ _ rfl rfl (by decide)
    try have qn34 := (((((H_Wd.out).alloc' (t := 28) (cs := #[.bool false, .slice none 0 0, .slice none 0 0]) (W.heap.size) (by first | rfl | (simp only [size_alloc]; done) | (simp only [size_alloc]; rfl)) (nd_rat _ _ _ _ _ _ _))).alloc' (t := 28) (cs := #[.bool false, .slice none 0 0, .slice none 0 0]) (W.heap.size + 1) (by first | rfl | (simp only [size_alloc]; done) | (simp only [size_alloc]; rfl)) (nd_rat _ _ _ _ _ _ _))).apart 3 4 _ _ _ _ _ _ rfl rfl (by decide)
    try have qn40 := (((((H_Wd.out).alloc' (t := 28) (cs := #[.bool false, .slice none 0 0, .slice none 0 0]) (W.heap.size) (by first | rfl | (simp only [size_alloc]; done) | (simp only [size_alloc]; rfl)) (nd_rat _ _ _ _ _ _ _))).alloc' (t := 28) (cs := #[.bool false, .slice none 0 0, .slice none 0 0]) (W.heap.size + 1) (by first | rfl | (simp only [size_alloc]; done) | (simp only [size_alloc]; rfl)) (nd_rat _ _ _ _ _ _ _))).apart 4 0 _ _ _ _ _ _ rfl rfl (by decide)
    try have qn41 := (((((H_Wd.out).alloc' (t := 28) (cs := #[.bool false, .slice none 0 0, .slice none 0 0]) (W.heap.size) (by first | rfl | (simp only [size_alloc]; done) | (simp only [size_alloc]; rfl)) (nd_rat _ _ _ _ _ _ _))).alloc' (t := 28) (cs := #[.bool false, .slice none 0 0, .slice none 0 0]) (W.heap.size + 1) (by first | rfl | (simp only [size_alloc]; done) | (simp only [size_alloc]; rfl)) (nd_rat _ _ _ _ _ _ _))).apart 4 1 _ _ _ _ _ _ rfl rfl (by decide)
    try have qn42 := (((((H_Wd.out).alloc' (t := 28) (cs := #[.bool false, .slice none 0 0, .slice none 0 0]) (W.heap.size) (by first | rfl | (simp only [size_alloc]; done) | (simp only [size_alloc]; rfl)) (nd_rat _ _ _ _ _ _ _))).alloc' (t := 28) (cs := #[.bool false, .slice none 0 0, .slice none 0 0]) (W.heap.size + 1) (by first | rfl | (simp only [size_alloc]; done) | (simp only [size_alloc]; rfl)) (nd_rat _ _ _ _ _ _ _))).apart 4 2 _ _ _ _ _ _ rfl rfl (by decide)
    try have qn43 := (((((H_Wd.out).alloc' (t := 28) (cs := #[.bool false, .slice none 0 0, .slice none 0 0]) (W.heap.size) (by first | rfl | (simp only [size_alloc]; done) | (simp only [size_alloc]; rfl)) (nd_rat _ _ _ _ _ _ _))).alloc' (t := 28) (cs := #[.bool false, .slice none 0 0, .slice none 0 0]) (W.heap.size + 1) (by first | rfl | (simp only [size_alloc]; done) | (simp only [size_alloc]; rfl)) (nd_rat _ _ _ _ _ _ _))).apart 4 3 _ _ _ _ _ _ rfl rfl (by decide)
    try have r3c0 := ((((((H_Wd.out).alloc' (t := 28) (cs := #[.bool false, .slice none 0 0, .slice none 0 0]) (W.heap.size) (by first | rfl | (simp only [size_alloc]; done) | (simp only [size_alloc]; rfl)) (nd_rat _ _ _ _ _ _ _))).alloc' (t := 28) (cs := #[.bool yb, .slice yA yn.length yc, .slice yD yd.length ye]) (W.heap.size + 1) (by first | rfl | (simp only [size_alloc]; done) | (simp only [size_alloc]; rfl)) (nd_rat _ _ _ _ _ _ _))).var 3 rfl).cell 0 rfl
    try have r3f0 := ((((((H_Wd.out).alloc' (t := 28) (cs := #[.bool false, .slice none 0 0, .slice none 0 0]) (W.heap.size) (by first | rfl | (simp only [size_alloc]; done) | (simp only [size_alloc]; rfl)) (nd_rat _ _ _ _ _ _ _))).alloc' (t := 28) (cs := #[.bool yb, .slice yA yn.length yc, .slice yD yd.length ye]) (W.heap.size + 1) (by first | rfl | (simp only [size_alloc]; done) | (simp only [size_alloc]; rfl)) (nd_rat _ _ _ _ _ _ _))).var 3 rfl).thaw 0
    try have r3c1 := ((((((H_Wd.out).alloc' (t := 28) (cs := #[.bool false, .slice none 0 0, .slice none 0 0]) (W.heap.size) (by first | rfl | (simp only [size_alloc]; done) | (simp only [size_alloc]; rfl)) (nd_rat _ _ _ _ _ _ _))).alloc' (t := 28) (cs := #[.bool yb, .slice yA yn.length yc, .slice yD yd.length ye]) (W.heap.size + 1) (by first | rfl | (simp only [size_alloc]; done) | (simp only [size_alloc]; rfl)) (nd_rat _ _ _ _ _ _ _))).var 3 rfl).cell 1 rfl
    try have r3f1 := ((((((H_Wd.out).alloc' (t := 28) (cs := #[.bool false, .slice none 0 0, .slice none 0 0]) (W.heap.size) (by first | rfl | (simp only [size_alloc]; done) | (simp only [size_alloc]; rfl)) (nd_rat _ _ _ _ _ _ _))).alloc' (t := 28) (cs := #[.bool yb, .slice yA yn.length yc, .slice yD yd.length ye]) (W.heap.size + 1) (by first | rfl | (simp only [size_alloc]; done) | (simp only [size_alloc]; rfl)) (nd_rat _ _ _ _ _ _ _))).var 3 rfl).thaw 1
    try have r3c2 := ((((((H_Wd.out).alloc' (t := 28) (cs := #[.bool false, .slice none 0 0, .slice none 0 0]) (W.heap.size) (by first | rfl | (simp only [size_alloc]; done) | (simp only [size_alloc]; rfl)) (nd_rat _ _ _ _ _ _ _))).alloc' (t := 28) (cs := #[.bool yb, .slice yA yn.length yc, .slice yD yd.length ye]) (W.heap.size + 1) (by first | rfl | (simp only [size_alloc]; done) | (simp only [size_alloc]; rfl)) (nd_rat _ _ _ _ _ _ _))).var 3 rfl).cell 2 rfl
    try have r3f2 := ((((((H_Wd.out).alloc' (t := 28) (cs := #[.bool false, .slice none 0 0, .slice none 0 0]) (W.heap.size) (by first | rfl | (simp only [size_alloc]; done) | (simp only [size_alloc]; rfl)) (nd_rat _ _ _ _ _ _ _))).alloc' (t := 28) (cs := #[.bool yb, .slice yA yn.length yc, .slice yD yd.length ye]) (W.heap.size + 1) (by first | rfl | (simp only [size_alloc]; done) | (simp only [size_alloc]; rfl)) (nd_rat _ _ _ _ _ _ _))).var 3 rfl).thaw 2
    try have r4c0 := ((((((H_Wd.out).alloc' (t := 28) (cs := #[.bool false, .slice none 0 0, .slice none 0 0]) (W.heap.size) (by first | rfl | (simp only [size_alloc]; done) | (simp only [size_alloc]; rfl)) (nd_rat _ _ _ _ _ _ _))).alloc' (t := 28) (cs := #[.bool yb, .slice yA yn.length yc, .slice yD yd.length ye]) (W.heap.size + 1) (by first | rfl | (simp only [size_alloc]; done) | (simp only [size_alloc]; rfl)) (nd_rat _ _ _ _ _ _ _))).var 4 rfl).cell 0 rfl
    try have r4f0 := ((((((H_Wd.out).alloc' (t := 28) (cs := #[.bool false, .slice none 0 0, .slice none 0 0]) (W.heap.size) (by first | rfl | (simp only [size_alloc]; done) | (simp only [size_alloc]; rfl)) (nd_rat _ _ _ _ _ _ _))).alloc' (t := 28) (cs := #[.bool yb, .slice yA yn.length yc, .slice yD yd.length ye]) (W.heap.size + 1) (by first | rfl | (simp only [size_alloc]; done) | (simp only [size_alloc]; rfl)) (nd_rat _ _ _ _ _ _ _))).var 4 rfl).thaw 0
    try have r4c1 := ((((((H_Wd.out).alloc' (t := 28) (cs := #[.bool false, .slice none 0 0, .slice none 0 0]) (W.heap.size) (by first | rfl | (simp only [size_alloc]; done) | (simp only [size_alloc]; rfl)) (nd_rat _ _ _ _ _ _ _))).alloc' (t := 28) (cs := #[.bool yb, .slice yA yn.length yc, .slice yD yd.length ye]) (W.heap.size + 1) (by first | rfl | (simp only [size_alloc]; done) | (simp only [size_alloc]; rfl)) (nd_rat _ _ _ _ _ _ _))).var 4 rfl).cell 1 rfl
    try have r4f1 := ((((((H_Wd.out).alloc' (t := 28) (cs := #[.bool false, .slice none 0 0, .slice none 0 0]) (W.heap.size) (by first | rfl | (simp only [size_alloc]; done) | (simp only [size_alloc]; rfl)) (nd_rat _ _ _ _ _ _ _))).alloc' (t := 28) (cs := #[.bool yb, .slice yA yn.length yc, .slice yD yd.length ye]) (W.heap.size + 1) (by first | rfl | (simp only [size_alloc]; done) | (simp only [size_alloc]; rfl)) (nd_rat _ _ _ _ _ _ _))).var 4 rfl).thaw 1
    try have r4c2 := ((((((H_Wd.out).alloc' (t := 28) (cs := #[.bool false, .slice none 0 0, .slice none 0 0]) (W.heap.size) (by first | rfl | (simp only [size_alloc]; done) | (simp only [size_alloc]; rfl)) (nd_rat _ _ _ _ _ _ _))).alloc' (t := 28) (cs := #[.bool yb, .slice yA yn.length yc, .slice yD yd.length ye]) (W.heap.size + 1) (by first | rfl | (simp only [size_alloc]; done) | (simp only [size_alloc]; rfl)) (nd_rat _ _ _ _ _ _ _))).var 4 rfl).cell 2 rfl
    try have r4f2 := ((((((H_Wd.out).alloc' (t := 28) (cs := #[.bool false, .slice none 0 0, .slice none 0 0]) (W.heap.size) (by first | rfl | (simp only [size_alloc]; done) | (simp only [size_alloc]; rfl)) (nd_rat _ _ _ _ _ _ _))).alloc' (t := 28) (cs := #[.bool yb, .slice yA yn.length yc, .slice yD yd.length ye]) (W.heap.size + 1) (by first | rfl | (simp only [size_alloc]; done) | (simp only [size_alloc]; rfl)) (nd_rat _ _ _ _ _ _ _))).var 4 rfl).thaw 2
    try have s3c0 := ((((((H_Wd.out).alloc' (t := 28) (cs := #[.bool false, .slice none 0 0, .slice none 0 0]) (W.heap.size) (by first | rfl | (simp only [size_alloc]; done) | (simp only [size_alloc]; rfl)) (nd_rat _ _ _ _ _ _ _))).alloc' (t := 28) (cs := #[.bool xb, .slice xA xn.length xc, .slice xD xd.length xe]) (W.heap.size + 1) (by first | rfl | (simp only [size_alloc]; done) | (simp only [size_alloc]; rfl)) (nd_rat _ _ _ _ _ _ _))).var 3 rfl).cell 0 rfl
    try have s3f0 := ((((((H_Wd.out).alloc' (t := 28) (cs := #[.bool false, .slice none 0 0, .slice none 0 0]) (W.heap.size) (by first | rfl | (simp only [size_alloc]; done) | (simp only [size_alloc]; rfl)) (nd_rat _ _ _ _ _ _ _))).alloc' (t := 28) (cs := #[.bool xb, .slice xA xn.length xc, .slice xD xd.length xe]) (W.heap.size + 1) (by first | rfl | (simp only [size_alloc]; done) | (simp only [size_alloc]; rfl)) (nd_rat _ _ _ _ _ _ _))).var 3 rfl).thaw 0
    try have s3c1 := ((((((H_Wd.out).alloc' (t := 28) (cs := #[.bool false, .slice none 0 0, .slice none 0 0]) (W.heap.size) (by first | rfl | (simp only [size_alloc]; done) | (simp only [size_alloc]; rfl)) (nd_rat _ _ _ _ _ _ _))).alloc' (t := 28) (cs := #[.bool xb, .slice xA xn.length xc, .slice xD xd.length xe]) (W.heap.size + 1) (by first | rfl | (simp only [size_alloc]; done) | (simp only [size_alloc]; rfl)) (nd_rat _ _ _ _ _ _ _))).var 3 rfl).cell 1 rfl
    try have s3f1 := ((((((H_Wd.out).alloc' (t := 28) (cs := #[.bool false, .slice none 0 0, .slice none 0 0]) (W.heap.size) (by first | rfl | (simp only [size_alloc]; done) | (simp only [size_alloc]; rfl)) (nd_rat _ _ _ _ _ _ _))).alloc' (t := 28) (cs := #[.bool xb, .slice xA xn.length xc, .slice xD xd.length xe]) (W.heap.size + 1) (by first | rfl | (simp only [size_alloc]; done) | (simp only [size_alloc]; rfl)) (nd_rat _ _ _ _ _ _ _))).var 3 rfl).thaw 1
    try have s3c2 := ((((((H_Wd.out).alloc' (t := 28) (cs := #[.bool false, .slice none 0 0, .slice none 0 0]) (W.heap.size) (by first | rfl | (simp only [size_alloc]; done) | (simp only [size_alloc]; rfl)) (nd_rat _ _ _ _ _ _ _))).alloc' (t := 28) (cs := #[.bool xb, .slice xA xn.length xc, .slice xD xd.length xe]) (W.heap.size + 1) (by first | rfl | (simp only [size_alloc]; done) | (simp only [size_alloc]; rfl)) (nd_rat _ _ _ _ _ _ _))).var 3 rfl).cell 2 rfl
    try have s3f2 := ((((((H_Wd.out).alloc' (t := 28) (cs := #[.bool false, .slice none 0 0, .slice none 0 0]) (W.heap.size) (by first | rfl | (simp only [size_alloc]; done) | (simp only [size_alloc]; rfl)) (nd_rat _ _ _ _ _ _ _))).alloc' (t := 28) (cs := #[.bool xb, .slice xA xn.length xc, .slice xD xd.length xe]) (W.heap.size + 1) (by first | rfl | (simp only [size_alloc]; done) | (simp only [size_alloc]; rfl)) (nd_rat _ _ _ _ _ _ _))).var 3 rfl).thaw 2
    try have s4c0 := ((((((H_Wd.out).alloc' (t := 28) (cs := #[.bool false, .slice none 0 0, .slice none 0 0]) (W.heap.size) (by first | rfl | (simp only [size_alloc]; done) | (simp only [size_alloc]; rfl)) (nd_rat _ _ _ _ _ _ _))).alloc' (t := 28) (cs := #[.bool xb, .slice xA xn.length xc, .slice xD xd.length xe]) (W.heap.size + 1) (by first | rfl | (simp only [size_alloc]; done) | (simp only [size_alloc]; rfl)) (nd_rat _ _ _ _ _ _ _))).var 4 rfl).cell 0 rfl
    try have s4f0 := ((((((H_Wd.out).alloc' (t := 28) (cs := #[.bool false, .slice none 0 0, .slice none 0 0]) (W.heap.size) (by first | rfl | (simp only [size_alloc]; done) | (simp only [size_alloc]; rfl)) (nd_rat _ _ _ _ _ _ _))).alloc' (t := 28) (cs := #[.bool xb, .slice xA xn.length xc, .slice xD xd.length xe]) (W.heap.size + 1) (by first | rfl | (simp only [size_alloc]; done) | (simp only [size_alloc]; rfl)) (nd_rat _ _ _ _ _ _ _))).var 4 rfl).thaw 0
    try have s4c1 := ((((((H_Wd.out).alloc' (t := 28) (cs := #[.bool false, .slice none 0 0, .slice none 0 0]) (W.heap.size) (by first | rfl | (simp only [size_alloc]; done) | (simp only [size_alloc]; rfl)) (nd_rat _ _ _ _ _ _ _))).alloc' (t := 28) (cs := #[.bool xb, .slice xA xn.length xc, .slice xD xd.length xe]) (W.heap.size + 1) (by first | rfl | (simp only [size_alloc]; done) | (simp only [size_alloc]; rfl)) (nd_rat _ _ _ _ _ _ _))).var 4 rfl).cell 1 rfl
    try have s4f1 := ((((((H_Wd.out).alloc' (t := 28) (cs := #[.bool false, .slice none 0 0, .slice none 0 0]) (W.heap.size) (by first | rfl | (simp only [size_alloc]; done) | (simp only [size_alloc]; rfl)) (nd_rat _ _ _ _ _ _ _))).alloc' (t := 28) (cs := #[.bool xb, .slice xA xn.length xc, .slice xD xd.length xe]) (W.heap.size + 1) (by first | rfl | (simp only [size_alloc]; done) | (simp only [size_alloc]; rfl)) (nd_rat _ _ _ _ _ _ _))).var 4 rfl).thaw 1
    try have s4c2 := ((((((H_Wd.out).alloc' (t := 28) (cs := #[.bool false, .slice none 0 0, .slice none 0 0]) (W.heap.size) (by first | rfl | (simp only [size_alloc]; done) | (simp only [size_alloc]; rfl)) (nd_rat _ _ _ _ _ _ _))).alloc' (t := 28) (cs := #[.bool xb, .slice xA xn.length xc, .slice xD xd.length xe]) (W.heap.size + 1) (by first | rfl | (simp only [size_alloc]; done) | (simp only [size_alloc]; rfl)) (nd_rat _ _ _ _ _ _ _))).var 4 rfl).cell 2 rfl
    try have s4f2 := ((((((H_Wd.out).alloc' (t := 28) (cs := #[.bool false, .slice none 0 0, .slice none 0 0]) (W.heap.size) (by first | rfl | (simp only [size_alloc]; done) | (simp only [size_alloc]; rfl)) (nd_rat _ _ _ _ _ _ _))).alloc' (t := 28) (cs := #[.bool xb, .slice xA xn.length xc, .slice xD xd.length xe]) (W.heap.size + 1) (by first | rfl | (simp only [size_alloc]; done) | (simp only [size_alloc]; rfl)) (nd_rat _ _ _ _ _ _ _))).var 4 rfl).thaw 2
    go_region_held3 (fun w' => w'.cell? ⟨w.heap.size, 0, none⟩ = some (.bool xb) ∧ w'.cell? ⟨w.heap.size, 1, none⟩ = some (.slice xA xn.length xc) ∧ w'.cell? ⟨w.heap.size, 2, none⟩ = some (.slice xD xd.length xe) ∧ w'.cell? ⟨gW1, 0, none⟩ = some (.bool yb) ∧ w'.cell? ⟨gW1, 1, none⟩ = some (.slice yA yn.length yc) ∧ w'.cell? ⟨gW1, 2, none⟩ = some (.slice yD yd.length ye)) (go_keep) (fail)
    all_goals (go_wp2_with fail; go_meet)
    · exact ⟨_, _, rfl, rfl, ((((H_Wd.out).alloc' (t := 28) (cs := #[.bool xb, .slice xA xn.length xc, .slice xD xd.length xe]) (W.heap.size) (by first | rfl | (simp only [size_alloc]; done) | (simp only [size_alloc]; rfl)) (nd_rat _ _ _ _ _ _ _))).alloc' (t := 28) (cs := #[.bool yb, .slice yA yn.length yc, .slice yD yd.length ye]) (W.heap.size + 1) (by first | rfl | (simp only [size_alloc]; done) | (simp only [size_alloc]; rfl)) (nd_rat _ _ _ _ _ _ _))⟩
    · exact ⟨_, _, rfl, rfl, (Mo.swap [(w.heap.size, 28, #[.bool xb, .slice xA xn.length xc, .slice xD xd.length xe]), (gW1, 28, #[.bool yb, .slice yA yn.length yc, .slice yD yd.length ye]), (gW2, 28, #[.bool pb, .slice pA pn.length pc, .slice pD pd.length pe])] ((((H_Wd.out).alloc' (t := 28) (cs := #[.bool yb, .slice yA yn.length yc, .slice yD yd.length ye]) (W.heap.size) (by first | rfl | (simp only [size_alloc]; done) | (simp only [size_alloc]; rfl)) (nd_rat _ _ _ _ _ _ _))).alloc' (t := 28) (cs := #[.bool xb, .slice xA xn.length xc, .slice xD xd.length xe]) (W.heap.size + 1) (by first | rfl | (simp only [size_alloc]; done) | (simp only [size_alloc]; rfl)) (nd_rat _ _ _ _ _ _ _)))⟩
  case rest =>
    obtain ⟨g1, g2, rfl, rfl, H_wc⟩ := hcut
    obtain ⟨wb, rfl⟩ : ∃ W, W = wc := ⟨_, rfl⟩
    have H_wb := H_wc
    obtain ⟨s, hs⟩ : ∃ s, cmpQ qx qy = s := ⟨_, rfl⟩
    have HS := Lib.hid hs
    clear hs
    have k0wbc0 := ((H_wb.out.var 0 rfl)).cell 0 rfl
    have k0wbc1 := ((H_wb.out.var 0 rfl)).cell 1 rfl
    have k0wbc2 := ((H_wb.out.var 0 rfl)).cell 2 rfl
    have k1wbc0 := ((H_wb.out.var 1 rfl)).cell 0 rfl
    have k1wbc1 := ((H_wb.out.var 1 rfl)).cell 1 rfl
    have k1wbc2 := ((H_wb.out.var 1 rfl)).cell 2 rfl
    go_wp2_with fail
    refine (qcmp_ok wb xb yb xA xD yA yD xc xe yc ye xn xd yn yd (N_x.out.below H_wb.out.below) (D_x.out.below H_wb.out.below) (N_y.out.below H_wb.out.below) (D_y.out.below H_wb.out.below) (by omega) (by omega) (by omega) (by omega)).mono ?_
    rw [cmp_qv D_x.out.2 D_y.out.2, Q_x.out, Q_y.out, HS.out]
    rintro e_ wc2 ⟨rfl, hB⟩
    have H_wc2 := Lib.hid (Mo.call H_wb.out hB)
    clear hB
    by_cases hs0 : 0 < s
    rotate_left
    · have ds : decide (0 < s) = false := decide_eq_false hs0
      have hs1 : s ≤ 0 := by omega
      have HLE : Hid (qx ≤ qy) := Rat.not_lt.1 (cmpQ_leE.1 (by rw [HS.out]; exact hs1))
      clear hs0
      obtain ⟨ra, hra⟩ : ∃ ra, rankQ f qx = ra := ⟨_, rfl⟩
      obtain ⟨rb, hrb⟩ : ∃ rb, rankQ f qy = rb := ⟨_, rfl⟩
      have HRA := Lib.hid hra
      have HRB := Lib.hid hrb
      have ZRA : Hid (sz ra 35184372088121) := by show sz _ _; rw [← hra]; exact rank_sz Z_x.out
      have ZRB : Hid (sz rb 35184372088121) := by show sz _ _; rw [← hrb]; exact rank_sz Z_y.out
      clear hra hrb
      have k3wc2c0 := ((H_wc2.out.var 3 rfl)).cell 0 rfl
      have k3wc2c1 := ((H_wc2.out.var 3 rfl)).cell 1 rfl
      have k3wc2c2 := ((H_wc2.out.var 3 rfl)).cell 2 rfl
      go_wp2_with fail
      refine (rank_okE wc2 FA fc f (HR.out.below H_wc2.out.below) xb xA xD xc xe xn xd (N_x.out.below H_wc2.out.below) (D_x.out.below H_wc2.out.below) (by omega) (by omega)).mono ?_
      rw [Q_x.out, HRA.out, HE.out]
      rintro e_ r1 ⟨b1, A1, c1, x1, B1, d1, y1, rfl, HQa1, HQb1, HQc1, hx1, hy1, hB⟩
      have H_r1 := Lib.hid (Mo.num (Mo.num (Mo.call H_wc2.out hB) hx1) hy1)
      have HV1 : Hid (qv b1 x1 y1 = ra) := qv_nf HQa1.out HQb1.out HQc1.out
      have HL1 : Hid (x1.length ≤ 35184372088121 ∧ y1.length ≤ 35184372088121) := szl HQb1.out HQc1.out (ZRA.out)
      clear hB hx1 hy1
      go_upto_region 5 with fail
      obtain ⟨T1, hT1⟩ : ∃ T1, T1 = r1.alloc (.cells #[.bool b1, .slice A1 x1.length c1, .slice B1 y1.length d1] 28) := ⟨_, rfl⟩
      rw [← hT1]
      have H_T1 : Hid (Mo w T1 _ _) := Lib.hid (by rw [hT1]; exact H_r1.out.alloc (t := 28) (cs := #[.bool b1, .slice A1 x1.length c1, .slice B1 y1.length d1]) (nd_rat _ _ _ _ _ _ _))
      clear hT1
      have k4T1c0 := ((H_T1.out.var 4 rfl)).cell 0 rfl
      have k4T1c1 := ((H_T1.out.var 4 rfl)).cell 1 rfl
      have k4T1c2 := ((H_T1.out.var 4 rfl)).cell 2 rfl
      go_wp2_with fail
      refine (rank_okE T1 FA fc f (HR.out.below H_T1.out.below) yb yA yD yc ye yn yd (N_y.out.below H_T1.out.below) (D_y.out.below H_T1.out.below) (by omega) (by omega)).mono ?_
      rw [Q_y.out, HRB.out, HE.out]
      rintro e_ r2 ⟨b2, A2, c2, x2, B2, d2, y2, rfl, HQa2, HQb2, HQc2, hx2, hy2, hB⟩
      have H_r2 := Lib.hid (Mo.num (Mo.num (Mo.call H_T1.out hB) hx2) hy2)
      have HV2 : Hid (qv b2 x2 y2 = rb) := qv_nf HQa2.out HQb2.out HQc2.out
      have HL2 : Hid (x2.length ≤ 35184372088121 ∧ y2.length ≤ 35184372088121) := szl HQb2.out HQc2.out (ZRB.out)
      clear hB hx2 hy2
      go_upto_region 6 with fail
      obtain ⟨T2, hT2⟩ : ∃ T2, T2 = r2.alloc (.cells #[.bool b2, .slice A2 x2.length c2, .slice B2 y2.length d2] 28) := ⟨_, rfl⟩
      rw [← hT2]
      have H_T2 : Hid (Mo w T2 _ _) := Lib.hid (by rw [hT2]; exact H_r2.out.alloc (t := 28) (cs := #[.bool b2, .slice A2 x2.length c2, .slice B2 y2.length d2]) (nd_rat _ _ _ _ _ _ _))
      clear hT2
      have k2T2c0 := ((H_T2.out.var 2 rfl)).cell 0 rfl
      have k2T2c1 := ((H_T2.out.var 2 rfl)).cell 1 rfl
      have k2T2c2 := ((H_T2.out.var 2 rfl)).cell 2 rfl
      go_wp2_with fail
      refine (inverse_ok T2 FA fc f (HR.out.below H_T2.out.below) pb pA pD pc pe pn pd (N_p.out.below H_T2.out.below) (D_p.out.below H_T2.out.below) (by omega) (by omega)).mono ?_
      rw [Q_p.out]
      rintro e_ r3 ⟨q3, e3, HI, b3, A3, c3, x3, B3, d3, y3, rfl, HQa3, HQb3, HQc3, hx3, hy3, hB⟩
      have H_r3 := Lib.hid (Mo.num (Mo.num (Mo.call H_T2.out hB) hx3) hy3)
      have ZQ3 : Hid (sz q3 35184372088121) := inv_szR HI.out Z_p.out
      have HV3 : Hid (qv b3 x3 y3 = q3) := qv_nf HQa3.out HQb3.out HQc3.out
      have HL3 : Hid (x3.length ≤ 35184372088121 ∧ y3.length ≤ 35184372088121) := szl HQb3.out HQc3.out (ZQ3.out)
      clear hB hx3 hy3
      go_upto_region 7 with fail
      obtain ⟨T3, hT3⟩ : ∃ T3, T3 = r3.alloc (.cells #[.bool b3, .slice A3 x3.length c3, .slice B3 y3.length d3] 28) := ⟨_, rfl⟩
      rw [← hT3]
      have H_T3 : Hid (Mo w T3 _ _) := Lib.hid (by rw [hT3]; exact H_r3.out.alloc (t := 28) (cs := #[.bool b3, .slice A3 x3.length c3, .slice B3 y3.length d3]) (nd_rat _ _ _ _ _ _ _))
      clear hT3
      have ee1 : (E == E) = true := beq_self_eq_true E
      have ee2 : (E != E) = false := bne_self_eq_false E
      go_wp2_with fail
      refine (evalid_ok T3 FA fc f (HR.out.below H_T3.out.below)).mono ?_
      rintro e_ T3 ⟨rfl, rfl⟩
      rw [HE.out]
      by_cases h0 : E = 0
      rotate_left
      · have e1 : (E == 0) = false := beq_eq_false_iff_ne.2 h0
        have e2 : (E != 0) = true := by simpa using h0
        obtain rfl : e3 = E := (inv_bad HI.out (by rw [HE.out]; exact h0)).trans HE.out
        obtain rfl : ra = 0 := by rw [← HRA.out]; unfold rankQ; rw [if_pos (by rw [HE.out]; exact h0)]
        clear h0
        have k5T3c0 := ((H_T3.out.var 5 rfl)).cell 0 rfl
        have k5T3c1 := ((H_T3.out.var 5 rfl)).cell 1 rfl
        have k5T3c2 := ((H_T3.out.var 5 rfl)).cell 2 rfl
        go_wp2_with fail
        refine (qsign_ok T3 b1 A1 B1 c1 d1 x1 y1 (H_T3.out.rn 0 rfl) (H_T3.out.rn 1 rfl) (by have := HL1.out; omega) (by have := HL1.out; omega)).mono ?_
        rw [sign_qv ((H_T3.out.rn 1 rfl)).2, HV1.out, show cmpQ 0 0 = 0 from by decide +kernel]
        rintro e_ v1 ⟨rfl, hB⟩
        have H_v1 := Lib.hid (Mo.call H_T3.out hB)
        clear hB
        go_wp2_with fail
        refine (awake_ok v1).mono ?_
        rintro e_ v2 ⟨rfl, hB⟩
        have H_v2 := Lib.hid (Mo.call H_v1.out hB)
        clear hB
        go_wp2_with fail
        go_ret
        exact ⟨rfl, H_v2.out.below⟩
      subst h0
      have hsay := shares_says HE.out (x := qx) (y := qy) HLE.out
      rw [HRA.out, HRB.out] at hsay
      obtain ⟨s4, hs4⟩ : ∃ s4, cmpQ ra 0 = s4 := ⟨_, rfl⟩
      obtain ⟨s5, hs5⟩ : ∃ s5, cmpQ ra rb = s5 := ⟨_, rfl⟩
      obtain ⟨s6, hs6⟩ : ∃ s6, cmpQ rb ((1 : Int) : Rat) = s6 := ⟨_, rfl⟩
      have y4 : 0 ≤ s4 := by rw [← hs4]; exact cmpQ_geE.2 (Rat.not_lt.2 hsay.1)
      have y5 : s5 ≤ 0 := by rw [← hs5]; exact cmpQ_leE.2 (Rat.not_lt.2 hsay.2.1)
      have y6 : s6 ≤ 0 := by rw [← hs6]; exact cmpQ_leE.2 (Rat.not_lt.2 hsay.2.2)
      have dd4 : decide (s4 < 0) = false := decide_eq_false (by omega)
      have dd5 : decide (0 < s5) = false := decide_eq_false (by omega)
      have dd6 : decide (0 < s6) = false := decide_eq_false (by omega)
      have HS4 := Lib.hid hs4
      have HS5 := Lib.hid hs5
      have HS6 := Lib.hid hs6
      clear hsay hs4 hs5 hs6
      go_upto_region 11 with fail
      have k5T3c0 := ((H_T3.out.var 5 rfl)).cell 0 rfl
      have k5T3c1 := ((H_T3.out.var 5 rfl)).cell 1 rfl
      have k5T3c2 := ((H_T3.out.var 5 rfl)).cell 2 rfl
      have k6T3c0 := ((H_T3.out.var 6 rfl)).cell 0 rfl
      have k6T3c1 := ((H_T3.out.var 6 rfl)).cell 1 rfl
      have k6T3c2 := ((H_T3.out.var 6 rfl)).cell 2 rfl
      have k2T3c0 := ((H_T3.out.var 2 rfl)).cell 0 rfl
      have k2T3c1 := ((H_T3.out.var 2 rfl)).cell 1 rfl
      have k2T3c2 := ((H_T3.out.var 2 rfl)).cell 2 rfl
      have k7T3c0 := ((H_T3.out.var 7 rfl)).cell 0 rfl
      have k7T3c1 := ((H_T3.out.var 7 rfl)).cell 1 rfl
      have k7T3c2 := ((H_T3.out.var 7 rfl)).cell 2 rfl
      have H_T3d := Lib.hid H_T3.out.drew
      first
      | go_region_held3 (fun w' => w'.cell? ⟨r1.heap.size, 0, none⟩ = some (.bool b1) ∧ w'.cell? ⟨r1.heap.size, 1, none⟩ = some (.slice A1 x1.length c1) ∧ w'.cell? ⟨r1.heap.size, 2, none⟩ = some (.slice B1 y1.length d1) ∧ w'.cell? ⟨r2.heap.size, 0, none⟩ = some (.bool b2) ∧ w'.cell? ⟨r2.heap.size, 1, none⟩ = some (.slice A2 x2.length c2) ∧ w'.cell? ⟨r2.heap.size, 2, none⟩ = some (.slice B2 y2.length d2)) (go_keep)
         (first
          | (go_at_call 15
             with_reducible (show Calls Try.prog _ _ T3.drew _)
             refine (qsign_ok _ b1 A1 B1 c1 d1 x1 y1 (H_T3d.out.rn 0 rfl) (H_T3d.out.rn 1 rfl) (by have := HL1.out; omega) (by have := HL1.out; omega)).mono ?_
             rw [sign_qv ((H_T3d.out.rn 1 rfl)).2, HV1.out, HS4.out]
             rintro e_ u1 ⟨rfl, hB⟩
             have H_u1 := Lib.hid (Mo.call H_T3d.out hB)
             have k5u1c0 := ((H_u1.out.var 5 rfl)).cell 0 rfl
             have k5u1c1 := ((H_u1.out.var 5 rfl)).cell 1 rfl
             have k5u1c2 := ((H_u1.out.var 5 rfl)).cell 2 rfl
             have k6u1c0 := ((H_u1.out.var 6 rfl)).cell 0 rfl
             have k6u1c1 := ((H_u1.out.var 6 rfl)).cell 1 rfl
             have k6u1c2 := ((H_u1.out.var 6 rfl)).cell 2 rfl
             have k2u1c0 := ((H_u1.out.var 2 rfl)).cell 0 rfl
             have k2u1c1 := ((H_u1.out.var 2 rfl)).cell 1 rfl
             have k2u1c2 := ((H_u1.out.var 2 rfl)).cell 2 rfl
             have k7u1c0 := ((H_u1.out.var 7 rfl)).cell 0 rfl
             have k7u1c1 := ((H_u1.out.var 7 rfl)).cell 1 rfl
             have k7u1c2 := ((H_u1.out.var 7 rfl)).cell 2 rfl
             clear hB)
          | (go_at_call 16
             with_reducible (show Calls Try.prog _ _ u1 _)
             refine (qcmp_ok u1 b1 b2 A1 B1 A2 B2 c1 d1 c2 d2 x1 y1 x2 y2 (H_u1.out.rn 0 rfl) (H_u1.out.rn 1 rfl) (H_u1.out.rn 2 rfl) (H_u1.out.rn 3 rfl) (by have := HL1.out; omega) (by have := HL1.out; omega) (by have := HL2.out; omega) (by have := HL2.out; omega)).mono ?_
             rw [cmp_qv ((H_u1.out.rn 1 rfl)).2 ((H_u1.out.rn 3 rfl)).2, HV1.out, HV2.out, HS5.out]
             rintro e_ u2 ⟨rfl, hB⟩
             have H_u2 := Lib.hid (Mo.call H_u1.out hB)
             have k5u2c0 := ((H_u2.out.var 5 rfl)).cell 0 rfl
             have k5u2c1 := ((H_u2.out.var 5 rfl)).cell 1 rfl
             have k5u2c2 := ((H_u2.out.var 5 rfl)).cell 2 rfl
             have k6u2c0 := ((H_u2.out.var 6 rfl)).cell 0 rfl
             have k6u2c1 := ((H_u2.out.var 6 rfl)).cell 1 rfl
             have k6u2c2 := ((H_u2.out.var 6 rfl)).cell 2 rfl
             have k2u2c0 := ((H_u2.out.var 2 rfl)).cell 0 rfl
             have k2u2c1 := ((H_u2.out.var 2 rfl)).cell 1 rfl
             have k2u2c2 := ((H_u2.out.var 2 rfl)).cell 2 rfl
             have k7u2c0 := ((H_u2.out.var 7 rfl)).cell 0 rfl
             have k7u2c1 := ((H_u2.out.var 7 rfl)).cell 1 rfl
             have k7u2c2 := ((H_u2.out.var 7 rfl)).cell 2 rfl
             clear hB)
          | (go_at_call 14
             with_reducible (show Calls Try.prog _ _ u2 _)
             refine (part_ok u2 1 1 (by omega) (by omega) (by omega) (by omega)).mono ?_
             rw [show (1 : Int).toNat = 1 from rfl, mkRat_int]
             rintro e_ u3 ⟨b4, A4, c4, x4, B4, d4, y4, rfl, HQa4, HQb4, HQc4, hx4, hy4, hB⟩
             have H_u3 := Lib.hid (Mo.num (Mo.num (Mo.call H_u2.out hB) hx4) hy4)
             have k5u3c0 := ((H_u3.out.var 5 rfl)).cell 0 rfl
             have k5u3c1 := ((H_u3.out.var 5 rfl)).cell 1 rfl
             have k5u3c2 := ((H_u3.out.var 5 rfl)).cell 2 rfl
             have k6u3c0 := ((H_u3.out.var 6 rfl)).cell 0 rfl
             have k6u3c1 := ((H_u3.out.var 6 rfl)).cell 1 rfl
             have k6u3c2 := ((H_u3.out.var 6 rfl)).cell 2 rfl
             have k2u3c0 := ((H_u3.out.var 2 rfl)).cell 0 rfl
             have k2u3c1 := ((H_u3.out.var 2 rfl)).cell 1 rfl
             have k2u3c2 := ((H_u3.out.var 2 rfl)).cell 2 rfl
             have k7u3c0 := ((H_u3.out.var 7 rfl)).cell 0 rfl
             have k7u3c1 := ((H_u3.out.var 7 rfl)).cell 1 rfl
             have k7u3c2 := ((H_u3.out.var 7 rfl)).cell 2 rfl
             have HV4 : Hid (qv b4 x4 y4 = ((1 : Int) : Rat)) := qv_nf HQa4.out HQb4.out HQc4.out
             have HL4 : Hid (x4.length ≤ 1 ∧ y4.length ≤ 1) := szl HQb4.out HQc4.out (sz_int (by omega))
             clear hB hx4 hy4)
          | (go_at_call 16
             with_reducible (show Calls Try.prog _ _ u3 _)
             refine (qcmp_ok u3 b2 b4 A2 B2 A4 B4 c2 d2 c4 d4 x2 y2 x4 y4 (H_u3.out.rn 2 rfl) (H_u3.out.rn 3 rfl) (H_u3.out.rn 6 rfl) (H_u3.out.rn 7 rfl) (by have := HL2.out; omega) (by have := HL2.out; omega) (by have := HL4.out; omega) (by have := HL4.out; omega)).mono ?_
             rw [cmp_qv ((H_u3.out.rn 3 rfl)).2 ((H_u3.out.rn 7 rfl)).2, HV2.out, HV4.out, HS6.out]
             rintro e_ u4 ⟨rfl, hB⟩
             have H_u4 := Lib.hid (Mo.call H_u3.out hB)
             have k5u4c0 := ((H_u4.out.var 5 rfl)).cell 0 rfl
             have k5u4c1 := ((H_u4.out.var 5 rfl)).cell 1 rfl
             have k5u4c2 := ((H_u4.out.var 5 rfl)).cell 2 rfl
             have k6u4c0 := ((H_u4.out.var 6 rfl)).cell 0 rfl
             have k6u4c1 := ((H_u4.out.var 6 rfl)).cell 1 rfl
             have k6u4c2 := ((H_u4.out.var 6 rfl)).cell 2 rfl
             have k2u4c0 := ((H_u4.out.var 2 rfl)).cell 0 rfl
             have k2u4c1 := ((H_u4.out.var 2 rfl)).cell 1 rfl
             have k2u4c2 := ((H_u4.out.var 2 rfl)).cell 2 rfl
             have k7u4c0 := ((H_u4.out.var 7 rfl)).cell 0 rfl
             have k7u4c1 := ((H_u4.out.var 7 rfl)).cell 1 rfl
             have k7u4c2 := ((H_u4.out.var 7 rfl)).cell 2 rfl
             clear hB))
      | fail
      obtain ⟨s7, hs7⟩ : ∃ s7, cmpQ qp 0 = s7 := ⟨_, rfl⟩
      obtain ⟨s8, hs8⟩ : ∃ s8, cmpQ qp ((1 : Int) : Rat) = s8 := ⟨_, rfl⟩
      have HS7 := Lib.hid hs7
      have HS8 := Lib.hid hs8
      clear hs7 hs8
      go_wp2_with fail
      by_cases h7 : s7 < 0
      · have dd7 : decide (s7 < 0) = true := decide_eq_true h7
        obtain rfl : e3 = 3 := inv_out HI.out HE.out (.inl (cmpQ_lt.1 (by rw [HS7.out]; exact h7)))
        have H_u4d := Lib.hid H_u4.out.drew
        go_region_with
           (first
            | (go_at_call 15
               with_reducible (show Calls Try.prog _ _ u4.drew _)
               refine (qsign_ok _ pb pA pD pc pe pn pd (N_p.out.below H_u4d.out.below) (D_p.out.below H_u4d.out.below) (by omega) (by omega)).mono ?_
               rw [sign_qv D_p.out.2, Q_p.out, HS7.out]
               rintro e_ v0 ⟨rfl, hB⟩
               have H_v0 := Lib.hid (Mo.call H_u4d.out hB)
               have k2v0c0 := ((H_v0.out.var 2 rfl)).cell 0 rfl
               have k2v0c1 := ((H_v0.out.var 2 rfl)).cell 1 rfl
               have k2v0c2 := ((H_v0.out.var 2 rfl)).cell 2 rfl
               clear hB))
        all_goals
          (go_wp2_with fail
           refine (awake_ok v0).mono ?_
           rintro e_ v2 ⟨rfl, hB⟩
           have H_v2 := Lib.hid (Mo.call H_v0.out hB)
           clear hB
           go_wp2_with fail
           go_ret
           exact ⟨rfl, H_v2.out.below⟩)
      have dd7 : decide (s7 < 0) = false := decide_eq_false h7
      have y7 : 0 ≤ s7 := by omega
      have HP0 : Hid (¬ qp < 0) := fun h => by have := cmpQ_lt.2 h; rw [HS7.out] at this; omega
      clear h7
      have H_u4d := Lib.hid H_u4.out.drew
      first
      | go_region_held3 (fun w' => w'.cell? ⟨gW2, 0, none⟩ = some (.bool pb) ∧ w'.cell? ⟨gW2, 1, none⟩ = some (.slice pA pn.length pc) ∧ w'.cell? ⟨gW2, 2, none⟩ = some (.slice pD pd.length pe)) (go_keep)
         (first
          | (go_at_call 15
             with_reducible (show Calls Try.prog _ _ u4.drew _)
             refine (qsign_ok _ pb pA pD pc pe pn pd (N_p.out.below H_u4d.out.below) (D_p.out.below H_u4d.out.below) (by omega) (by omega)).mono ?_
             rw [sign_qv D_p.out.2, Q_p.out, HS7.out]
             rintro e_ v0 ⟨rfl, hB⟩
             have H_v0 := Lib.hid (Mo.call H_u4d.out hB)
             have k2v0c0 := ((H_v0.out.var 2 rfl)).cell 0 rfl
             have k2v0c1 := ((H_v0.out.var 2 rfl)).cell 1 rfl
             have k2v0c2 := ((H_v0.out.var 2 rfl)).cell 2 rfl
             have k7v0c0 := ((H_v0.out.var 7 rfl)).cell 0 rfl
             have k7v0c1 := ((H_v0.out.var 7 rfl)).cell 1 rfl
             have k7v0c2 := ((H_v0.out.var 7 rfl)).cell 2 rfl
             clear hB)
          | (go_at_call 14
             with_reducible (show Calls Try.prog _ _ v0 _)
             refine (part_ok v0 1 1 (by omega) (by omega) (by omega) (by omega)).mono ?_
             rw [show (1 : Int).toNat = 1 from rfl, mkRat_int]
             rintro e_ v1 ⟨b6, A6, c6, x6, B6, d6, y6, rfl, HQa6, HQb6, HQc6, hx6, hy6, hB⟩
             have H_v1 := Lib.hid (Mo.num (Mo.num (Mo.call H_v0.out hB) hx6) hy6)
             have k2v1c0 := ((H_v1.out.var 2 rfl)).cell 0 rfl
             have k2v1c1 := ((H_v1.out.var 2 rfl)).cell 1 rfl
             have k2v1c2 := ((H_v1.out.var 2 rfl)).cell 2 rfl
             have k7v1c0 := ((H_v1.out.var 7 rfl)).cell 0 rfl
             have k7v1c1 := ((H_v1.out.var 7 rfl)).cell 1 rfl
             have k7v1c2 := ((H_v1.out.var 7 rfl)).cell 2 rfl
             have HV6 : Hid (qv b6 x6 y6 = ((1 : Int) : Rat)) := qv_nf HQa6.out HQb6.out HQc6.out
             have HL6 : Hid (x6.length ≤ 1 ∧ y6.length ≤ 1) := szl HQb6.out HQc6.out (sz_int (by omega))
             clear hB hx6 hy6)
          | (go_at_call 16
             with_reducible (show Calls Try.prog _ _ v1 _)
             refine (qcmp_ok v1 pb b6 pA pD A6 B6 pc pe c6 d6 pn pd x6 y6 (N_p.out.below H_v1.out.below) (D_p.out.below H_v1.out.below) (H_v1.out.rn 8 rfl) (H_v1.out.rn 9 rfl) (by omega) (by omega) (by have := HL6.out; omega) (by have := HL6.out; omega)).mono ?_
             rw [cmp_qv D_p.out.2 ((H_v1.out.rn 9 rfl)).2, Q_p.out, HV6.out, HS8.out]
             rintro e_ v3 ⟨rfl, hB⟩
             have H_v3 := Lib.hid (Mo.call H_v1.out hB)
             have k2v3c0 := ((H_v3.out.var 2 rfl)).cell 0 rfl
             have k2v3c1 := ((H_v3.out.var 2 rfl)).cell 1 rfl
             have k2v3c2 := ((H_v3.out.var 2 rfl)).cell 2 rfl
             have k7v3c0 := ((H_v3.out.var 7 rfl)).cell 0 rfl
             have k7v3c1 := ((H_v3.out.var 7 rfl)).cell 1 rfl
             have k7v3c2 := ((H_v3.out.var 7 rfl)).cell 2 rfl
             clear hB))
      | fail
      by_cases h8 : 0 < s8
      · have dd8 : decide (0 < s8) = true := decide_eq_true h8
        obtain rfl : e3 = 3 := inv_out HI.out HE.out (.inr (by
          refine Classical.byContradiction fun h => ?_
          have h2 : cmpQ qp ((1 : Int) : Rat) ≤ 0 := cmpQ_leE.2 h
          rw [HS8.out] at h2
          omega))
        go_wp2_with fail
        refine (awake_ok v3).mono ?_
        rintro e_ v2 ⟨rfl, hB⟩
        have H_v2 := Lib.hid (Mo.call H_v3.out hB)
        clear hB
        go_wp2_with fail
        go_ret
        exact ⟨rfl, H_v2.out.below⟩
      have dd8 : decide (0 < s8) = false := decide_eq_false h8
      have y8 : s8 ≤ 0 := by omega
      have HP1 : Hid (¬ (qp < 0 ∨ 1 < qp)) := fun h => by
        rcases h with h | h
        · exact HP0.out h
        · have h2 : ¬ cmpQ qp ((1 : Int) : Rat) ≤ 0 := fun h3 => cmpQ_leE.1 h3 h
          rw [HS8.out] at h2
          omega
      obtain ⟨rfl, hrk⟩ := inv_in HI.out HE.out HP1.out
      have HRK := Lib.hid hrk
      clear h8 hrk
      go_wp2_with fail
      refine (rank_okE v3 FA fc f (HR.out.below H_v3.out.below) b3 A3 B3 c3 d3 x3 y3 (H_v3.out.rn 4 rfl) (H_v3.out.rn 5 rfl) (by have := HL3.out; omega) (by have := HL3.out; omega)).mono ?_
      rw [HV3.out, HRK.out, HE.out]
      rintro e_ v4 ⟨b8, A8, c8, x8, B8, d8, y8, rfl, HQa8, HQb8, HQc8, hx8, hy8, hB⟩
      have H_v4 := Lib.hid (Mo.num (Mo.num (Mo.call H_v3.out hB) hx8) hy8)
      have HV8 : Hid (qv b8 x8 y8 = qp) := qv_nf HQa8.out HQb8.out HQc8.out
      have HL8 : Hid (x8.length ≤ 35184372088121 ∧ y8.length ≤ 35184372088121) := szl HQb8.out HQc8.out (Z_p.out.mono (by omega))
      clear hB hx8 hy8
      go_upto_region 16 with fail
      obtain ⟨T5, hT5⟩ : ∃ T5, T5 = v4.alloc (.cells #[.bool b8, .slice A8 x8.length c8, .slice B8 y8.length d8] 28) := ⟨_, rfl⟩
      rw [← hT5]
      have H_T5 : Hid (Mo w T5 _ _) := Lib.hid (by rw [hT5]; exact H_v4.out.alloc (t := 28) (cs := #[.bool b8, .slice A8 x8.length c8, .slice B8 y8.length d8]) (nd_rat _ _ _ _ _ _ _))
      clear hT5
      have k2T5c0 := ((H_T5.out.var 2 rfl)).cell 0 rfl
      have k2T5c1 := ((H_T5.out.var 2 rfl)).cell 1 rfl
      have k2T5c2 := ((H_T5.out.var 2 rfl)).cell 2 rfl
      have k8T5c0 := ((H_T5.out.var 8 rfl)).cell 0 rfl
      have k8T5c1 := ((H_T5.out.var 8 rfl)).cell 1 rfl
      have k8T5c2 := ((H_T5.out.var 8 rfl)).cell 2 rfl
      go_wp2_with fail
      refine (qcmp_ok T5 b8 pb A8 B8 pA pD c8 d8 pc pe x8 y8 pn pd (H_T5.out.rn 10 rfl) (H_T5.out.rn 11 rfl) (N_p.out.below H_T5.out.below) (D_p.out.below H_T5.out.below) (by have := HL8.out; omega) (by have := HL8.out; omega) (by omega) (by omega)).mono ?_
      rw [cmp_qv ((H_T5.out.rn 11 rfl)).2 D_p.out.2, HV8.out, Q_p.out, cmp_same]
      rintro e_ v5 ⟨rfl, hB⟩
      have H_v5 := Lib.hid (Mo.call H_T5.out hB)
      clear hB
      go_wp2_with fail
      refine (awake_ok v5).mono ?_
      rintro e_ v6 ⟨rfl, hB⟩
      have H_v6 := Lib.hid (Mo.call H_v5.out hB)
      clear hB
      go_wp2_with fail
      go_ret
      exact ⟨rfl, H_v6.out.below⟩
    · have ds : decide (0 < s) = true := decide_eq_true hs0
      have HLE : Hid (qy ≤ qx) := by
        refine Rat.not_lt.1 fun h => ?_
        have := cmpQ_lt.2 h
        rw [HS.out] at this
        omega
      go_upto_region 3 with fail
      have k0wc2c0 := ((H_wc2.out.var 0 rfl)).cell 0 rfl
      have k0wc2c1 := ((H_wc2.out.var 0 rfl)).cell 1 rfl
      have k0wc2c2 := ((H_wc2.out.var 0 rfl)).cell 2 rfl
      have k1wc2c0 := ((H_wc2.out.var 1 rfl)).cell 0 rfl
      have k1wc2c1 := ((H_wc2.out.var 1 rfl)).cell 1 rfl
      have k1wc2c2 := ((H_wc2.out.var 1 rfl)).cell 2 rfl
      have k3wc2c0 := ((H_wc2.out.var 3 rfl)).cell 0 rfl
      have k3wc2c1 := ((H_wc2.out.var 3 rfl)).cell 1 rfl
      have k3wc2c2 := ((H_wc2.out.var 3 rfl)).cell 2 rfl
      have k3wc2f0 := ((H_wc2.out.var 3 rfl)).thaw 0
      have k3wc2f1 := ((H_wc2.out.var 3 rfl)).thaw 1
      have k3wc2f2 := ((H_wc2.out.var 3 rfl)).thaw 2
      have k4wc2c0 := ((H_wc2.out.var 4 rfl)).cell 0 rfl
      have k4wc2c1 := ((H_wc2.out.var 4 rfl)).cell 1 rfl
      have k4wc2c2 := ((H_wc2.out.var 4 rfl)).cell 2 rfl
      have k4wc2f0 := ((H_wc2.out.var 4 rfl)).thaw 0
      have k4wc2f1 := ((H_wc2.out.var 4 rfl)).thaw 1
      have k4wc2f2 := ((H_wc2.out.var 4 rfl)).thaw 2
      have newc230 : g1 ≠ w.heap.size := H_wc2.out.apart 3 0 _ _ _ _ _ _ rfl rfl (by decide)
      have newc231 : g1 ≠ gW1 := H_wc2.out.apart 3 1 _ _ _ _ _ _ rfl rfl (by decide)
      have newc232 : g1 ≠ gW2 := H_wc2.out.apart 3 2 _ _ _ _ _ _ rfl rfl (by decide)
      have newc234 : g1 ≠ g2 := H_wc2.out.apart 3 4 _ _ _ _ _ _ rfl rfl (by decide)
      have newc240 : g2 ≠ w.heap.size := H_wc2.out.apart 4 0 _ _ _ _ _ _ rfl rfl (by decide)
      have newc241 : g2 ≠ gW1 := H_wc2.out.apart 4 1 _ _ _ _ _ _ rfl rfl (by decide)
      have newc242 : g2 ≠ gW2 := H_wc2.out.apart 4 2 _ _ _ _ _ _ rfl rfl (by decide)
      have newc243 : g2 ≠ g1 := H_wc2.out.apart 4 3 _ _ _ _ _ _ rfl rfl (by decide)
      have H_wc2d := Lib.hid H_wc2.out.drew
      have zf30 := (H_wc2d.out.var 3 rfl).thaw 0
      have zf31 := (H_wc2d.out.var 3 rfl).thaw 1
      have zf32 := (H_wc2d.out.var 3 rfl).thaw 2
      have zf40 := (H_wc2d.out.var 4 rfl).thaw 0
      have zf41 := (H_wc2d.out.var 4 rfl).thaw 1
      have zf42 := (H_wc2d.out.var 4 rfl).thaw 2
      go_region_held3 (fun w' => w'.cell? ⟨w.heap.size, 0, none⟩ = some (.bool xb) ∧ w'.cell? ⟨w.heap.size, 1, none⟩ = some (.slice xA xn.length xc) ∧ w'.cell? ⟨w.heap.size, 2, none⟩ = some (.slice xD xd.length xe) ∧ w'.cell? ⟨gW1, 0, none⟩ = some (.bool yb) ∧ w'.cell? ⟨gW1, 1, none⟩ = some (.slice yA yn.length yc) ∧ w'.cell? ⟨gW1, 2, none⟩ = some (.slice yD yd.length ye)) (go_keep) (fail)
      all_goals
        (obtain ⟨Z, hZ⟩ : ∃ Z, Z = (((((((wc2.setCell ⟨g1, 0, none⟩ (.bool yb)).setCell ⟨g1, 1, none⟩ (.slice yA yn.length yc)).setCell ⟨g1, 2, none⟩ (.slice yD yd.length ye)).setCell ⟨g2, 0, none⟩ (.bool xb)).setCell ⟨g2, 1, none⟩ (.slice xA xn.length xc)).setCell ⟨g2, 2, none⟩ (.slice xD xd.length xe))).drew := ⟨_, rfl⟩
         have H_Z : Hid (Mo w Z _ _) := Lib.hid (by rw [hZ]; exact (((((((((((((H_wc2.out).set 3 (j := 0) (v := .bool yb) (cs' := #[.bool yb, .slice xA xn.length xc, .slice xD xd.length xe]) rfl rfl (nd_rat _ _ _ _ _ _ _))).set 3 (j := 1) (v := .slice yA yn.length yc) (cs' := #[.bool yb, .slice yA yn.length yc, .slice xD xd.length xe]) rfl rfl (nd_rat _ _ _ _ _ _ _))).set 3 (j := 2) (v := .slice yD yd.length ye) (cs' := #[.bool yb, .slice yA yn.length yc, .slice yD yd.length ye]) rfl rfl (nd_rat _ _ _ _ _ _ _))).set 4 (j := 0) (v := .bool xb) (cs' := #[.bool xb, .slice yA yn.length yc, .slice yD yd.length ye]) rfl rfl (nd_rat _ _ _ _ _ _ _))).set 4 (j := 1) (v := .slice xA xn.length xc) (cs' := #[.bool xb, .slice xA xn.length xc, .slice yD yd.length ye]) rfl rfl (nd_rat _ _ _ _ _ _ _))).set 4 (j := 2) (v := .slice xD xd.length xe) (cs' := #[.bool xb, .slice xA xn.length xc, .slice xD xd.length xe]) rfl rfl (nd_rat _ _ _ _ _ _ _))).drew)
         rw [← hZ]
         clear hZ
         obtain ⟨ra, hra⟩ : ∃ ra, rankQ f qy = ra := ⟨_, rfl⟩
         obtain ⟨rb, hrb⟩ : ∃ rb, rankQ f qx = rb := ⟨_, rfl⟩
         have HRA := Lib.hid hra
         have HRB := Lib.hid hrb
         have ZRA : Hid (sz ra 35184372088121) := by show sz _ _; rw [← hra]; exact rank_sz Z_y.out
         have ZRB : Hid (sz rb 35184372088121) := by show sz _ _; rw [← hrb]; exact rank_sz Z_x.out
         clear hra hrb
         have k3Zc0 := ((H_Z.out.var 3 rfl)).cell 0 rfl
         have k3Zc1 := ((H_Z.out.var 3 rfl)).cell 1 rfl
         have k3Zc2 := ((H_Z.out.var 3 rfl)).cell 2 rfl
         go_wp2_with fail
         refine (rank_okE Z FA fc f (HR.out.below H_Z.out.below) yb yA yD yc ye yn yd (N_y.out.below H_Z.out.below) (D_y.out.below H_Z.out.below) (by omega) (by omega)).mono ?_
         rw [Q_y.out, HRA.out, HE.out]
         rintro e_ r1 ⟨b1, A1, c1, x1, B1, d1, y1, rfl, HQa1, HQb1, HQc1, hx1, hy1, hB⟩
         have H_r1 := Lib.hid (Mo.num (Mo.num (Mo.call H_Z.out hB) hx1) hy1)
         have HV1 : Hid (qv b1 x1 y1 = ra) := qv_nf HQa1.out HQb1.out HQc1.out
         have HL1 : Hid (x1.length ≤ 35184372088121 ∧ y1.length ≤ 35184372088121) := szl HQb1.out HQc1.out (ZRA.out)
         clear hB hx1 hy1
         go_upto_region 5 with fail
         obtain ⟨T1, hT1⟩ : ∃ T1, T1 = r1.alloc (.cells #[.bool b1, .slice A1 x1.length c1, .slice B1 y1.length d1] 28) := ⟨_, rfl⟩
         rw [← hT1]
         have H_T1 : Hid (Mo w T1 _ _) := Lib.hid (by rw [hT1]; exact H_r1.out.alloc (t := 28) (cs := #[.bool b1, .slice A1 x1.length c1, .slice B1 y1.length d1]) (nd_rat _ _ _ _ _ _ _))
         clear hT1
         have k4T1c0 := ((H_T1.out.var 4 rfl)).cell 0 rfl
         have k4T1c1 := ((H_T1.out.var 4 rfl)).cell 1 rfl
         have k4T1c2 := ((H_T1.out.var 4 rfl)).cell 2 rfl
         go_wp2_with fail
         refine (rank_okE T1 FA fc f (HR.out.below H_T1.out.below) xb xA xD xc xe xn xd (N_x.out.below H_T1.out.below) (D_x.out.below H_T1.out.below) (by omega) (by omega)).mono ?_
         rw [Q_x.out, HRB.out, HE.out]
         rintro e_ r2 ⟨b2, A2, c2, x2, B2, d2, y2, rfl, HQa2, HQb2, HQc2, hx2, hy2, hB⟩
         have H_r2 := Lib.hid (Mo.num (Mo.num (Mo.call H_T1.out hB) hx2) hy2)
         have HV2 : Hid (qv b2 x2 y2 = rb) := qv_nf HQa2.out HQb2.out HQc2.out
         have HL2 : Hid (x2.length ≤ 35184372088121 ∧ y2.length ≤ 35184372088121) := szl HQb2.out HQc2.out (ZRB.out)
         clear hB hx2 hy2
         go_upto_region 6 with fail
         obtain ⟨T2, hT2⟩ : ∃ T2, T2 = r2.alloc (.cells #[.bool b2, .slice A2 x2.length c2, .slice B2 y2.length d2] 28) := ⟨_, rfl⟩
         rw [← hT2]
         have H_T2 : Hid (Mo w T2 _ _) := Lib.hid (by rw [hT2]; exact H_r2.out.alloc (t := 28) (cs := #[.bool b2, .slice A2 x2.length c2, .slice B2 y2.length d2]) (nd_rat _ _ _ _ _ _ _))
         clear hT2
         have k2T2c0 := ((H_T2.out.var 2 rfl)).cell 0 rfl
         have k2T2c1 := ((H_T2.out.var 2 rfl)).cell 1 rfl
         have k2T2c2 := ((H_T2.out.var 2 rfl)).cell 2 rfl
         go_wp2_with fail
         refine (inverse_ok T2 FA fc f (HR.out.below H_T2.out.below) pb pA pD pc pe pn pd (N_p.out.below H_T2.out.below) (D_p.out.below H_T2.out.below) (by omega) (by omega)).mono ?_
         rw [Q_p.out]
         rintro e_ r3 ⟨q3, e3, HI, b3, A3, c3, x3, B3, d3, y3, rfl, HQa3, HQb3, HQc3, hx3, hy3, hB⟩
         have H_r3 := Lib.hid (Mo.num (Mo.num (Mo.call H_T2.out hB) hx3) hy3)
         have ZQ3 : Hid (sz q3 35184372088121) := inv_szR HI.out Z_p.out
         have HV3 : Hid (qv b3 x3 y3 = q3) := qv_nf HQa3.out HQb3.out HQc3.out
         have HL3 : Hid (x3.length ≤ 35184372088121 ∧ y3.length ≤ 35184372088121) := szl HQb3.out HQc3.out (ZQ3.out)
         clear hB hx3 hy3
         go_upto_region 7 with fail
         obtain ⟨T3, hT3⟩ : ∃ T3, T3 = r3.alloc (.cells #[.bool b3, .slice A3 x3.length c3, .slice B3 y3.length d3] 28) := ⟨_, rfl⟩
         rw [← hT3]
         have H_T3 : Hid (Mo w T3 _ _) := Lib.hid (by rw [hT3]; exact H_r3.out.alloc (t := 28) (cs := #[.bool b3, .slice A3 x3.length c3, .slice B3 y3.length d3]) (nd_rat _ _ _ _ _ _ _))
         clear hT3
         have ee1 : (E == E) = true := beq_self_eq_true E
         have ee2 : (E != E) = false := bne_self_eq_false E
         go_wp2_with fail
         refine (evalid_ok T3 FA fc f (HR.out.below H_T3.out.below)).mono ?_
         rintro e_ T3 ⟨rfl, rfl⟩
         rw [HE.out]
         by_cases h0 : E = 0
         rotate_left
         · have e1 : (E == 0) = false := beq_eq_false_iff_ne.2 h0
           have e2 : (E != 0) = true := by simpa using h0
           obtain rfl : e3 = E := (inv_bad HI.out (by rw [HE.out]; exact h0)).trans HE.out
           obtain rfl : ra = 0 := by rw [← HRA.out]; unfold rankQ; rw [if_pos (by rw [HE.out]; exact h0)]
           clear h0
           have k5T3c0 := ((H_T3.out.var 5 rfl)).cell 0 rfl
           have k5T3c1 := ((H_T3.out.var 5 rfl)).cell 1 rfl
           have k5T3c2 := ((H_T3.out.var 5 rfl)).cell 2 rfl
           go_wp2_with fail
           refine (qsign_ok T3 b1 A1 B1 c1 d1 x1 y1 (H_T3.out.rn 0 rfl) (H_T3.out.rn 1 rfl) (by have := HL1.out; omega) (by have := HL1.out; omega)).mono ?_
           rw [sign_qv ((H_T3.out.rn 1 rfl)).2, HV1.out, show cmpQ 0 0 = 0 from by decide +kernel]
           rintro e_ v1 ⟨rfl, hB⟩
           have H_v1 := Lib.hid (Mo.call H_T3.out hB)
           clear hB
           go_wp2_with fail
           refine (awake_ok v1).mono ?_
           rintro e_ v2 ⟨rfl, hB⟩
           have H_v2 := Lib.hid (Mo.call H_v1.out hB)
           clear hB
           go_wp2_with fail
           go_ret
           exact ⟨rfl, H_v2.out.below⟩
         subst h0
         have hsay := shares_says HE.out (x := qy) (y := qx) HLE.out
         rw [HRA.out, HRB.out] at hsay
         obtain ⟨s4, hs4⟩ : ∃ s4, cmpQ ra 0 = s4 := ⟨_, rfl⟩
         obtain ⟨s5, hs5⟩ : ∃ s5, cmpQ ra rb = s5 := ⟨_, rfl⟩
         obtain ⟨s6, hs6⟩ : ∃ s6, cmpQ rb ((1 : Int) : Rat) = s6 := ⟨_, rfl⟩
         have y4 : 0 ≤ s4 := by rw [← hs4]; exact cmpQ_geE.2 (Rat.not_lt.2 hsay.1)
         have y5 : s5 ≤ 0 := by rw [← hs5]; exact cmpQ_leE.2 (Rat.not_lt.2 hsay.2.1)
         have y6 : s6 ≤ 0 := by rw [← hs6]; exact cmpQ_leE.2 (Rat.not_lt.2 hsay.2.2)
         have dd4 : decide (s4 < 0) = false := decide_eq_false (by omega)
         have dd5 : decide (0 < s5) = false := decide_eq_false (by omega)
         have dd6 : decide (0 < s6) = false := decide_eq_false (by omega)
         have HS4 := Lib.hid hs4
         have HS5 := Lib.hid hs5
         have HS6 := Lib.hid hs6
         clear hsay hs4 hs5 hs6
         go_upto_region 11 with fail
         have k5T3c0 := ((H_T3.out.var 5 rfl)).cell 0 rfl
         have k5T3c1 := ((H_T3.out.var 5 rfl)).cell 1 rfl
         have k5T3c2 := ((H_T3.out.var 5 rfl)).cell 2 rfl
         have k6T3c0 := ((H_T3.out.var 6 rfl)).cell 0 rfl
         have k6T3c1 := ((H_T3.out.var 6 rfl)).cell 1 rfl
         have k6T3c2 := ((H_T3.out.var 6 rfl)).cell 2 rfl
         have k2T3c0 := ((H_T3.out.var 2 rfl)).cell 0 rfl
         have k2T3c1 := ((H_T3.out.var 2 rfl)).cell 1 rfl
         have k2T3c2 := ((H_T3.out.var 2 rfl)).cell 2 rfl
         have k7T3c0 := ((H_T3.out.var 7 rfl)).cell 0 rfl
         have k7T3c1 := ((H_T3.out.var 7 rfl)).cell 1 rfl
         have k7T3c2 := ((H_T3.out.var 7 rfl)).cell 2 rfl
         have H_T3d := Lib.hid H_T3.out.drew
         first
         | go_region_held3 (fun w' => w'.cell? ⟨r1.heap.size, 0, none⟩ = some (.bool b1) ∧ w'.cell? ⟨r1.heap.size, 1, none⟩ = some (.slice A1 x1.length c1) ∧ w'.cell? ⟨r1.heap.size, 2, none⟩ = some (.slice B1 y1.length d1) ∧ w'.cell? ⟨r2.heap.size, 0, none⟩ = some (.bool b2) ∧ w'.cell? ⟨r2.heap.size, 1, none⟩ = some (.slice A2 x2.length c2) ∧ w'.cell? ⟨r2.heap.size, 2, none⟩ = some (.slice B2 y2.length d2)) (go_keep)
            (first
             | (go_at_call 15
                with_reducible (show Calls Try.prog _ _ T3.drew _)
                refine (qsign_ok _ b1 A1 B1 c1 d1 x1 y1 (H_T3d.out.rn 0 rfl) (H_T3d.out.rn 1 rfl) (by have := HL1.out; omega) (by have := HL1.out; omega)).mono ?_
                rw [sign_qv ((H_T3d.out.rn 1 rfl)).2, HV1.out, HS4.out]
                rintro e_ u1 ⟨rfl, hB⟩
                have H_u1 := Lib.hid (Mo.call H_T3d.out hB)
                have k5u1c0 := ((H_u1.out.var 5 rfl)).cell 0 rfl
                have k5u1c1 := ((H_u1.out.var 5 rfl)).cell 1 rfl
                have k5u1c2 := ((H_u1.out.var 5 rfl)).cell 2 rfl
                have k6u1c0 := ((H_u1.out.var 6 rfl)).cell 0 rfl
                have k6u1c1 := ((H_u1.out.var 6 rfl)).cell 1 rfl
                have k6u1c2 := ((H_u1.out.var 6 rfl)).cell 2 rfl
                have k2u1c0 := ((H_u1.out.var 2 rfl)).cell 0 rfl
                have k2u1c1 := ((H_u1.out.var 2 rfl)).cell 1 rfl
                have k2u1c2 := ((H_u1.out.var 2 rfl)).cell 2 rfl
                have k7u1c0 := ((H_u1.out.var 7 rfl)).cell 0 rfl
                have k7u1c1 := ((H_u1.out.var 7 rfl)).cell 1 rfl
                have k7u1c2 := ((H_u1.out.var 7 rfl)).cell 2 rfl
                clear hB)
             | (go_at_call 16
                with_reducible (show Calls Try.prog _ _ u1 _)
                refine (qcmp_ok u1 b1 b2 A1 B1 A2 B2 c1 d1 c2 d2 x1 y1 x2 y2 (H_u1.out.rn 0 rfl) (H_u1.out.rn 1 rfl) (H_u1.out.rn 2 rfl) (H_u1.out.rn 3 rfl) (by have := HL1.out; omega) (by have := HL1.out; omega) (by have := HL2.out; omega) (by have := HL2.out; omega)).mono ?_
                rw [cmp_qv ((H_u1.out.rn 1 rfl)).2 ((H_u1.out.rn 3 rfl)).2, HV1.out, HV2.out, HS5.out]
                rintro e_ u2 ⟨rfl, hB⟩
                have H_u2 := Lib.hid (Mo.call H_u1.out hB)
                have k5u2c0 := ((H_u2.out.var 5 rfl)).cell 0 rfl
                have k5u2c1 := ((H_u2.out.var 5 rfl)).cell 1 rfl
                have k5u2c2 := ((H_u2.out.var 5 rfl)).cell 2 rfl
                have k6u2c0 := ((H_u2.out.var 6 rfl)).cell 0 rfl
                have k6u2c1 := ((H_u2.out.var 6 rfl)).cell 1 rfl
                have k6u2c2 := ((H_u2.out.var 6 rfl)).cell 2 rfl
                have k2u2c0 := ((H_u2.out.var 2 rfl)).cell 0 rfl
                have k2u2c1 := ((H_u2.out.var 2 rfl)).cell 1 rfl
                have k2u2c2 := ((H_u2.out.var 2 rfl)).cell 2 rfl
                have k7u2c0 := ((H_u2.out.var 7 rfl)).cell 0 rfl
                have k7u2c1 := ((H_u2.out.var 7 rfl)).cell 1 rfl
                have k7u2c2 := ((H_u2.out.var 7 rfl)).cell 2 rfl
                clear hB)
             | (go_at_call 14
                with_reducible (show Calls Try.prog _ _ u2 _)
                refine (part_ok u2 1 1 (by omega) (by omega) (by omega) (by omega)).mono ?_
                rw [show (1 : Int).toNat = 1 from rfl, mkRat_int]
                rintro e_ u3 ⟨b4, A4, c4, x4, B4, d4, y4, rfl, HQa4, HQb4, HQc4, hx4, hy4, hB⟩
                have H_u3 := Lib.hid (Mo.num (Mo.num (Mo.call H_u2.out hB) hx4) hy4)
                have k5u3c0 := ((H_u3.out.var 5 rfl)).cell 0 rfl
                have k5u3c1 := ((H_u3.out.var 5 rfl)).cell 1 rfl
                have k5u3c2 := ((H_u3.out.var 5 rfl)).cell 2 rfl
                have k6u3c0 := ((H_u3.out.var 6 rfl)).cell 0 rfl
                have k6u3c1 := ((H_u3.out.var 6 rfl)).cell 1 rfl
                have k6u3c2 := ((H_u3.out.var 6 rfl)).cell 2 rfl
                have k2u3c0 := ((H_u3.out.var 2 rfl)).cell 0 rfl
                have k2u3c1 := ((H_u3.out.var 2 rfl)).cell 1 rfl
                have k2u3c2 := ((H_u3.out.var 2 rfl)).cell 2 rfl
                have k7u3c0 := ((H_u3.out.var 7 rfl)).cell 0 rfl
                have k7u3c1 := ((H_u3.out.var 7 rfl)).cell 1 rfl
                have k7u3c2 := ((H_u3.out.var 7 rfl)).cell 2 rfl
                have HV4 : Hid (qv b4 x4 y4 = ((1 : Int) : Rat)) := qv_nf HQa4.out HQb4.out HQc4.out
                have HL4 : Hid (x4.length ≤ 1 ∧ y4.length ≤ 1) := szl HQb4.out HQc4.out (sz_int (by omega))
                clear hB hx4 hy4)
             | (go_at_call 16
                with_reducible (show Calls Try.prog _ _ u3 _)
                refine (qcmp_ok u3 b2 b4 A2 B2 A4 B4 c2 d2 c4 d4 x2 y2 x4 y4 (H_u3.out.rn 2 rfl) (H_u3.out.rn 3 rfl) (H_u3.out.rn 6 rfl) (H_u3.out.rn 7 rfl) (by have := HL2.out; omega) (by have := HL2.out; omega) (by have := HL4.out; omega) (by have := HL4.out; omega)).mono ?_
                rw [cmp_qv ((H_u3.out.rn 3 rfl)).2 ((H_u3.out.rn 7 rfl)).2, HV2.out, HV4.out, HS6.out]
                rintro e_ u4 ⟨rfl, hB⟩
                have H_u4 := Lib.hid (Mo.call H_u3.out hB)
                have k5u4c0 := ((H_u4.out.var 5 rfl)).cell 0 rfl
                have k5u4c1 := ((H_u4.out.var 5 rfl)).cell 1 rfl
                have k5u4c2 := ((H_u4.out.var 5 rfl)).cell 2 rfl
                have k6u4c0 := ((H_u4.out.var 6 rfl)).cell 0 rfl
                have k6u4c1 := ((H_u4.out.var 6 rfl)).cell 1 rfl
                have k6u4c2 := ((H_u4.out.var 6 rfl)).cell 2 rfl
                have k2u4c0 := ((H_u4.out.var 2 rfl)).cell 0 rfl
                have k2u4c1 := ((H_u4.out.var 2 rfl)).cell 1 rfl
                have k2u4c2 := ((H_u4.out.var 2 rfl)).cell 2 rfl
                have k7u4c0 := ((H_u4.out.var 7 rfl)).cell 0 rfl
                have k7u4c1 := ((H_u4.out.var 7 rfl)).cell 1 rfl
                have k7u4c2 := ((H_u4.out.var 7 rfl)).cell 2 rfl
                clear hB))
         | fail
         obtain ⟨s7, hs7⟩ : ∃ s7, cmpQ qp 0 = s7 := ⟨_, rfl⟩
         obtain ⟨s8, hs8⟩ : ∃ s8, cmpQ qp ((1 : Int) : Rat) = s8 := ⟨_, rfl⟩
         have HS7 := Lib.hid hs7
         have HS8 := Lib.hid hs8
         clear hs7 hs8
         go_wp2_with fail
         by_cases h7 : s7 < 0
         · have dd7 : decide (s7 < 0) = true := decide_eq_true h7
           obtain rfl : e3 = 3 := inv_out HI.out HE.out (.inl (cmpQ_lt.1 (by rw [HS7.out]; exact h7)))
           have H_u4d := Lib.hid H_u4.out.drew
           go_region_with
              (first
               | (go_at_call 15
                  with_reducible (show Calls Try.prog _ _ u4.drew _)
                  refine (qsign_ok _ pb pA pD pc pe pn pd (N_p.out.below H_u4d.out.below) (D_p.out.below H_u4d.out.below) (by omega) (by omega)).mono ?_
                  rw [sign_qv D_p.out.2, Q_p.out, HS7.out]
                  rintro e_ v0 ⟨rfl, hB⟩
                  have H_v0 := Lib.hid (Mo.call H_u4d.out hB)
                  have k2v0c0 := ((H_v0.out.var 2 rfl)).cell 0 rfl
                  have k2v0c1 := ((H_v0.out.var 2 rfl)).cell 1 rfl
                  have k2v0c2 := ((H_v0.out.var 2 rfl)).cell 2 rfl
                  clear hB))
           all_goals
             (go_wp2_with fail
              refine (awake_ok v0).mono ?_
              rintro e_ v2 ⟨rfl, hB⟩
              have H_v2 := Lib.hid (Mo.call H_v0.out hB)
              clear hB
              go_wp2_with fail
              go_ret
              exact ⟨rfl, H_v2.out.below⟩)
         have dd7 : decide (s7 < 0) = false := decide_eq_false h7
         have y7 : 0 ≤ s7 := by omega
         have HP0 : Hid (¬ qp < 0) := fun h => by have := cmpQ_lt.2 h; rw [HS7.out] at this; omega
         clear h7
         have H_u4d := Lib.hid H_u4.out.drew
         first
         | go_region_held3 (fun w' => w'.cell? ⟨gW2, 0, none⟩ = some (.bool pb) ∧ w'.cell? ⟨gW2, 1, none⟩ = some (.slice pA pn.length pc) ∧ w'.cell? ⟨gW2, 2, none⟩ = some (.slice pD pd.length pe)) (go_keep)
            (first
             | (go_at_call 15
                with_reducible (show Calls Try.prog _ _ u4.drew _)
                refine (qsign_ok _ pb pA pD pc pe pn pd (N_p.out.below H_u4d.out.below) (D_p.out.below H_u4d.out.below) (by omega) (by omega)).mono ?_
                rw [sign_qv D_p.out.2, Q_p.out, HS7.out]
                rintro e_ v0 ⟨rfl, hB⟩
                have H_v0 := Lib.hid (Mo.call H_u4d.out hB)
                have k2v0c0 := ((H_v0.out.var 2 rfl)).cell 0 rfl
                have k2v0c1 := ((H_v0.out.var 2 rfl)).cell 1 rfl
                have k2v0c2 := ((H_v0.out.var 2 rfl)).cell 2 rfl
                have k7v0c0 := ((H_v0.out.var 7 rfl)).cell 0 rfl
                have k7v0c1 := ((H_v0.out.var 7 rfl)).cell 1 rfl
                have k7v0c2 := ((H_v0.out.var 7 rfl)).cell 2 rfl
                clear hB)
             | (go_at_call 14
                with_reducible (show Calls Try.prog _ _ v0 _)
                refine (part_ok v0 1 1 (by omega) (by omega) (by omega) (by omega)).mono ?_
                rw [show (1 : Int).toNat = 1 from rfl, mkRat_int]
                rintro e_ v1 ⟨b6, A6, c6, x6, B6, d6, y6, rfl, HQa6, HQb6, HQc6, hx6, hy6, hB⟩
                have H_v1 := Lib.hid (Mo.num (Mo.num (Mo.call H_v0.out hB) hx6) hy6)
                have k2v1c0 := ((H_v1.out.var 2 rfl)).cell 0 rfl
                have k2v1c1 := ((H_v1.out.var 2 rfl)).cell 1 rfl
                have k2v1c2 := ((H_v1.out.var 2 rfl)).cell 2 rfl
                have k7v1c0 := ((H_v1.out.var 7 rfl)).cell 0 rfl
                have k7v1c1 := ((H_v1.out.var 7 rfl)).cell 1 rfl
                have k7v1c2 := ((H_v1.out.var 7 rfl)).cell 2 rfl
                have HV6 : Hid (qv b6 x6 y6 = ((1 : Int) : Rat)) := qv_nf HQa6.out HQb6.out HQc6.out
                have HL6 : Hid (x6.length ≤ 1 ∧ y6.length ≤ 1) := szl HQb6.out HQc6.out (sz_int (by omega))
                clear hB hx6 hy6)
             | (go_at_call 16
                with_reducible (show Calls Try.prog _ _ v1 _)
                refine (qcmp_ok v1 pb b6 pA pD A6 B6 pc pe c6 d6 pn pd x6 y6 (N_p.out.below H_v1.out.below) (D_p.out.below H_v1.out.below) (H_v1.out.rn 8 rfl) (H_v1.out.rn 9 rfl) (by omega) (by omega) (by have := HL6.out; omega) (by have := HL6.out; omega)).mono ?_
                rw [cmp_qv D_p.out.2 ((H_v1.out.rn 9 rfl)).2, Q_p.out, HV6.out, HS8.out]
                rintro e_ v3 ⟨rfl, hB⟩
                have H_v3 := Lib.hid (Mo.call H_v1.out hB)
                have k2v3c0 := ((H_v3.out.var 2 rfl)).cell 0 rfl
                have k2v3c1 := ((H_v3.out.var 2 rfl)).cell 1 rfl
                have k2v3c2 := ((H_v3.out.var 2 rfl)).cell 2 rfl
                have k7v3c0 := ((H_v3.out.var 7 rfl)).cell 0 rfl
                have k7v3c1 := ((H_v3.out.var 7 rfl)).cell 1 rfl
                have k7v3c2 := ((H_v3.out.var 7 rfl)).cell 2 rfl
                clear hB))
         | fail
         by_cases h8 : 0 < s8
         · have dd8 : decide (0 < s8) = true := decide_eq_true h8
           obtain rfl : e3 = 3 := inv_out HI.out HE.out (.inr (by
             refine Classical.byContradiction fun h => ?_
             have h2 : cmpQ qp ((1 : Int) : Rat) ≤ 0 := cmpQ_leE.2 h
             rw [HS8.out] at h2
             omega))
           go_wp2_with fail
           refine (awake_ok v3).mono ?_
           rintro e_ v2 ⟨rfl, hB⟩
           have H_v2 := Lib.hid (Mo.call H_v3.out hB)
           clear hB
           go_wp2_with fail
           go_ret
           exact ⟨rfl, H_v2.out.below⟩
         have dd8 : decide (0 < s8) = false := decide_eq_false h8
         have y8 : s8 ≤ 0 := by omega
         have HP1 : Hid (¬ (qp < 0 ∨ 1 < qp)) := fun h => by
           rcases h with h | h
           · exact HP0.out h
           · have h2 : ¬ cmpQ qp ((1 : Int) : Rat) ≤ 0 := fun h3 => cmpQ_leE.1 h3 h
             rw [HS8.out] at h2
             omega
         obtain ⟨rfl, hrk⟩ := inv_in HI.out HE.out HP1.out
         have HRK := Lib.hid hrk
         clear h8 hrk
         go_wp2_with fail
         refine (rank_okE v3 FA fc f (HR.out.below H_v3.out.below) b3 A3 B3 c3 d3 x3 y3 (H_v3.out.rn 4 rfl) (H_v3.out.rn 5 rfl) (by have := HL3.out; omega) (by have := HL3.out; omega)).mono ?_
         rw [HV3.out, HRK.out, HE.out]
         rintro e_ v4 ⟨b8, A8, c8, x8, B8, d8, y8, rfl, HQa8, HQb8, HQc8, hx8, hy8, hB⟩
         have H_v4 := Lib.hid (Mo.num (Mo.num (Mo.call H_v3.out hB) hx8) hy8)
         have HV8 : Hid (qv b8 x8 y8 = qp) := qv_nf HQa8.out HQb8.out HQc8.out
         have HL8 : Hid (x8.length ≤ 35184372088121 ∧ y8.length ≤ 35184372088121) := szl HQb8.out HQc8.out (Z_p.out.mono (by omega))
         clear hB hx8 hy8
         go_upto_region 16 with fail
         obtain ⟨T5, hT5⟩ : ∃ T5, T5 = v4.alloc (.cells #[.bool b8, .slice A8 x8.length c8, .slice B8 y8.length d8] 28) := ⟨_, rfl⟩
         rw [← hT5]
         have H_T5 : Hid (Mo w T5 _ _) := Lib.hid (by rw [hT5]; exact H_v4.out.alloc (t := 28) (cs := #[.bool b8, .slice A8 x8.length c8, .slice B8 y8.length d8]) (nd_rat _ _ _ _ _ _ _))
         clear hT5
         have k2T5c0 := ((H_T5.out.var 2 rfl)).cell 0 rfl
         have k2T5c1 := ((H_T5.out.var 2 rfl)).cell 1 rfl
         have k2T5c2 := ((H_T5.out.var 2 rfl)).cell 2 rfl
         have k8T5c0 := ((H_T5.out.var 8 rfl)).cell 0 rfl
         have k8T5c1 := ((H_T5.out.var 8 rfl)).cell 1 rfl
         have k8T5c2 := ((H_T5.out.var 8 rfl)).cell 2 rfl
         go_wp2_with fail
         refine (qcmp_ok T5 b8 pb A8 B8 pA pD c8 d8 pc pe x8 y8 pn pd (H_T5.out.rn 10 rfl) (H_T5.out.rn 11 rfl) (N_p.out.below H_T5.out.below) (D_p.out.below H_T5.out.below) (by have := HL8.out; omega) (by have := HL8.out; omega) (by omega) (by omega)).mono ?_
         rw [cmp_qv ((H_T5.out.rn 11 rfl)).2 D_p.out.2, HV8.out, Q_p.out, cmp_same]
         rintro e_ v5 ⟨rfl, hB⟩
         have H_v5 := Lib.hid (Mo.call H_T5.out hB)
         clear hB
         go_wp2_with fail
         refine (awake_ok v5).mono ?_
         rintro e_ v6 ⟨rfl, hB⟩
         have H_v6 := Lib.hid (Mo.call H_v5.out hB)
         clear hB
         go_wp2_with fail
         go_ret
         exact ⟨rfl, H_v6.out.below⟩)
theorem shares_row (w : World) (A : Option Addr) (c : Nat) (l : List Int) (hp : Rk w .i64 A c l) (hwf : ∀ x ∈ l, (Lit.int .i64 x).wf = true) (hsz : l.length * 8 ≤ 140737488351232) (xb : Bool) (xA xD : Option Addr) (xc xe : Nat) (xn xd : List Int) (hxn : RN w xA xc xn) (hxd : RN w xD xe xd) (sxn : xn.length * 4 ≤ 140737488351232) (sxd : xd.length * 4 ≤ 140737488351232) (yb : Bool) (yA yD : Option Addr) (yc ye : Nat) (yn yd : List Int) (hyn : RN w yA yc yn) (hyd : RN w yD ye yd) (syn : yn.length * 4 ≤ 140737488351232) (syd : yd.length * 4 ≤ 140737488351232) (pb : Bool) (pA pD : Option Addr) (pc pe : Nat) (pn pd : List Int) (hpn : RN w pA pc pn) (hpd : RN w pD pe pd) (spn : pn.length * 4 ≤ 140737488351232) (spd : pd.length * 4 ≤ 140737488351232) :
    Calls Try.prog 6 #[.slice A l.length c, .agg #[.bool xb, .slice xA xn.length xc, .slice xD xd.length xe], .agg #[.bool yb, .slice yA yn.length yc, .slice yD yd.length ye], .agg #[.bool pb, .slice pA pn.length pc, .slice pD pd.length pe]] w (RetT w) :=
  shares_ok w A c l hp xb xA xD xc xe xn xd hxn hxd (by omega) (by omega) yb yA yD yc ye yn yd hyn hyd (by omega) (by omega) pb pA pD pc pe pn pd hpn hpd (by omega) (by omega)

end Go.Proofs.Ytocpncjmcaecoaa.M
