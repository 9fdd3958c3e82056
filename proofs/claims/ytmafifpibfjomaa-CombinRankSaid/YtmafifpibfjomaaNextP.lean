/- The next subset, in plain lists; a copy that is then written to. -/
import Derived.Test.YtmafifpibfjomaaRefM
namespace Go.Proofs.Ytmafifpibfjomaa.M
open Go.RowKit
set_option linter.unusedVariables false
set_option linter.unusedSimpArgs false

/-- The last index below m whose number can grow. -/
def nxAt (n : Int) (l : List Int) : Nat → Option Nat
  | 0 => none
  | i + 1 => if dg l i < n - l.length + i then some i else nxAt n l i
theorem nxAt_some {n : Int} {l : List Int} : ∀ {m i : Nat}, nxAt n l m = some i → i < m ∧ dg l i < n - l.length + i ∧ ∀ j, i < j → j < m → n - l.length + j ≤ dg l j := by
  intro m
  induction m with
  | zero => intro i h; cases h
  | succ m ih =>
    intro i h
    unfold nxAt at h
    split at h
    · rename_i hc
      cases h
      exact ⟨by omega, hc, fun j h1 h2 => by omega⟩
    · rename_i hc
      obtain ⟨h1, h2, h3⟩ := ih h
      refine ⟨by omega, h2, fun j h4 h5 => ?_⟩
      rcases Nat.lt_or_ge j m with h6 | h6
      · exact h3 j h4 h6
      · obtain rfl : j = m := by omega
        omega
theorem nxAt_none {n : Int} {l : List Int} : ∀ {m : Nat}, nxAt n l m = none → ∀ j, j < m → n - l.length + j ≤ dg l j := by
  intro m
  induction m with
  | zero => intro _ j h; omega
  | succ m ih =>
    intro h j hj
    unfold nxAt at h
    split at h
    · cases h
    · rename_i hc
      rcases Nat.lt_or_ge j m with h6 | h6
      · exact ih h j h6
      · obtain rfl : j = m := by omega
        omega
theorem up_top {n q : Int} {l : List Int} (h : up n q l = true) (i : Nat) (hi : i < l.length) : dg l i ≤ n - l.length + i := by
  have h1 := up_ge (up_drop h i hi)
  have h2 := up_mem h i hi
  rw [List.length_drop] at h1
  omega
/-- The subset that follows, if the number at i grows. -/
def nxF (l : List Int) (i : Nat) : List Int := l.take i ++ runI (dg l i + 1) (l.length - i)
theorem nxF_len {l : List Int} {i : Nat} (h : i ≤ l.length) : (nxF l i).length = l.length := by
  simp [nxF, runI_len]; omega
theorem dg_runI : ∀ (c : Nat) (a : Int) (t : Nat), t < c → dg (runI a c) t = a + t := by
  intro c
  induction c with
  | zero => intro a t h; omega
  | succ c ih =>
    intro a t h
    cases t with
    | zero => show a = _; omega
    | succ t =>
      have := ih (a + 1) t (by omega)
      show dg (runI (a + 1) c) t = _
      rw [this]
      omega
theorem dg_app (p s : List Int) (t : Nat) : dg (p ++ s) t = if t < p.length then dg p t else dg s (t - p.length) := by
  unfold dg
  split
  · rename_i h; simp [List.getElem?_append_left h, List.getD]
  · rename_i h; simp [List.getElem?_append_right (by omega : p.length ≤ t), List.getD]
theorem nxF_lt {l : List Int} {i t : Nat} (hi : i < l.length) (h : t < i) : dg (nxF l i) t = dg l t := by
  unfold nxF
  rw [dg_app, if_pos (by simp; omega), dg_take, if_pos h]
theorem nxF_ge {l : List Int} {i t : Nat} (h1 : i ≤ t) (h2 : t < l.length) : dg (nxF l i) t = dg l i + 1 + t - i := by
  unfold nxF
  have e : (l.take i).length = i := by simp; omega
  rw [dg_app, e, if_neg (by omega), dg_runI _ _ _ (by omega)]
  omega
theorem dg_ext {a b : List Int} (h : a.length = b.length) (hd : ∀ t, t < a.length → dg a t = dg b t) : a = b := by
  refine List.ext_getElem h fun t h1 h2 => ?_
  rw [← dg_get h1, ← dg_get h2]
  exact hd t h1
theorem take_snoc_dg {F : List Int} {i : Nat} (h : i < F.length) : F.take i ++ [dg F i] = F.take (i + 1) := by
  rw [List.take_succ_eq_append_getElem h, dg_get h]
theorem nxF_up {n : Nat} {l : List Int} {i : Nat} (h : up n (-1) l = true) (hi : i < l.length) (hc : dg l i < (n : Int) - l.length + i) : up n (-1) (nxF l i) = true := by
  unfold nxF
  refine up_take h hi ?_
  have := run_up (l.length - i) n (dg l i + 1) (by omega)
  rwa [show dg l i + 1 - 1 = dg l i by omega] at this
theorem dg_drop' (l : List Int) (i j : Nat) : dg (l.drop i) j = dg l (i + j) := by simp [dg, List.getD]
/-- The rank of the subset that follows. -/
theorem nxF_rank {n : Nat} {l : List Int} {i : Nat} (h : up n (-1) l = true) (hs : nxAt n l l.length = some i) : rnk n 0 (nxF l i) = rnk n 0 l + 1 ∧ rnk n 0 l + 1 < ch n l.length := by
  obtain ⟨hi, hc, hr⟩ := nxAt_some hs
  have hm := up_mem h i hi
  have hf : aft n (l.drop (i + 1)) = 0 := by
    refine aft_full _ _ (fun j hj => ?_) (fun j hj => ?_) ?_
    · rw [List.length_drop] at hj ⊢
      rw [dg_drop']
      have := hr (i + 1 + j) (by omega) (by omega)
      omega
    · rw [List.length_drop] at hj
      rw [dg_drop']
      exact (up_mem h _ (by omega)).2
    · have := up_len h
      rw [List.length_drop]
      omega
  have h1 := nxt_aft (n := n) hi (by omega) hc hf
  have h2 := rnk_lt h
  have h3 := rnk_lt (nxF_up h hi hc)
  rw [nxF_len (by omega)] at h3
  unfold nxF at h3 ⊢
  omega
theorem nx_last {n : Nat} {l : List Int} (h : up n (-1) l = true) (hs : nxAt n l l.length = none) : rnk n 0 l + 1 = ch n l.length := by
  have h1 := rnk_lt h
  have h2 : aft n l = 0 := aft_full l n (fun j hj => nxAt_none hs j hj) (fun j hj => (up_mem h j hj).2) (up_len h)
  omega

theorem append_bk {P : Program} (t ty e : TypeId) (i : TypeInfo) (k : IntKind) (ht : P.underlying t = some (.slice e)) (hi : P.info? e = some i) (hz : i.zero = some (.int k 0)) (hsz : i.size = 1)
    (W : World) (g : Nat) (A : Option Addr) (c : Nat) (ys : List Int) (h : Rk W k A c ys) (h0 : 0 < ys.length) (hb : ys.length * i.bytes ≤ 281474976710656) :
    ∃ (s : List Int) (W' : World), (Builtin.append_ #[t, t] ty #[.slice (some ⟨g, 0, none⟩) 0 0, .slice A ys.length c]).run P W = .ok (.slice (some ⟨W.heap.size, 0, none⟩) ys.length (ys ++ s).length) W' ∧ (ys ++ s).length ≤ 9223372036854775807 ∧ Bk W' W.heap.size e k (ys ++ s) ∧ Below W.heap.size W W' := by
  obtain ⟨h1, h2, h3⟩ := h
  obtain ⟨ad, rfl, _⟩ := h3 0 (by omega)
  have hn : (ys.map (Value.int k)).length = ys.length * i.size := by simp [hsz]
  have hc : ∀ j v, (ys.map (Value.int k))[j]? = some v → W.cell? (ad.add j) = some v := by
    intro j v hv
    rw [List.getElem?_map] at hv
    obtain ⟨x, hx, rfl⟩ := Option.map_eq_some_iff.1 hv
    obtain ⟨hj, rfl⟩ := List.getElem?_eq_some_iff.1 hx
    obtain ⟨ad', e', hc'⟩ := h3 j hj
    cases e'
    rwa [dg_get hj] at hc'
  have hr := run_append_grow (P := P) W t ty e i _ ht hi hz ⟨g, 0, none⟩ 0 0 [] (by simp) (by simp) ad ys.length c _ hn hc (by omega) (by omega) (by rw [Nat.zero_add, nextslicecap_zero (by omega)]; exact hb)
  rw [Nat.zero_add] at hr
  have hge := grownCap_ge W ys.length 0 e
  have hle := grownCap_le_maxLen W ys.length 0 e (by simp only [maxLen]; omega)
  simp only [maxLen] at hle
  have hlen : (ys ++ List.replicate (grownCap W ys.length 0 e - ys.length) 0).length = grownCap W ys.length 0 e := by simp; omega
  refine ⟨List.replicate (grownCap W ys.length 0 e - ys.length) 0, _, by rw [hlen]; exact hr, by rw [hlen]; exact hle, ?_, (below_drewN (Below.refl _ _) 1).alloc (Nat.le_refl _) _⟩
  have e1 : Builtin.zeroCells (Value.int k 0).cells (grownCap W ys.length 0 e - ys.length) = ((List.replicate (grownCap W ys.length 0 e - ys.length) 0).map (Value.int k)).toArray := by
    apply Array.ext
    · simp [Builtin.zeroCells, Value.cells]
    · intro i h1 h2
      simp [Builtin.zeroCells, Value.cells, Nat.mod_one]
  rw [e1]
  unfold Bk
  rw [List.map_append, ← List.append_toArray]
  simp only [Array.empty_append]
  exact heap_new (W.drewN 1) _

end Go.Proofs.Ytmafifpibfjomaa.M
