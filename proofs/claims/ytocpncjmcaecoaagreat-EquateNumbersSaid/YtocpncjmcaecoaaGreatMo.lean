/- A call's own memory, told in one word: its variables and its numbers. -/
import Derived.Test.YtocpncjmcaecoaaGreatRatD
namespace Go.Proofs.YtocpncjmcaecoaaGreat.M
set_option maxRecDepth 10000
open Go.RowKit
set_option linter.unusedVariables false

/-- Nothing of w0 has changed; these variables hold these cells, and these numbers can be read. -/
structure Mo (w0 w : World) (m : List (Nat × Nat × Array Value)) (ns : List (Option Addr × Nat × List Int)) : Prop where
  below : Below w0.heap.size w0 w
  vars : ∀ (k g t : Nat) (cs : Array Value), m[k]? = some (g, t, cs) → Vr w g t cs ∧ NoDigits cs ∧ w0.heap.size ≤ g
  apart : ∀ (i j gi ti : Nat) (ci : Array Value) (gj tj : Nat) (cj : Array Value), m[i]? = some (gi, ti, ci) → m[j]? = some (gj, tj, cj) → i ≠ j → gi ≠ gj
  nums : ∀ (k : Nat) (A : Option Addr) (c : Nat) (xs : List Int), ns[k]? = some (A, c, xs) → RN w A c xs
theorem Mo.start (w : World) : Mo w w [] [] := ⟨Below.refl _ _, fun _ _ _ _ h => by simp at h, fun _ _ _ _ _ _ _ _ h => by simp at h, fun _ _ _ _ h => by simp at h⟩
theorem Mo.var {w0 w : World} {m : List (Nat × Nat × Array Value)} {ns : List (Option Addr × Nat × List Int)} (H : Mo w0 w m ns) (k : Nat) {g t : Nat} {cs : Array Value} (hk : m[k]? = some (g, t, cs)) : Vr w g t cs := (H.vars k g t cs hk).1
theorem Mo.rn {w0 w : World} {m : List (Nat × Nat × Array Value)} {ns : List (Option Addr × Nat × List Int)} (H : Mo w0 w m ns) (k : Nat) {A : Option Addr} {c : Nat} {xs : List Int} (hk : ns[k]? = some (A, c, xs)) : RN w A c xs := H.nums k A c xs hk
theorem Mo.call {w0 w w1 : World} {m : List (Nat × Nat × Array Value)} {ns : List (Option Addr × Nat × List Int)} (H : Mo w0 w m ns) (hB : Below w.heap.size w w1) : Mo w0 w1 m ns :=
  ⟨H.below.trans (hB.mono H.below.size), fun k g t cs h => ⟨(H.vars k g t cs h).1.below' hB, (H.vars k g t cs h).2⟩, H.apart, fun k A c xs h => (H.nums k A c xs h).below hB⟩
theorem Mo.drew {w0 w : World} {m : List (Nat × Nat × Array Value)} {ns : List (Option Addr × Nat × List Int)} (H : Mo w0 w m ns) : Mo w0 w.drew m ns := H.call (Below.refl _ _).drew
theorem Mo.num {w0 w : World} {m : List (Nat × Nat × Array Value)} {ns : List (Option Addr × Nat × List Int)} (H : Mo w0 w m ns) {A : Option Addr} {c : Nat} {xs : List Int} (h : RN w A c xs) : Mo w0 w m (ns ++ [(A, c, xs)]) := by
  refine ⟨H.below, H.vars, H.apart, fun k A' c' xs' hk => ?_⟩
  rcases Nat.lt_or_ge k ns.length with h1 | h1
  · rw [List.getElem?_append_left h1] at hk
    exact H.nums k A' c' xs' hk
  · rw [List.getElem?_append_right h1, List.getElem?_singleton] at hk
    split at hk
    · injection hk with hk
      injection hk with e1 e2
      injection e2 with e2 e3
      subst e1 e2 e3
      exact h
    · cases hk
theorem Mo.alloc {w0 w : World} {m : List (Nat × Nat × Array Value)} {ns : List (Option Addr × Nat × List Int)} (H : Mo w0 w m ns) {t : Nat} {cs : Array Value} (hn : NoDigits cs) : Mo w0 (w.alloc (.cells cs t (0, 0))) (m ++ [(w.heap.size, t, cs)]) ns := by
  have hb : Below w.heap.size w (w.alloc (.cells cs t (0, 0))) := (Below.refl _ _).alloc (Nat.le_refl _) _
  have H1 := H.call hb
  refine ⟨H1.below, fun k g t' cs' hk => ?_, fun i j gi ti ci gj tj cj hi hj hne => ?_, H1.nums⟩
  · rcases Nat.lt_or_ge k m.length with h1 | h1
    · rw [List.getElem?_append_left h1] at hk
      exact H1.vars k g t' cs' hk
    · rw [List.getElem?_append_right h1, List.getElem?_singleton] at hk
      split at hk
      · injection hk with hk
        injection hk with e1 e2
        injection e2 with e2 e3
        subst e1 e2 e3
        exact ⟨Vr.new w t cs, hn, H.below.size⟩
      · cases hk
  · have hlt : ∀ (k g t' : Nat) (cs' : Array Value), m[k]? = some (g, t', cs') → g < w.heap.size := fun k g t' cs' h => (H.vars k g t' cs' h).1.lt
    rcases Nat.lt_or_ge i m.length with h1 | h1
    · rw [List.getElem?_append_left h1] at hi
      rcases Nat.lt_or_ge j m.length with h2 | h2
      · rw [List.getElem?_append_left h2] at hj
        exact H.apart i j gi ti ci gj tj cj hi hj hne
      · rw [List.getElem?_append_right h2, List.getElem?_singleton] at hj
        split at hj
        · injection hj with hj
          injection hj with e1 e2
          subst e1
          exact Nat.ne_of_lt (hlt _ _ _ _ hi)
        · cases hj
    · rw [List.getElem?_append_right h1, List.getElem?_singleton] at hi
      split at hi
      · injection hi with hi
        injection hi with e1 e2
        subst e1
        rcases Nat.lt_or_ge j m.length with h2 | h2
        · rw [List.getElem?_append_left h2] at hj
          exact (Nat.ne_of_lt (hlt _ _ _ _ hj)).symm
        · rw [List.getElem?_append_right h2, List.getElem?_singleton] at hj
          split at hj
          · omega
          · cases hj
      · cases hi
theorem Mo.alloc' {w0 w : World} {m : List (Nat × Nat × Array Value)} {ns : List (Option Addr × Nat × List Int)} (H : Mo w0 w m ns) {t : Nat} {cs : Array Value} (g : Nat) (hg : g = w.heap.size) (hn : NoDigits cs) : Mo w0 (w.alloc (.cells cs t (0, 0))) (m ++ [(g, t, cs)]) ns := by
  rw [hg]; exact H.alloc hn
theorem Mo.set {w0 w : World} {m : List (Nat × Nat × Array Value)} {ns : List (Option Addr × Nat × List Int)} (H : Mo w0 w m ns) (k : Nat) {g t : Nat} {cs cs' : Array Value} {j : Nat} {v : Value} (hk : m[k]? = some (g, t, cs)) (hc : cs.setIfInBounds j v = cs') (hn : NoDigits cs') :
    Mo w0 (w.setCell ⟨g, j, none⟩ v) (m.set k (g, t, cs')) ns := by
  subst hc
  obtain ⟨hv, hd, hg⟩ := H.vars k g t cs hk
  have hkl : k < m.length := (List.getElem?_eq_some_iff.1 hk).1
  refine ⟨below_set H.below hg _, fun i gi ti ci hi => ?_, fun i i' gi ti ci gj tj cj hi hj hne => ?_, fun i A c xs hi => (H.nums i A c xs hi).apart hv hd _ _⟩
  · rw [List.getElem?_set] at hi
    by_cases e : k = i
    · rw [if_pos e, if_pos hkl] at hi
      injection hi with hi
      injection hi with e1 e2
      injection e2 with e2 e3
      subst e1 e2 e3
      exact ⟨hv.set j v, hn, hg⟩
    · rw [if_neg e] at hi
      obtain ⟨a1, a2, a3⟩ := H.vars i gi ti ci hi
      exact ⟨a1.other (H.apart i k _ _ _ _ _ _ hi hk (fun h => e h.symm)) j v, a2, a3⟩
  · have key : ∀ (i gi ti : Nat) (ci : Array Value), (m.set k (g, t, cs.setIfInBounds j v))[i]? = some (gi, ti, ci) → ∃ ti' ci', m[i]? = some (gi, ti', ci') := by
      intro i gi ti ci hi
      rw [List.getElem?_set] at hi
      by_cases e : k = i
      · rw [if_pos e, if_pos hkl] at hi
        injection hi with hi
        injection hi with e1 e2
        subst e1 e
        exact ⟨t, cs, hk⟩
      · rw [if_neg e] at hi
        exact ⟨ti, ci, hi⟩
    obtain ⟨_, _, h1⟩ := key _ _ _ _ hi
    obtain ⟨_, _, h2⟩ := key _ _ _ _ hj
    exact H.apart i i' _ _ _ _ _ _ h1 h2 hne
theorem Mo.swap {w0 w : World} {p q : Nat × Nat × Array Value} {ns : List (Option Addr × Nat × List Int)} (a : List (Nat × Nat × Array Value)) (H : Mo w0 w (a ++ [p, q]) ns) : Mo w0 w (a ++ [q, p]) ns := by
  have key : ∀ (k : Nat) (e : Nat × Nat × Array Value), (a ++ [q, p])[k]? = some e → (a ++ [p, q])[if k = a.length then a.length + 1 else if k = a.length + 1 then a.length else k]? = some e := by
    intro k e hk
    rcases (show k < a.length ∨ k = a.length ∨ k = a.length + 1 ∨ a.length + 2 ≤ k by omega) with h | h | h | h
    · rw [List.getElem?_append_left h] at hk
      rw [if_neg (by omega), if_neg (by omega), List.getElem?_append_left h]
      exact hk
    · subst h
      rw [List.getElem?_append_right (Nat.le_refl _), Nat.sub_self] at hk
      rw [if_pos rfl, List.getElem?_append_right (by omega), Nat.add_sub_cancel_left]
      exact hk
    · subst h
      rw [List.getElem?_append_right (by omega), Nat.add_sub_cancel_left] at hk
      rw [if_neg (by omega), if_pos rfl, List.getElem?_append_right (Nat.le_refl _), Nat.sub_self]
      exact hk
    · rw [List.getElem?_eq_none (by simp; omega)] at hk
      cases hk
  refine ⟨H.below, fun k g t cs hk => H.vars _ g t cs (key k _ hk), fun i j gi ti ci gj tj cj hi hj hne => H.apart _ _ gi ti ci gj tj cj (key i _ hi) (key j _ hj) (by split <;> split <;> (try split) <;> (try split) <;> omega), H.nums⟩
theorem Mo.sub {w0 w : World} {m : List (Nat × Nat × Array Value)} {ns : List (Option Addr × Nat × List Int)} (H : Mo w0 w m ns) (ks : List Nat) : Mo w0 w m (ks.filterMap (fun i => ns[i]?)) := by
  refine ⟨H.below, H.vars, H.apart, fun k A c xs hk => ?_⟩
  have h := List.mem_of_getElem? hk
  rw [List.mem_filterMap] at h
  obtain ⟨i, _, hi⟩ := h
  exact H.nums i A c xs hi
theorem nd_bool (b : Bool) (A : Option Addr) (m c : Nat) : NoDigits #[.bool b, .slice A m c] := nd_int b A m c

end Go.Proofs.YtocpncjmcaecoaaGreat.M
