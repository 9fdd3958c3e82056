/- Appending to a row of the call's own, told in full: which block is written, where the new row lies. -/
import Derived.Test.YtocpncjmcaecoaaGreatNatE
namespace Go.Proofs.YtocpncjmcaecoaaGreat.M
set_option maxRecDepth 10000
open Go.RowKit
set_option linter.unusedVariables false
set_option linter.unusedSimpArgs false

/-- What is read does not lie in the block of v. -/
def SepV (v : Value) (A : Option Addr) (xs : List Int) : Prop := 0 < xs.length → ∀ ad, A = some ad → v.ownBlock ≠ some ad.block
/-- The block of v1 is that of v, or new. -/
def Moved (W : World) (v v1 : Value) : Prop := v1.ownBlock = v.ownBlock ∨ ∃ b, v1.ownBlock = some b ∧ W.heap.size ≤ b
theorem Rk.blk {w : World} {k : IntKind} {A : Option Addr} {c : Nat} {xs : List Int} (h : Rk w k A c xs) : 0 < xs.length → ∀ ad, A = some ad → ad.block < w.heap.size := by
  intro h0 ad e
  obtain ⟨ad', e', hc⟩ := h.2.2 0 h0
  rw [e] at e'
  cases e'
  have := World.block_lt_of_cell? w _ hc
  simpa [Addr.add] using this
theorem ad_blk (ad : Addr) (i : Nat) : (ad.add i).block = ad.block := by unfold Addr.add; split <;> rfl
theorem Rk.keep {w w1 : World} {k : IntKind} {A : Option Addr} {c : Nat} {xs : List Int} {v : Value} (h : Rk w k A c xs) (hs : SepV v A xs) (hg : w.grownBy w1 v.ownBlock) : Rk w1 k A c xs := by
  refine ⟨h.1, h.2.1, fun i hi => ?_⟩
  obtain ⟨ad, e, hc⟩ := h.2.2 i hi
  refine ⟨ad, e, hg.cell hc ?_⟩
  rw [ad_blk]
  exact fun e2 => hs (by omega) ad e e2.symm
theorem RN.keep {w w1 : World} {A : Option Addr} {c : Nat} {xs : List Int} {v : Value} (h : RN w A c xs) (hs : SepV v A xs) (hg : w.grownBy w1 v.ownBlock) : RN w1 A c xs := ⟨h.1.keep hs hg, h.2⟩
theorem SepV.moved {w : World} {k : IntKind} {A : Option Addr} {c : Nat} {xs : List Int} {v v1 : Value} (hs : SepV v A xs) (h : Rk w k A c xs) (hm : Moved w v v1) : SepV v1 A xs := by
  intro h0 ad e
  rcases hm with hm | ⟨b, hb, hl⟩
  · rw [hm]; exact hs h0 ad e
  · rw [hb]
    have := h.blk h0 ad e
    intro e2
    cases e2
    omega
theorem SepV.new {w : World} {base e : Nat} {k : IntKind} {v : Value} {xs : List Int} (ho : OwnI w base e k v xs) {g : Nat} (hg : w.heap.size ≤ g) (ys : List Int) : SepV v (some ⟨g, 0, none⟩) ys := by
  intro _ ad e1 e2
  cases e1
  have := (World.ownsRow.lt ho _ e2).2
  simp at this
  omega
theorem SepV.old {w : World} {base e : Nat} {k : IntKind} {v : Value} {xs : List Int} (ho : OwnI w base e k v xs) {w0 : World} {k' : IntKind} {A : Option Addr} {c : Nat} {ys : List Int} (hb : w0.heap.size ≤ base) (h : Rk w0 k' A c ys) : SepV v A ys := by
  intro h0 ad e1 e2
  have h1 := (World.ownsRow.lt ho _ e2).1
  have h2 := h.blk h0 ad e1
  omega
theorem OwnI.below {w w1 : World} {base e : Nat} {k : IntKind} {v : Value} {xs : List Int} (h : OwnI w base e k v xs) (hb : Below w.heap.size w w1) : OwnI w1 base e k v xs :=
  World.ownsRow.kept h (row := none) ⟨hb.os, hb.tape, hb.output, hb.size, fun i hi _ => hb.block i hi⟩ (by cases v.ownBlock <;> simp)

theorem own_step {P : Program} {W : World} {k : IntKind} {x : Int} {base bytes : Nat} {e : TypeId} {i : TypeInfo} {v : Value} {xs : List Int} (t ty : TypeId)
    (ht : P.underlying t = some (.slice e)) (hi : P.info? e = some i) (hz : i.zero = some (.int k 0)) (hsize : i.size = 1) (hby : i.bytes = bytes)
    (hown : OwnI W base e k v xs) (hbase : base ≤ W.heap.size) (hl : (xs.length + 1) * bytes ≤ 140737488355328) (hl2 : xs.length + 1 ≤ 9223372036854775807) :
    ∃ v1 w1, (Builtin.append_ #[t, t] ty #[v, .slice (some ⟨W.heap.size, 0, none⟩) 1 1]).run P (W.alloc (.cells #[.int k x] e (0, 0))) = .ok v1 w1 ∧ OwnI w1 base e k v1 (xs ++ [x]) ∧ W.grownBy w1 v.ownBlock ∧ Moved W v v1 := by
  have hnews : ∀ j u, [Value.int k x][j]? = some u → (W.alloc (.cells #[.int k x] e (0, 0))).cell? ((⟨W.heap.size, 0, none⟩ : Addr).add j) = some u := by
    intro j u hj
    cases j with
    | zero =>
      simp at hj
      subst hj
      simp only [World.cell?, Addr.add, if_true]
      rw [heap_new]
      simp
    | succ j => simp at hj
  have hone : ∀ u ∈ [Value.int k x], u.oneCell' = true := by
    intro u hu
    simp at hu
    subst hu
    rfl
  obtain ⟨v1, w1, h1, h2, h3, _⟩ := run_append_own (P := P) (W.alloc (.cells #[.int k x] e (0, 0))) base t ty e i _ 1 bytes ht hi hz hsize hby rfl (by decide) v xs.length _ (World.ownsRow.alloc hown _) ⟨W.heap.size, 0, none⟩ 1 1 [.int k x] rfl hnews hone (by simp only [maxLen]; omega) hl (by simp; omega)
  refine ⟨v1, w1, h1, ?_, ?_, ?_⟩
  · unfold OwnI
    rw [List.map_append, List.length_append]
    exact h2
  · exact ⟨h3.os, h3.tape, h3.output, Nat.le_trans (by simp) h3.size, fun j hj hr => (h3.block j (by simp; omega) hr).trans (Below.heap_alloc W _ j hj)⟩
  · rcases hown.2 with ⟨rfl, h0⟩ | ⟨g, cap, cur, rfl, hb, hh, hnc, hcm, hcs, htk⟩
    · have hr := run_append_nil (P := P) (W.alloc (.cells #[.int k x] e (0, 0))) t ty e i _ ht hi hz ⟨W.heap.size, 0, none⟩ 1 1 [.int k x] (by rw [hsize]; rfl) hnews (by omega) (by omega) (by
        rw [hby, Nat.one_mul]
        exact Nat.le_trans (Nat.le_mul_of_pos_left bytes (by omega : 0 < xs.length + 1)) (Nat.le_trans hl (by omega)))
      rw [hr] at h1
      injection h1 with h1 _
      subst h1
      exact .inr ⟨_, rfl, by simp⟩
    · by_cases hroom : xs.length + 1 ≤ cap
      · have hr := run_append_room (P := P) (W.alloc (.cells #[.int k x] e (0, 0))) t ty e i ht hi g xs.length cap cur ((Below.heap_alloc W _ g (Array.getElem?_eq_some_iff.1 hh).1).trans hh) ⟨W.heap.size, 0, none⟩ 1 1 [.int k x] (by rw [hsize]; rfl) hnews hone hroom (by rw [hsize, hcs]; simp; omega)
        rw [hr] at h1
        injection h1 with h1 _
        subst h1
        exact .inl rfl
      · have holds : ∀ j u, (xs.map (Value.int k))[j]? = some u → (W.alloc (.cells #[.int k x] e (0, 0))).cell? ((⟨g, 0, none⟩ : Addr).add j) = some u := (World.ownsRow.alloc hown _).cells (g := g) rfl
        have hr := run_append_grow (P := P) (W.alloc (.cells #[.int k x] e (0, 0))) t ty e i _ ht hi hz ⟨g, 0, none⟩ xs.length cap (xs.map (Value.int k)) (by rw [hsize]; simp) holds ⟨W.heap.size, 0, none⟩ 1 1 [.int k x] (by rw [hsize]; rfl) hnews (by omega) (by omega) (by rw [hby]; exact growslice_fits (by omega) hl)
        rw [hr] at h1
        injection h1 with h1 _
        subst h1
        exact .inr ⟨_, rfl, by simp⟩

/-- One more number at the end of a row of the call's own. -/
theorem wpList_append2 {P : Program} {w0 W : World} {ops : Array Oper} {rest : List Oper} {o : Oper} {a : Act} {Q : Exit → Act → World → Prop} {k : IntKind} {x : Int} {base bytes : Nat} {e : TypeId} {i : TypeInfo} {v : Value} {xs : List Int}
    (hgd : o.guard = none) (s y : Operand) (t : TypeId) (ho : o.op = .call { callee := .builtin .append, args := #[s, y], argTypes := #[t, t] })
    (ht : P.underlying t = some (.slice e)) (hi : P.info? e = some i) (hz : i.zero = some (.int k 0)) (hsize : i.size = 1) (hby : i.bytes = bytes)
    (hs : a.eval s = v) (hy : a.eval y = .slice (some ⟨W.heap.size, 0, none⟩) 1 1) (hown : OwnI W base e k v xs)
    (HB : Below base w0 W) (hbase : base ≤ W.heap.size) (hl : (xs.length + 1) * bytes ≤ 140737488355328 ∧ xs.length + 1 ≤ 9223372036854775807)
    (h : ∀ v1 w1, OwnI w1 base e k v1 (xs ++ [x]) → Hid (Below base w0 w1) → Hid (W.grownBy w1 v.ownBlock) → Hid (Moved W v v1) → wpList P ops Q rest (a.put o.dst v1) w1) :
    wpList P ops Q (o :: rest) a (W.alloc (.cells #[.int k x] e (0, 0))) := by
  obtain ⟨v1, w1, h1, h2, h3, h4⟩ := own_step (P := P) (x := x) t o.type ht hi hz hsize hby hown hbase hl.1 hl.2
  exact wpList_append_run hgd s y t ho v _ v1 hs hy h1 (h v1 w1 h2 (HB.grown h3 hbase (fun g hg => (World.ownsRow.lt hown g hg).1)) h3 h4)

end Go.Proofs.YtocpncjmcaecoaaGreat.M
