/- Plain words on a local array's block: its cells, its stores, what stays. -/
import Derived.Test.YtlogocmojnhpbaaWWords
import Derived.Test.YtlogocmojnhpbaaProg
namespace Go.Proofs.Ytlogocmojnhpbaa.Print
open Go.RowKit Go.Proofs.YtlogocmojnhpbaaW.PrintWords
set_option linter.unusedVariables false
/-- Block g holds an array of whole numbers. -/
def Arr (w : World) (g : Nat) (T : TypeId) (k : IntKind) (xs : List Int) : Prop := w.heap[g]? = some (.cells (nums k xs).toArray T (0, 0))
section
variable {w : World} {g : Nat} {T : TypeId} {k : IntKind} {xs : List Int}
theorem Arr.cell (h : Arr w g T k xs) (i : Nat) (h1 : i < xs.length) : w.cell? ⟨g, i, none⟩ = some (.int k (xs.getD i 0)) := by
  rw [blk_cell h i]
  simp [nums, List.getD_eq_getElem?_getD, List.getElem?_eq_getElem h1]
theorem Arr.frozen (h : Arr w g T k xs) (i : Nat) : w.frozen? ⟨g, i, none⟩ = false := blk_frozen h i
theorem Arr.set (h : Arr w g T k xs) (i : Nat) (v : Int) : Arr (w.setCell ⟨g, i, none⟩ (.int k v)) g T k (xs.set i v) := by
  unfold Arr
  refine blk_put h i _ ?_
  simp [nums, List.map_set]
theorem Arr.far (h : Arr w g T k xs) {p : Addr} (hp : g ≠ p.block) (u : Value) : Arr (w.setCell p u) g T k xs := blk_far h hp u
theorem Arr.alloc (h : Arr w g T k xs) (o : Obj) : Arr (w.alloc o) g T k xs := blk_alloc h o
theorem Arr.drew (h : Arr w g T k xs) : Arr w.drew g T k xs := h
theorem Arr.drewN (h : Arr w g T k xs) (n : Nat) : Arr (w.drewN n) g T k xs := h
theorem Arr.lt (h : Arr w g T k xs) : g < w.heap.size := blk_lt h
end
/-- The worlds' old blocks are as they were, but for those of p; what lies below a world whose blocks p spares stays below. -/
def Moved (w w' : World) (p : Nat → Prop) : Prop :=
  w.heap.size ≤ w'.heap.size ∧ (∀ i, i < w.heap.size → ¬ p i → w'.heap[i]? = w.heap[i]?) ∧ (∀ w0 : World, Below w0.heap.size w0 w → (∀ i, i < w0.heap.size → ¬ p i) → Below w0.heap.size w0 w')
section
variable {w w1 w2 : World} {p q : Nat → Prop}
theorem Moved.refl (w : World) (p : Nat → Prop) : Moved w w p := ⟨Nat.le_refl _, fun _ _ _ => rfl, fun _ h _ => h⟩
theorem Moved.set (h : Moved w w1 p) (g i : Nat) (u : Value) (hg : p g ∨ w.heap.size ≤ g) : Moved w (w1.setCell ⟨g, i, none⟩ u) p := by
  have hs : (w1.setCell ⟨g, i, none⟩ u).heap.size = w1.heap.size := by simp [World.setCell]
  refine ⟨by rw [hs]; exact h.1, fun j hj hp => ?_, fun w0 hb h0 => ?_⟩
  · refine (Below.heap_setCell w1 ⟨g, i, none⟩ u j ?_).trans (h.2.1 j hj hp)
    intro e
    rcases hg with hg | hg
    · exact hp (by rw [e]; exact hg)
    · exact absurd hj (by rw [e]; show ¬ g < w.heap.size; omega)
  · refine below_set (h.2.2 w0 hb h0) ?_
    rcases hg with hg | hg
    · exact Nat.le_of_not_lt fun hlt => h0 g hlt hg
    · exact Nat.le_trans hb.size hg
theorem Moved.alloc (h : Moved w w1 p) (o : Obj) : Moved w (w1.alloc o) p :=
  ⟨Nat.le_trans h.1 (by show w1.heap.size ≤ (w1.heap.push o).size; simp), fun i hi hp => (Below.heap_alloc w1 o i (Nat.lt_of_lt_of_le hi h.1)).trans (h.2.1 i hi hp), fun w0 hb h0 => below_alloc (h.2.2 w0 hb h0) o⟩
theorem Moved.drew (h : Moved w w1 p) : Moved w w1.drew p := ⟨h.1, h.2.1, fun w0 hb h0 => below_drew1 (h.2.2 w0 hb h0)⟩
theorem Moved.drewN (h : Moved w w1 p) (n : Nat) : Moved w (w1.drewN n) p := ⟨h.1, h.2.1, fun w0 hb h0 => pw_below_drewN (h.2.2 w0 hb h0) n⟩
theorem Moved.trans (h : Moved w w1 p) (k : Moved w1 w2 p) : Moved w w2 p :=
  ⟨Nat.le_trans h.1 k.1, fun i hi hp => (k.2.1 i (Nat.lt_of_lt_of_le hi h.1) hp).trans (h.2.1 i hi hp), fun w0 hb h0 => k.2.2 w0 (h.2.2 w0 hb h0) h0⟩
/-- A move of new blocks, or of p's, behind another. -/
theorem Moved.trans_new (h : Moved w w1 p) (k : Moved w1 w2 q) (hq : ∀ i, q i → p i ∨ w.heap.size ≤ i) : Moved w w2 p :=
  ⟨Nat.le_trans h.1 k.1, fun i hi hp => (k.2.1 i (Nat.lt_of_lt_of_le hi h.1) (fun hqi => by
      rcases hq i hqi with h1 | h1
      · exact hp h1
      · omega)).trans (h.2.1 i hi hp),
    fun w0 hb h0 => k.2.2 w0 (h.2.2 w0 hb h0) (fun i hi hqi => by
      rcases hq i hqi with h1 | h1
      · exact h0 i hi h1
      · exact absurd (Nat.le_trans hb.size h1) (by omega))⟩
theorem Arr.moved {g : Nat} {T : TypeId} {k : IntKind} {xs : List Int} (h : Arr w g T k xs) (m : Moved w w1 p) (hp : ¬ p g) : Arr w1 g T k xs := (m.2.1 g h.lt hp).trans h
theorem Moved.below (h : Moved w w1 p) (hp : ∀ i, i < w.heap.size → ¬ p i) : Below w.heap.size w w1 := h.2.2 w (Below.refl _ w) hp
end
end Go.Proofs.Ytlogocmojnhpbaa.Print
