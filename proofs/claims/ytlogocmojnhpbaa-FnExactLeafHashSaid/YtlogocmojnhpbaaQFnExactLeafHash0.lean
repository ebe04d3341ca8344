-- Packed by a program of this session (slim.py) out of printed texts; not trusted, Lean checks it.
import Derived.Test.YtlogocmojnhpbaaPrint0
import Derived.Test.YtlogocmojnhpbaaWWords
import Derived.Test.YtlogocmojnhpbaaProg
import Derived.Test.YtlogocmojnhpbaaPureBits
import Derived.Test.YtlogocmojnhpbaaWMore
import Derived.Shelf.Abstract
import Derived.WalkKit
import Derived.StillTailTactics
import Derived.BigQuiet
import Derived.Laws.PanicsMore
import Derived.Great.BuildSlice
import Derived.Great.Walk
import Derived.Laws.CopyRow
import Derived.Deep.Cut
import Derived.Deep.WholeRow
import Derived.Laws.CopyOwn
/- Plain words on a local array's block: its cells, its stores, what stays. -/
namespace Go.Proofs.Ytlogocmojnhpbaa.Print
open Go.RowKit Go.Proofs.YtlogocmojnhpbaaW.PrintWords
set_option linter.unusedVariables false
/-- Block g holds an array of whole numbers. -/
def Arr (w : World) (g : Nat) (T : TypeId) (k : IntKind) (xs : List Int) : Prop := w.heap[g]? = some (.cells (nums k xs).toArray T (0, 0))
section
variable {w : World} {g : Nat} {T : TypeId} {k : IntKind} {xs : List Int}
theorem Arr.cell (h : Arr w g T k xs) (i : Nat) (h1 : i < xs.length) : w.cell? ⟨g, i, none⟩ = some (.int k (xs.getD i 0)) := by
  rw [blk_cell h i]
  simp [nums, List.getD_eq_getElem?_getD, List.getElem?_eq_getElem h1]
theorem Arr.frozen (h : Arr w g T k xs) (i : Nat) : w.frozen? ⟨g, i, none⟩ = false := blk_frozen h i
theorem Arr.set (h : Arr w g T k xs) (i : Nat) (v : Int) : Arr (w.setCell ⟨g, i, none⟩ (.int k v)) g T k (xs.set i v) := by
  unfold Arr
  refine blk_put h i _ ?_
  simp [nums, List.map_set]
theorem Arr.far (h : Arr w g T k xs) {p : Addr} (hp : g ≠ p.block) (u : Value) : Arr (w.setCell p u) g T k xs := blk_far h hp u
theorem Arr.alloc (h : Arr w g T k xs) (o : Obj) : Arr (w.alloc o) g T k xs := blk_alloc h o
theorem Arr.drew (h : Arr w g T k xs) : Arr w.drew g T k xs := h
theorem Arr.drewN (h : Arr w g T k xs) (n : Nat) : Arr (w.drewN n) g T k xs := h
theorem Arr.lt (h : Arr w g T k xs) : g < w.heap.size := blk_lt h
end
/-- The worlds' old blocks are as they were, but for those of p; what lies below a world whose blocks p spares stays below. -/
def Moved (w w' : World) (p : Nat → Prop) : Prop :=
  w.heap.size ≤ w'.heap.size ∧ (∀ i, i < w.heap.size → ¬ p i → w'.heap[i]? = w.heap[i]?) ∧ (∀ w0 : World, Below w0.heap.size w0 w → (∀ i, i < w0.heap.size → ¬ p i) → Below w0.heap.size w0 w')
section
variable {w w1 w2 : World} {p q : Nat → Prop}
theorem Moved.refl (w : World) (p : Nat → Prop) : Moved w w p := ⟨Nat.le_refl _, fun _ _ _ => rfl, fun _ h _ => h⟩
theorem Moved.set (h : Moved w w1 p) (g i : Nat) (u : Value) (hg : p g ∨ w.heap.size ≤ g) : Moved w (w1.setCell ⟨g, i, none⟩ u) p := by
  have hs : (w1.setCell ⟨g, i, none⟩ u).heap.size = w1.heap.size := by simp [World.setCell]
  refine ⟨by rw [hs]; exact h.1, fun j hj hp => ?_, fun w0 hb h0 => ?_⟩
  · refine (Below.heap_setCell w1 ⟨g, i, none⟩ u j ?_).trans (h.2.1 j hj hp)
    intro e
    rcases hg with hg | hg
    · exact hp (by rw [e]; exact hg)
    · exact absurd hj (by rw [e]; show ¬ g < w.heap.size; omega)
  · refine below_set (h.2.2 w0 hb h0) ?_
    rcases hg with hg | hg
    · exact Nat.le_of_not_lt fun hlt => h0 g hlt hg
    · exact Nat.le_trans hb.size hg
theorem Moved.alloc (h : Moved w w1 p) (o : Obj) : Moved w (w1.alloc o) p :=
  ⟨Nat.le_trans h.1 (by show w1.heap.size ≤ (w1.heap.push o).size; simp), fun i hi hp => (Below.heap_alloc w1 o i (Nat.lt_of_lt_of_le hi h.1)).trans (h.2.1 i hi hp), fun w0 hb h0 => below_alloc (h.2.2 w0 hb h0) o⟩
theorem Moved.drew (h : Moved w w1 p) : Moved w w1.drew p := ⟨h.1, h.2.1, fun w0 hb h0 => below_drew1 (h.2.2 w0 hb h0)⟩
theorem Moved.drewN (h : Moved w w1 p) (n : Nat) : Moved w (w1.drewN n) p := ⟨h.1, h.2.1, fun w0 hb h0 => pw_below_drewN (h.2.2 w0 hb h0) n⟩
theorem Moved.trans (h : Moved w w1 p) (k : Moved w1 w2 p) : Moved w w2 p :=
  ⟨Nat.le_trans h.1 k.1, fun i hi hp => (k.2.1 i (Nat.lt_of_lt_of_le hi h.1) hp).trans (h.2.1 i hi hp), fun w0 hb h0 => k.2.2 w0 (h.2.2 w0 hb h0) h0⟩
/-- A move of new blocks, or of p's, behind another. -/
theorem Moved.trans_new (h : Moved w w1 p) (k : Moved w1 w2 q) (hq : ∀ i, q i → p i ∨ w.heap.size ≤ i) : Moved w w2 p :=
  ⟨Nat.le_trans h.1 k.1, fun i hi hp => (k.2.1 i (Nat.lt_of_lt_of_le hi h.1) (fun hqi => by
      rcases hq i hqi with h1 | h1
      · exact hp h1
      · omega)).trans (h.2.1 i hi hp),
    fun w0 hb h0 => k.2.2 w0 (h.2.2 w0 hb h0) (fun i hi hqi => by
      rcases hq i hqi with h1 | h1
      · exact h0 i hi h1
      · exact absurd (Nat.le_trans hb.size h1) (by omega))⟩
theorem Arr.moved {g : Nat} {T : TypeId} {k : IntKind} {xs : List Int} (h : Arr w g T k xs) (m : Moved w w1 p) (hp : ¬ p g) : Arr w1 g T k xs := (m.2.1 g h.lt hp).trans h
theorem Moved.below (h : Moved w w1 p) (hp : ∀ i, i < w.heap.size → ¬ p i) : Below w.heap.size w w1 := h.2.2 w (Below.refl _ w) hp
end
end Go.Proofs.Ytlogocmojnhpbaa.Print
/- Plain words on a row of bytes of the call's own that grows by single bytes; the row may be a string's conversion. -/
namespace Go.Proofs.Ytlogocmojnhpbaa.Print
open Go.RowKit Go.Proofs.YtlogocmojnhpbaaW.PrintWords
set_option linter.unusedVariables false
set_option linter.unusedSimpArgs false
/-- Block g holds the bytes xs at its head, cap bytes in all; none of them is frozen. -/
def MRow (w : World) (g cap : Nat) (xs : List Int) : Prop :=
  ∃ (cur : Array Value) (fz : Nat × Nat), w.heap[g]? = some (.cells cur 5 fz) ∧ (cap ≤ fz.1 ∨ fz.2 = 0) ∧ xs.length ≤ cap ∧ cap ≤ maxLen ∧ cur.size = cap ∧ cur.toList.take xs.length = nums .u8 xs
theorem addr_at (g o j : Nat) : (⟨g, o, none⟩ : Addr).add j = ⟨g, o + j, none⟩ := by unfold Addr.add; split <;> simp_all
section
variable {w w1 w' : World} {g cap base : Nat} {xs : List Int} {p : Nat → Prop}
theorem MRow.lt (h : MRow w g cap xs) : g < w.heap.size := by
  obtain ⟨cur, fz, hg, _⟩ := h
  exact blk_lt hg
theorem MRow.step (h : MRow w g cap xs) (hb : w1.heap[g]? = w.heap[g]?) : MRow w1 g cap xs := by
  obtain ⟨cur, fz, hg, r⟩ := h
  exact ⟨cur, fz, hb.trans hg, r⟩
theorem MRow.moved (h : MRow w g cap xs) (m : Moved w w1 p) (hp : ¬ p g) : MRow w1 g cap xs := h.step (m.2.1 g h.lt hp)
theorem MRow.below (h : MRow w g cap xs) (hb : Below w.heap.size w w1) : MRow w1 g cap xs := h.step (hb.block g h.lt)
theorem MRow.alloc (h : MRow w g cap xs) (o : Obj) : MRow (w.alloc o) g cap xs := h.below (below_alloc (Below.refl _ _) o)
theorem MRow.cell (h : MRow w g cap xs) (j : Nat) (hj : j < xs.length) : w.cell? ⟨g, j, none⟩ = some (.int .u8 (xs.getD j 0)) := by
  obtain ⟨cur, fz, hg, _, h1, _, h2, h3⟩ := h
  have hc : w.cell? ⟨g, j, none⟩ = cur[j]? := by simp [World.cell?, hg]
  have h4 : (cur.toList.take xs.length)[j]? = cur[j]? := by rw [List.getElem?_take, if_pos hj]; simp
  rw [hc, ← h4, h3]
  simp [nums, List.getD_eq_getElem?_getD, List.getElem?_eq_getElem hj]
theorem MRow.free (h : MRow w g cap xs) (j : Nat) (hj : j < cap) : w.frozen? ⟨g, j, none⟩ = false := by
  obtain ⟨cur, fz, hg, h0, _⟩ := h
  obtain ⟨lo, hi⟩ := fz
  simp only [World.frozen?, hg, Bool.and_eq_false_iff, decide_eq_false_iff_not]
  simp only at h0
  rcases h0 with h0 | h0
  · left; omega
  · right; omega
theorem MRow.set (h : MRow w g cap xs) (j : Nat) (v : Int) (hj : j < xs.length) : MRow (w.setCell ⟨g, j, none⟩ (.int .u8 v)) g cap (xs.set j v) := by
  obtain ⟨cur, fz, hg, h0, h1, h2, h3, h4⟩ := h
  refine ⟨cur.setIfInBounds j (.int .u8 v), fz, ?_, h0, by simpa using h1, h2, by simpa using h3, ?_⟩
  · simp [World.setCell, Array.getElem?_modify, hg]
  · rw [List.length_set, Array.toList_setIfInBounds, List.take_set, h4]
    simp [nums, List.map_set]
theorem MRow.snoc (h : MRow w g cap xs) (v : Int) (hj : xs.length < cap) : MRow (w.setCell ⟨g, xs.length, none⟩ (.int .u8 v)) g cap (xs ++ [v]) := by
  obtain ⟨cur, fz, hg, h0, h1, h2, h3, h4⟩ := h
  refine ⟨cur.setIfInBounds xs.length (.int .u8 v), fz, ?_, h0, by simp; omega, h2, by simpa using h3, ?_⟩
  · simp [World.setCell, Array.getElem?_modify, hg]
  · have hl : xs.length < cur.toList.length := by simpa [h3] using hj
    rw [List.length_append, List.length_singleton, Array.toList_setIfInBounds, List.take_set, List.take_succ_eq_append_getElem hl, h4, nums_append]
    rw [List.set_append_right _ _ (by simp [nums])]
    simp [nums]
/-- What is read of it. -/
theorem MRow.reads (h : MRow w g cap xs) : (Kd.int .u8).C w (some ⟨g, 0, none⟩) xs.length xs := by
  have hm : xs.length ≤ 9223372036854775807 := by
    obtain ⟨cur, fz, hg, h0, h1, h2, _⟩ := h
    unfold maxLen at h2
    omega
  refine Kd.C_of_reads (d := (0 : Int)) ⟨rfl, hm, fun hn => ⟨_, rfl, fun j hj => ?_⟩⟩
  have := h.cell j hj
  rw [addr_at, Nat.zero_add]
  exact this
/-- A piece of it. -/
theorem MRow.part (h : MRow w g cap xs) (o n : Nat) (hn : o + n ≤ xs.length) : (Kd.int .u8).C w (some ⟨g, o, none⟩) n ((xs.drop o).take n) := by
  have hm : xs.length ≤ 9223372036854775807 := by
    obtain ⟨cur, fz, hg, h0, h1, h2, _⟩ := h
    unfold maxLen at h2
    omega
  refine Kd.C_of_reads (d := (0 : Int)) ⟨by simp; omega, by omega, fun h0 => ⟨_, rfl, fun j hj => ?_⟩⟩
  have h2 := h.cell (o + j) (by omega)
  have e : ((xs.drop o).take n).getD j 0 = xs.getD (o + j) 0 := by
    simp only [List.getD_eq_getElem?_getD]
    rw [List.getElem?_take, if_pos hj, List.getElem?_drop]
  rw [e, addr_at]
  exact h2
end
theorem MRow.of_bytes (w : World) (s : ByteArray) (hs : s.size ≤ 9223372036854775807) : MRow (Lib.bytesWorld w 5 s) w.heap.size (grownCap w s.size 0 5) (bytesOf s) := by
  have hge := grownCap_ge w s.size 0 5
  have hle := grownCap_le_maxLen w s.size 0 5 (by unfold maxLen; exact hs)
  have hsz : (Lib.bytesCells w 5 s).size = grownCap w s.size 0 5 := by
    unfold Lib.bytesCells
    have : s.data.size = s.size := rfl
    simp
    omega
  refine ⟨Lib.bytesCells w 5 s, _, Lib.bytesWorld_at_new w 5 s, .inl (by rw [hsz]; exact Nat.le_refl _), by rw [bytesOf_length]; exact hge, hle, hsz, ?_⟩
  rw [bytesOf_length]
  unfold Lib.bytesCells
  have hl : (s.data.map fun b => Value.int .u8 b.toNat).toList.length = s.size := by simp
  rw [Array.toList_append, List.take_append_of_le_length (by omega), List.take_of_length_le (by omega)]
  simp [nums, bytesOf]
theorem MRow.of_R {w : World} {base : Nat} {ok : Nat → Prop} {v : Value} {xs : List Int} (h : (Kd.int .u8).R 5 w base ok v xs) (hp : 0 < xs.length) : ∃ g cap, v = .slice (some ⟨g, 0, none⟩) xs.length cap ∧ base ≤ g ∧ MRow w g cap xs := by
  have ho := Kd.own_of_R (enc := Value.int .u8) (h1 := fun _ => rfl) h
  rcases ho.2 with ⟨_, h0⟩ | ⟨g, c, cur, rfl, hb, hg, h1, h2, h3, h4⟩
  · omega
  · exact ⟨g, c, rfl, hb, cur, (0, 0), hg, .inr rfl, h1, h2, by simpa using h3, by simpa [encs, nums] using h4⟩
theorem grown_set (W : World) (g i : Nat) (v : Value) : W.grownBy (W.setCell ⟨g, i, none⟩ v) (some g) := ⟨rfl, rfl, rfl, by simp [World.setCell], fun k _ hk => Below.heap_setCell _ _ _ _ (fun e => hk (by simp [e]))⟩
/-- One byte more. -/
theorem m_run (W : World) (g cap base : Nat) (xs : List Int) (p : Int) (ty : TypeId) (hM : MRow W g cap xs) (hb : base ≤ g) (hbase : base ≤ W.heap.size) (hl : xs.length + 1 ≤ 140737488355328) :
    ∃ g1 cap1 w1, (Builtin.append_ #[25, 25] ty #[.slice (some ⟨g, 0, none⟩) xs.length cap, .slice (some ⟨W.heap.size, 0, none⟩) 1 1]).run Try.prog (W.alloc (.cells #[.int .u8 p] 5)) = .ok (.slice (some ⟨g1, 0, none⟩) (xs.length + 1) cap1) w1 ∧ MRow w1 g1 cap1 (xs ++ [p]) ∧ base ≤ g1 ∧ (W.alloc (.cells #[.int .u8 p] 5)).grownBy w1 (some g) := by
  obtain ⟨i, hi, hzz⟩ : ∃ i, Try.prog.info? 5 = some i ∧ (i.zero = some (.int .u8 0) ∧ i.size = 1 ∧ i.bytes = 1) := by
    have := info5
    obtain ⟨i, hi, hz⟩ := Option.map_eq_some_iff.1 this
    simp only [Prod.mk.injEq] at hz
    exact ⟨i, hi, hz⟩
  obtain ⟨hz, hs, hby⟩ := hzz
  have hM1 := hM.alloc (.cells #[.int .u8 p] 5)
  have hbox : (W.alloc (.cells #[.int .u8 p] 5)).cell? ⟨W.heap.size, 0, none⟩ = some (.int .u8 p) := blk_cell (blk_new W _) 0
  have hnews : ∀ j u, [Value.int .u8 p][j]? = some u → (W.alloc (.cells #[.int .u8 p] 5)).cell? ((⟨W.heap.size, 0, none⟩ : Addr).add j) = some u := by
    intro j u hu
    cases j with
    | zero =>
      have : Value.int .u8 p = u := by simpa using hu
      subst this
      rw [addr_at]
      exact hbox
    | succ j => simp at hu
  have hbase1 : base ≤ (W.alloc (.cells #[.int .u8 p] 5)).heap.size := Nat.le_trans hbase (below_alloc (Below.refl _ W) _).size
  generalize hW : W.alloc (.cells #[.int .u8 p] 5) = W1 at hM1 hnews hbase1 ⊢
  generalize W.heap.size = b at hnews ⊢
  have hf := run_firstCells_some (P := Try.prog) W1 1 1 ⟨b, 0, none⟩ 1 1 [.int .u8 p] (by simp) hnews
  by_cases hroom : xs.length + 1 ≤ cap
  · refine ⟨g, cap, _, ?_, hM1.snoc p (by omega), hb, grown_set W1 g xs.length _⟩
    have hfro := hM1.free xs.length (by omega)
    obtain ⟨cur, fz, hg, h0, h1, h2, h3, h4⟩ := hM1
    have hcell : W1.cell? ⟨g, xs.length, none⟩ = some (cur[xs.length]'(by omega)) := by simp [World.cell?, hg, show xs.length < cur.size by omega]
    have hst : (storeCells ⟨g, xs.length, none⟩ [.int .u8 p] 0).run Try.prog W1 = .ok () (W1.setCell ⟨g, xs.length, none⟩ (.int .u8 p)) := by
      have hadd : (⟨g, xs.length, none⟩ : Addr).add 0 = ⟨g, xs.length, none⟩ := by simp [Addr.add]
      have := run_store Try.prog W1 ⟨g, xs.length, none⟩ (.int .u8 p) .plain rfl
      simp only [storeCells, Sem.run_bind, hadd]
      rw [this, hcell]
      simp [hfro]
    simp [Builtin.append_, run_underlying Try.underlying25, sizeOf, typeInfo, hi, hs, Builtin.lenOf, hroom, hf, Addr.add_lit, hst]
  · have holds : ∀ j u, (nums .u8 xs)[j]? = some u → W1.cell? ((⟨g, 0, none⟩ : Addr).add j) = some u := by
      intro j u hu
      obtain ⟨hlt, hx⟩ := List.getElem?_eq_some_iff.1 hu
      have hlt' : j < xs.length := by simpa [nums] using hlt
      have h5 := hM1.cell j hlt'
      rw [← hx, addr_at, Nat.zero_add, h5]
      simp [nums, List.getD_eq_getElem?_getD, List.getElem?_eq_getElem hlt']
    have hr := run_append_grow (P := Try.prog) W1 25 ty 5 i (.int .u8 0) Try.underlying25 hi hz ⟨g, 0, none⟩ xs.length cap (nums .u8 xs) (by simp [nums, hs]) holds ⟨b, 0, none⟩ 1 1 [.int .u8 p] (by simp [hs]) hnews (by omega) (by omega) (by rw [hby]; exact growslice_fits (by omega) (by omega))
    have hge := grownCap_ge W1 (xs.length + 1) cap 5
    have hcm2 : grownCap W1 (xs.length + 1) cap 5 ≤ maxLen := grownCap_le_maxLen W1 (xs.length + 1) cap 5 (by unfold maxLen; omega)
    refine ⟨_, _, _, hr, ⟨_, (0, 0), heap_alloc_new W1.drew _, .inr rfl, by simpa using hge, hcm2, ?_, ?_⟩, hbase1, ⟨rfl, rfl, rfl, by simp, fun k hk _ => heap_alloc_old W1.drew _ hk⟩⟩
    · have hz1 : (Value.int IntKind.u8 0).cells.size = 1 := rfl
      simp only [Array.size_append, List.size_toArray, size_zeroCells, hz1]
      simp [nums]
      omega
    · simp only [Array.toList_append, List.append_assoc]
      rw [← List.append_assoc, List.take_append_of_le_length (by simp [nums]), List.take_of_length_le (by simp [nums]), nums_append]
      simp [nums]
section
variable {ops : Array Oper} {rest : List Oper} {o : Oper} {a : Act} {Q : Exit → Act → World → Prop}
theorem M_append {w0 W : World} (base : Nat) (hgd : o.guard = none) (s x : Operand) (ho : o.op = .call { callee := .builtin .append, args := #[s, x], argTypes := #[25, 25] })
    (g cap n : Nat) (xs : List Int) (p : Int) (hn : xs.length = n) (hs : a.eval s = .slice (some ⟨g, 0, none⟩) n cap) (hx : a.eval x = .slice (some ⟨W.heap.size, 0, none⟩) 1 1)
    (hM : MRow W g cap xs) (hb : base ≤ g) (HB : Below base w0 W) (hbase : base ≤ W.heap.size) (hl : n + 1 ≤ 140737488355328)
    (h : ∀ g1 cap1 w1, MRow w1 g1 cap1 (xs ++ [p]) → base ≤ g1 → Below base w0 w1 → wpList Try.prog ops Q rest (a.put o.dst (.slice (some ⟨g1, 0, none⟩) (n + 1) cap1)) w1) :
    wpList Try.prog ops Q (o :: rest) a (W.alloc (.cells #[.int .u8 p] 5)) := by
  subst hn
  refine wpList_plain hgd fun K hK => ?_
  obtain ⟨g1, cap1, w1, hr, h2, h3, h4⟩ := m_run W g cap base xs p o.type hM hb hbase hl
  unfold Oper.wp execOp
  simp only [ho, resolve, invoke, builtin, Sem.run_bind, Sem.run_pure, Result.andThen_ok, List.map_toArray, List.map_cons, List.map_nil, hs, hx, hr]
  refine hK _ _ ?_
  exact h g1 cap1 w1 h2 h3 ((HB.alloc hbase _).grown h4 (by simp; omega) (fun k hk => by injection hk with hk; omega))
end
end Go.Proofs.Ytlogocmojnhpbaa.Print
/- Plain words for the walks of the hash: bytes and strings; a call's step; the slices. -/
namespace Go.Proofs.Ytlogocmojnhpbaa.Print
open Go.RowKit Go.Proofs.YtlogocmojnhpbaaW.PrintWords Go.Proofs.YtlogocmojnhpbaaW.PrintLast
set_option linter.unusedVariables false
set_option linter.unusedSimpArgs false
theorem strOfNums_size (l : List Int) : (strOfNums l).size = l.length := by simp [strOfNums, ByteArray.size]
theorem bytesOf_strOfNums {l : List Int} (h : AllB l) : bytesOf (strOfNums l) = l := by
  unfold bytesOf strOfNums
  apply List.ext_getElem
  · simp
  · intro i h1 h2
    have hb := h _ (List.getElem_mem h2)
    unfold InB at hb
    simp
    omega
theorem bytesOf_in (s : ByteArray) : AllB (bytesOf s) := by
  intro x hx
  unfold bytesOf at hx
  obtain ⟨b, _, rfl⟩ := List.mem_map.1 hx
  have := b.toNat_lt
  unfold InB
  omega
theorem strOfNums_bytesOf (s : ByteArray) : strOfNums (bytesOf s) = s := by
  have e : ((fun n : Int => UInt8.ofNat n.toNat) ∘ fun b : UInt8 => (b.toNat : Int)) = id := funext fun b => by simp
  unfold bytesOf strOfNums
  apply ByteArray.ext
  rw [List.map_map, e, List.map_id]
theorem AllB.append {a b : List Int} (ha : AllB a) (hb : AllB b) : AllB (a ++ b) := by
  intro x hx
  rcases List.mem_append.1 hx with h | h
  · exact ha x h
  · exact hb x h
theorem AllB.drop {a : List Int} (ha : AllB a) (n : Nat) : AllB (a.drop n) := fun x hx => ha x (List.mem_of_mem_drop hx)
theorem AllB.take {a : List Int} (ha : AllB a) (n : Nat) : AllB (a.take n) := fun x hx => ha x (List.mem_of_mem_take hx)
theorem AllB.replicate (n : Nat) : AllB (List.replicate n 0) := by
  intro x hx
  rw [List.eq_of_mem_replicate hx]
  exact ⟨by decide, by decide⟩
theorem or8_in (a b : Int) : InB (Go.bits .or .u8 a b) := by
  unfold Go.bits
  have e : ∀ n : Int, IntKind.u8.wrap n = n % 256 := fun n => by simp [IntKind.wrap, IntKind.bits, IntKind.signed]
  rw [e]
  unfold InB
  omega
theorem kMark_in {m : List Int} (h : AllB m) : AllB (kMark m) := h.set _ (or8_in _ _)
theorem kFill_in {m : List Int} (h : AllB m) (k : Nat) : AllB (kFill m k) := h.append (AllB.replicate k)
theorem one_in : AllB [1] := by
  intro x hx
  rw [List.mem_singleton.1 hx]
  exact ⟨by decide, by decide⟩
theorem kPad_in {xs : List Int} (h : AllB xs) : AllB (kPad xs) := kMark_in (kFill_in (h.append one_in) _)
theorem kBlock_in {m : List Int} (h : AllB m) (i : Nat) : AllB (kBlock m i) := (h.drop _).take _
theorem Moved.of_below {w w1 : World} {p : Nat → Prop} (h : Below w.heap.size w w1) : Moved w w1 p := ⟨h.size, fun i hi _ => h.block i hi, fun w0 hb h0 => below_step hb h⟩
theorem Moved.setRow {w w1 : World} {p : Nat → Prop} (h : Moved w w1 p) (g : Nat) (c : Array Value) (hg : p g ∨ w.heap.size ≤ g) : Moved w (w1.setRow g c) p := by
  have hs : (w1.setRow g c).heap.size = w1.heap.size := by simp
  refine ⟨by rw [hs]; exact h.1, fun i hi hp => (setRow_other w1 g i c ?_).trans (h.2.1 i hi hp), fun w0 hb h0 => below_setRow (h.2.2 w0 hb h0) ?_ c⟩
  · rintro rfl
    rcases hg with hg | hg
    · exact hp hg
    · omega
  · rcases hg with hg | hg
    · exact Nat.le_of_not_lt fun hlt => h0 g hlt hg
    · exact Nat.le_trans hb.size hg
/-- m[q:q+136] -/
theorem slice_block (g L cap q : Nat) (hq : q + 136 ≤ L) (hc : L ≤ cap) (w : World) : (Instr.slice 25 (.slice (some ⟨g, 0, none⟩) L cap) (some (.int .i64 (q : Int))) (some (.int .i64 ((q : Int) + 136))) none).run Try.prog w = .ok (.slice (some ⟨g, q, none⟩) 136 (cap - q)) w := by
  obtain ⟨i, hi, hzz⟩ : ∃ i, Try.prog.info? 5 = some i ∧ i.size = 1 := by
    have := info5
    obtain ⟨i, hi, hz⟩ := Option.map_eq_some_iff.1 this
    simp only [Prod.mk.injEq] at hz
    exact ⟨i, hi, hz.2.1⟩
  rw [cut_mid (P := Try.prog) 25 5 .i64 .i64 Try.underlying25 hi 1 hzz (some ⟨g, 0, none⟩) L cap (q : Int) ((q : Int) + 136) (by omega) (by omega) (by omega) hc w]
  have h1 : ((q : Int)).toNat = q := by omega
  have h2 : ((q : Int) + 136).toNat = q + 136 := by omega
  rw [h1, h2, if_neg (by omega), Option.map_some, addr_at]
  simp
section
variable {P : Program} {ops : Array Oper} {rest : List Oper} {o : Oper} {a : Act} {w : World} {Q : Exit → Act → World → Prop}
theorem wpList_callStep (hg : o.guard = none) (d : Option Tmp) (hd : o.dst = d) (f : FuncId) (args : Array Value) (hrun : (execOp a.eval o).run P w = .ok (.enter f args) w) {Post : Ending → World → Prop} (hc : Calls P f args w Post)
    (h : ∀ e w1, Post e w1 → ∃ v, e = .returned v ∧ wpList P ops Q rest (a.put d v) w1) : wpList P ops Q (o :: rest) a w := by
  subst hd
  refine wpList_plain hg fun K hK => ?_
  unfold Oper.wp
  rw [hrun, Oper.upon_enter]
  refine hc.mono fun e w1 hp => ?_
  obtain ⟨v, rfl, hw⟩ := h e w1 hp
  exact hK _ _ hw
end
end Go.Proofs.Ytlogocmojnhpbaa.Print
/- Contracts: a lane turned, as the program and as the reference write it. -/
namespace Go.Proofs.Ytlogocmojnhpbaa.Print
open Go.RowKit Go.Proofs.YtlogocmojnhpbaaW.PrintWords
set_option linter.unusedVariables false
set_option linter.unusedSimpArgs false
/-- A lane turned left by n, n from 0 to 63. -/
def rotL (x n : Int) : Int := Go.bits .or .u64 (IntKind.u64.wrap (x * 2 ^ n.toNat)) (x / 2 ^ (64 - n).toNat)
theorem and_63 (n : Int) (h0 : 0 ≤ n) (h1 : n < 64) : Go.bits .and .u64 n 63 = n := by
  have e6 : (2 : Int) ^ 6 = 64 := by decide
  have h := bits_mask .u64 6 (by decide) (fun n h0 h1 => by rw [e6] at h1; simp only [IntKind.wrap, IntKind.bits, IntKind.signed]; simp; omega) 6 (by decide) n h0 (by rw [e6]; omega)
  rw [e6] at h
  rw [show (63 : Int) = 64 - 1 by decide, h]
  omega
set_option maxHeartbeats 4000000 in
theorem rot.calls (x n : Int) (w : World) (h0 : 0 ≤ n) (h1 : n < 64) :
    Calls Try.prog 141 #[.int .u64 x, .int .i64 n] w fun e w' => e = .returned (.int .u64 (rotL x n)) ∧ Drawn0 w w' := by
  have e0 : IntKind.u64.wrap n = n := by simp only [IntKind.wrap, IntKind.bits, IntKind.signed]; simp; omega
  have e1 := and_63 n h0 h1
  have e2 : IntKind.u64.wrap (64 - n) = 64 - n := by simp only [IntKind.wrap, IntKind.bits, IntKind.signed]; simp; omega
  have c0 : decide (0 ≤ n) = true := decide_eq_true h0
  have c1 : decide (0 ≤ 64 - n) = true := decide_eq_true (by omega)
  go_enter Try.func141, Try.ntmps141
  go_wp2
  go_ret
  exact ⟨rfl, Drawn0.refl _⟩
/-- A lane turned left by n as the reference writes it: by 0 it is itself. -/
def turnL (x n : Int) : Int := if n = 0 then x else rotL x n
set_option maxHeartbeats 4000000 in
theorem turn.calls (x n : Int) (w : World) (h0 : 0 ≤ n) (h1 : n < 64) :
    Calls Try.prog 140 #[.int .u64 x, .int .u64 n] w fun e w' => e = .returned (.int .u64 (turnL x n)) ∧ Drawn0 w w' := by
  unfold turnL
  by_cases hn : n = 0
  · rw [if_pos hn]
    subst hn
    go_enter Try.func140, Try.ntmps140
    go_wp2
    go_ret
    exact ⟨rfl, Drawn0.refl _⟩
  · rw [if_neg hn]
    have d0 : (n == 0) = false := beq_eq_false_iff_ne.2 hn
    have d1 : decide (n = 0) = false := decide_eq_false hn
    have e2 : IntKind.u64.wrap (64 - n) = 64 - n := by simp only [IntKind.wrap, IntKind.bits, IntKind.signed]; simp; omega
    have c0 : decide (0 ≤ n) = true := decide_eq_true h0
    have c1 : decide (0 ≤ 64 - n) = true := decide_eq_true (by omega)
    clear hn
    go_enter Try.func140, Try.ntmps140
    go_wp2
    go_ret
    exact ⟨rfl, Drawn0.refl _⟩
end Go.Proofs.Ytlogocmojnhpbaa.Print
/- The permutation as a plain function of lists; a function's loops taken out of its text. -/
namespace Go.Proofs.Ytlogocmojnhpbaa.Print
open Go.RowKit Go.Proofs.YtlogocmojnhpbaaW.PrintWords
set_option linter.unusedVariables false
set_option linter.unusedSimpArgs false
def xorU (a b : Int) : Int := Go.bits .xor .u64 a b
def notU (a b : Int) : Int := Go.bits .andNot .u64 a b
def kShifts : List Int := [0, 1, 62, 28, 27, 36, 44, 6, 55, 20, 3, 10, 43, 25, 39, 41, 45, 15, 21, 8, 18, 2, 61, 56, 14]
def kConsts : List Int := [1, 32898, 9223372036854808714, 9223372039002292224, 32907, 2147483649, 9223372039002292353, 9223372036854808585, 138, 136, 2147516425, 2147483658, 2147516555, 9223372036854775947, 9223372036854808713, 9223372036854808579, 9223372036854808578, 9223372036854775936, 32778, 9223372039002259466, 9223372039002292353, 9223372036854808704, 2147483649, 9223372039002292232]
/-- The columns' sums, k lanes in. -/
def kSums (s : List Int) : Nat → List Int
  | 0 => List.replicate 5 0
  | k + 1 => (kSums s k).set (k % 5) (xorU ((kSums s k).getD (k % 5) 0) (s.getD k 0))
theorem kSums_length (s : List Int) (k : Nat) : (kSums s k).length = 5 := by
  induction k with
  | zero => rfl
  | succ k ih => simp [kSums, ih]
def kLane (s c : List Int) (k : Nat) : Int := xorU (s.getD k 0) (xorU (c.getD ((k + 4) % 5) 0) (rotL (c.getD ((k + 1) % 5) 0) 1))
/-- The lanes turned and moved, k of them. -/
def kMoved (s c : List Int) : Nat → List Int
  | 0 => List.replicate 25 0
  | k + 1 => (kMoved s c k).set (k / 5 + 5 * ((2 * (k % 5) + 3 * (k / 5)) % 5)) (rotL (kLane s c k) (kShifts.getD k 0))
theorem kMoved_length (s c : List Int) (k : Nat) : (kMoved s c k).length = 25 := by
  induction k with
  | zero => rfl
  | succ k ih => simp [kMoved, ih]
/-- The rows mixed, k lanes of them. -/
def kChi (m s : List Int) : Nat → List Int
  | 0 => s
  | k + 1 => (kChi m s k).set k (xorU (m.getD k 0) (notU (m.getD (k - k % 5 + (k + 2) % 5) 0) (m.getD (k - k % 5 + (k + 1) % 5) 0)))
theorem kChi_length (m s : List Int) (k : Nat) : (kChi m s k).length = s.length := by
  induction k with
  | zero => rfl
  | succ k ih => simp [kChi, ih]
def kMix (s : List Int) : List Int := kChi (kMoved s (kSums s 25) 25) s 25
def kRound (s : List Int) (c : Int) : List Int := (kMix s).set 0 (xorU ((kMix s).getD 0 0) c)
/-- The state behind r rounds. -/
def kPerm (s : List Int) : Nat → List Int
  | 0 => s
  | r + 1 => kRound (kPerm s r) (kConsts.getD r 0)
theorem kPerm_length (s : List Int) (r : Nat) : (kPerm s r).length = s.length := by
  induction r with
  | zero => rfl
  | succ r ih => simp [kPerm, kRound, kMix, kChi_length, ih]
/-- Only block g of the old ones has turned. -/
def Only (w w' : World) (g : Nat) : Prop := KeepBut w w' g none ∧ ∀ w0 : World, Below w0.heap.size w0 w → w0.heap.size ≤ g → Below w0.heap.size w0 w'
theorem kShifts_all : kShifts.all (fun x => decide (0 ≤ x) && decide (x < 64)) = true := by decide +kernel
theorem kShifts_bd (k : Nat) : 0 ≤ kShifts.getD k 0 ∧ kShifts.getD k 0 < 64 := by
  rw [List.getD_eq_getElem?_getD]
  by_cases h : k < kShifts.length
  · rw [List.getElem?_eq_getElem h]
    have := List.all_eq_true.1 kShifts_all _ (List.getElem_mem h)
    simpa using this
  · rw [List.getElem?_eq_none (by omega)]
    simp
/-- A function's loops, the outer ones first. -/
def codeLoops : Code → List Code
  | .loop c => .loop c :: codeLoops c
  | .seq a b => codeLoops a ++ codeLoops b
  | .block _ c => codeLoops c
  | .scope c => codeLoops c
  | .cond _ a b => codeLoops a ++ codeLoops b
  | _ => []
noncomputable def nthLoop (c : Option Code) (n : Nat) : Code := (codeLoops (c.getD .skip)).getD n .skip
end Go.Proofs.Ytlogocmojnhpbaa.Print
/- The reference's permutation as a plain function of lists. -/
namespace Go.Proofs.Ytlogocmojnhpbaa.Print
open Go.RowKit Go.Proofs.YtlogocmojnhpbaaW.PrintWords
set_option linter.unusedVariables false
set_option linter.unusedSimpArgs false
theorem turn.still (x n : Int) (w : World) (h0 : 0 ≤ n) (h1 : n < 64) :
    Calls Try.prog 140 #[.int .u64 x, .int .u64 n] w fun e w' => e = .returned (.int .u64 (turnL x n)) ∧ w' = w := by
  unfold turnL
  by_cases hn : n = 0
  · rw [if_pos hn]
    subst hn
    go_enter Try.func140, Try.ntmps140
    go_wp2
    go_ret
    exact ⟨rfl, rfl⟩
  · rw [if_neg hn]
    have d0 : (n == 0) = false := beq_eq_false_iff_ne.2 hn
    have d1 : decide (n = 0) = false := decide_eq_false hn
    have e2 : IntKind.u64.wrap (64 - n) = 64 - n := by simp only [IntKind.wrap, IntKind.bits, IntKind.signed]; simp; omega
    have c0 : decide (0 ≤ n) = true := decide_eq_true h0
    have c1 : decide (0 ≤ 64 - n) = true := decide_eq_true (by omega)
    clear hn
    go_enter Try.func140, Try.ntmps140
    go_wp2
    go_ret
    exact ⟨rfl, rfl⟩
def andU (a b : Int) : Int := Go.bits .and .u64 a b
def flipU (a : Int) : Int := Go.bits .xor .u64 IntKind.u64.max a
def sSums (a : List Int) : Nat → List Int
  | 0 => List.replicate 5 0
  | k + 1 => (sSums a k).set k (xorU (xorU (xorU (xorU (a.getD k 0) (a.getD (k + 5) 0)) (a.getD (k + 10) 0)) (a.getD (k + 15) 0)) (a.getD (k + 20) 0))
theorem sSums_length (a : List Int) (k : Nat) : (sSums a k).length = 5 := by
  induction k with
  | zero => rfl
  | succ k ih => simp [sSums, ih]
def sTheta (c a : List Int) : Nat → List Int
  | 0 => a
  | k + 1 => (sTheta c a k).set k (xorU ((sTheta c a k).getD k 0) (xorU (c.getD ((k + 4) % 5) 0) (turnL (c.getD ((k + 1) % 5) 0) 1)))
theorem sTheta_length (c a : List Int) (k : Nat) : (sTheta c a k).length = a.length := by
  induction k with
  | zero => rfl
  | succ k ih => simp [sTheta, ih]
def sMoveIn (a b : List Int) (x : Nat) : Nat → List Int
  | 0 => b
  | y + 1 => (sMoveIn a b x y).set (y + 5 * ((2 * x + 3 * y) % 5)) (turnL (a.getD (x + 5 * y) 0) (kShifts.getD (x + 5 * y) 0))
theorem sMoveIn_length (a b : List Int) (x k : Nat) : (sMoveIn a b x k).length = b.length := by
  induction k with
  | zero => rfl
  | succ k ih => simp [sMoveIn, ih]
def sMoved (a : List Int) : Nat → List Int
  | 0 => List.replicate 25 0
  | x + 1 => sMoveIn a (sMoved a x) x 5
theorem sMoved_length (a : List Int) (k : Nat) : (sMoved a k).length = 25 := by
  induction k with
  | zero => rfl
  | succ k ih => simp [sMoved, sMoveIn_length, ih]
def sChiIn (b a : List Int) (x : Nat) : Nat → List Int
  | 0 => a
  | y + 1 => (sChiIn b a x y).set (x + 5 * y) (xorU (b.getD (x + 5 * y) 0) (andU (flipU (b.getD ((x + 1) % 5 + 5 * y) 0)) (b.getD ((x + 2) % 5 + 5 * y) 0)))
theorem sChiIn_length (b a : List Int) (x k : Nat) : (sChiIn b a x k).length = a.length := by
  induction k with
  | zero => rfl
  | succ k ih => simp [sChiIn, ih]
def sChi (b a : List Int) : Nat → List Int
  | 0 => a
  | x + 1 => sChiIn b (sChi b a x) x 5
theorem sChi_length (b a : List Int) (k : Nat) : (sChi b a k).length = a.length := by
  induction k with
  | zero => rfl
  | succ k ih => simp [sChi, sChiIn_length, ih]
def sMix (a : List Int) : List Int := sChi (sMoved (sTheta (sSums a 5) a 25) 5) (sTheta (sSums a 5) a 25) 5
def sRound (a : List Int) (c : Int) : List Int := (sMix a).set 0 (xorU ((sMix a).getD 0 0) c)
def sPerm (a : List Int) : Nat → List Int
  | 0 => a
  | r + 1 => sRound (sPerm a r) (kConsts.getD r 0)
theorem sMix_length (a : List Int) : (sMix a).length = a.length := by simp [sMix, sChi_length, sTheta_length]
theorem sPerm_length (a : List Int) (r : Nat) : (sPerm a r).length = a.length := by
  induction r with
  | zero => rfl
  | succ r ih => simp [sPerm, sRound, sMix_length, ih]
end Go.Proofs.Ytlogocmojnhpbaa.Print
/- The program's permutation and the reference's are one, at every state of 25 lanes. Numbers alone. -/
namespace Go.Proofs.Ytlogocmojnhpbaa.Print
open Go.RowKit Go.Proofs.YtlogocmojnhpbaaW.PrintWords
set_option linter.unusedVariables false
set_option linter.unusedSimpArgs false
def InU (x : Int) : Prop := 0 ≤ x ∧ x < 18446744073709551616
theorem wrapU_in (n : Int) : InU (IntKind.u64.wrap n) := by
  unfold InU
  have e : IntKind.u64.wrap n = n % 18446744073709551616 := by simp [IntKind.wrap, IntKind.bits, IntKind.signed]
  rw [e]; omega
theorem wrapU_id {n : Int} (h : InU n) : IntKind.u64.wrap n = n := by
  have e : IntKind.u64.wrap n = n % 18446744073709551616 := by simp [IntKind.wrap, IntKind.bits, IntKind.signed]
  unfold InU at h
  rw [e]; omega
theorem bitsU_in (op : BinOp) (a b : Int) : InU (Go.bits op .u64 a b) := by
  unfold Go.bits
  exact wrapU_in _
theorem bvU (x : BitVec 64) : IntKind.u64.wrap (x.toNat : Int) = (x.toNat : Int) := wrapU_id ⟨by omega, by have := x.isLt; omega⟩
theorem ofInt_toNat (x : BitVec 64) : BitVec.ofInt 64 (x.toNat : Int) = x := by
  rw [BitVec.ofInt_natCast, BitVec.ofNat_toNat]; simp
theorem toNat_ofInt {a : Int} (h : InU a) : ((BitVec.ofInt 64 a).toNat : Int) = a := by
  unfold InU at h
  rw [BitVec.toNat_ofInt]
  omega
theorem xor_zero {a : Int} (h : InU a) : xorU 0 a = a := by
  unfold xorU Go.bits
  show IntKind.u64.wrap (((BitVec.ofInt 64 0 ^^^ BitVec.ofInt 64 a).toNat : Nat) : Int) = a
  rw [show BitVec.ofInt 64 0 = 0#64 by decide, BitVec.zero_xor, bvU, toNat_ofInt h]
theorem not_and {a b : Int} : notU a b = andU (flipU b) a := by
  unfold notU andU flipU Go.bits
  show IntKind.u64.wrap (((BitVec.ofInt 64 a &&& ~~~ BitVec.ofInt 64 b).toNat : Nat) : Int) = IntKind.u64.wrap (((BitVec.ofInt 64 (IntKind.u64.wrap (((BitVec.ofInt 64 IntKind.u64.max ^^^ BitVec.ofInt 64 b).toNat : Nat) : Int)) &&& BitVec.ofInt 64 a).toNat : Nat) : Int)
  rw [bvU (BitVec.ofInt 64 IntKind.u64.max ^^^ BitVec.ofInt 64 b), ofInt_toNat, show BitVec.ofInt 64 IntKind.u64.max = BitVec.allOnes 64 by decide, BitVec.allOnes_xor, BitVec.and_comm]
theorem rot_zero {x : Int} (h : InU x) : rotL x 0 = x := by
  unfold rotL Go.bits
  have e1 : x / 2 ^ (64 - (0 : Int)).toNat = 0 := by
    have : (2 : Int) ^ (64 - (0 : Int)).toNat = 18446744073709551616 := by decide
    rw [this]; unfold InU at h; omega
  have e2 : IntKind.u64.wrap (x * 2 ^ (0 : Int).toNat) = x := by rw [show (2 : Int) ^ (0 : Int).toNat = 1 by decide, Int.mul_one]; exact wrapU_id h
  rw [e1, e2]
  show IntKind.u64.wrap (((BitVec.ofInt 64 x ||| BitVec.ofInt 64 0).toNat : Nat) : Int) = x
  rw [show BitVec.ofInt 64 0 = 0#64 by decide, BitVec.or_zero, bvU, toNat_ofInt h]
theorem turn_rot {x n : Int} (h : InU x) : turnL x n = rotL x n := by
  unfold turnL
  split
  · next e => rw [e, rot_zero h]
  · rfl
theorem uncons {s : List Int} {n : Nat} (h : s.length = n + 1) : ∃ a t, s = a :: t ∧ t.length = n := by
  cases s with
  | nil => simp at h
  | cons a t => exact ⟨a, t, rfl, by simpa using h⟩
theorem list25 (s : List Int) (h : s.length = 25) : ∃ a0 a1 a2 a3 a4 a5 a6 a7 a8 a9 a10 a11 a12 a13 a14 a15 a16 a17 a18 a19 a20 a21 a22 a23 a24, s = [a0, a1, a2, a3, a4, a5, a6, a7, a8, a9, a10, a11, a12, a13, a14, a15, a16, a17, a18, a19, a20, a21, a22, a23, a24] := by
  obtain ⟨a0, s1, rfl, h1⟩ := uncons (n := 24) h
  obtain ⟨a1, s2, rfl, h2⟩ := uncons (n := 23) h1
  obtain ⟨a2, s3, rfl, h3⟩ := uncons (n := 22) h2
  obtain ⟨a3, s4, rfl, h4⟩ := uncons (n := 21) h3
  obtain ⟨a4, s5, rfl, h5⟩ := uncons (n := 20) h4
  obtain ⟨a5, s6, rfl, h6⟩ := uncons (n := 19) h5
  obtain ⟨a6, s7, rfl, h7⟩ := uncons (n := 18) h6
  obtain ⟨a7, s8, rfl, h8⟩ := uncons (n := 17) h7
  obtain ⟨a8, s9, rfl, h9⟩ := uncons (n := 16) h8
  obtain ⟨a9, s10, rfl, h10⟩ := uncons (n := 15) h9
  obtain ⟨a10, s11, rfl, h11⟩ := uncons (n := 14) h10
  obtain ⟨a11, s12, rfl, h12⟩ := uncons (n := 13) h11
  obtain ⟨a12, s13, rfl, h13⟩ := uncons (n := 12) h12
  obtain ⟨a13, s14, rfl, h14⟩ := uncons (n := 11) h13
  obtain ⟨a14, s15, rfl, h15⟩ := uncons (n := 10) h14
  obtain ⟨a15, s16, rfl, h16⟩ := uncons (n := 9) h15
  obtain ⟨a16, s17, rfl, h17⟩ := uncons (n := 8) h16
  obtain ⟨a17, s18, rfl, h18⟩ := uncons (n := 7) h17
  obtain ⟨a18, s19, rfl, h19⟩ := uncons (n := 6) h18
  obtain ⟨a19, s20, rfl, h20⟩ := uncons (n := 5) h19
  obtain ⟨a20, s21, rfl, h21⟩ := uncons (n := 4) h20
  obtain ⟨a21, s22, rfl, h22⟩ := uncons (n := 3) h21
  obtain ⟨a22, s23, rfl, h23⟩ := uncons (n := 2) h22
  obtain ⟨a23, s24, rfl, h24⟩ := uncons (n := 1) h23
  obtain ⟨a24, s25, rfl, h25⟩ := uncons (n := 0) h24
  obtain rfl := List.eq_nil_of_length_eq_zero h25
  exact ⟨a0, a1, a2, a3, a4, a5, a6, a7, a8, a9, a10, a11, a12, a13, a14, a15, a16, a17, a18, a19, a20, a21, a22, a23, a24, rfl⟩
set_option maxHeartbeats 4000000 in
theorem sums_eq {s : List Int} (hs : s.length = 25) (h : ∀ x ∈ s, InU x) : kSums s 25 = sSums s 5 := by
  obtain ⟨a0, a1, a2, a3, a4, a5, a6, a7, a8, a9, a10, a11, a12, a13, a14, a15, a16, a17, a18, a19, a20, a21, a22, a23, a24, rfl⟩ := list25 s hs
  have z0 := xor_zero (h a0 (by simp))
  have z1 := xor_zero (h a1 (by simp))
  have z2 := xor_zero (h a2 (by simp))
  have z3 := xor_zero (h a3 (by simp))
  have z4 := xor_zero (h a4 (by simp))
  have e1 : kSums [a0, a1, a2, a3, a4, a5, a6, a7, a8, a9, a10, a11, a12, a13, a14, a15, a16, a17, a18, a19, a20, a21, a22, a23, a24] 25 = [xorU (xorU (xorU (xorU (xorU 0 a0) a5) a10) a15) a20, xorU (xorU (xorU (xorU (xorU 0 a1) a6) a11) a16) a21, xorU (xorU (xorU (xorU (xorU 0 a2) a7) a12) a17) a22, xorU (xorU (xorU (xorU (xorU 0 a3) a8) a13) a18) a23, xorU (xorU (xorU (xorU (xorU 0 a4) a9) a14) a19) a24] := by kernel_rfl
  have e2 : sSums [a0, a1, a2, a3, a4, a5, a6, a7, a8, a9, a10, a11, a12, a13, a14, a15, a16, a17, a18, a19, a20, a21, a22, a23, a24] 5 = [xorU (xorU (xorU (xorU a0 a5) a10) a15) a20, xorU (xorU (xorU (xorU a1 a6) a11) a16) a21, xorU (xorU (xorU (xorU a2 a7) a12) a17) a22, xorU (xorU (xorU (xorU a3 a8) a13) a18) a23, xorU (xorU (xorU (xorU a4 a9) a14) a19) a24] := by kernel_rfl
  rw [e1, e2, z0, z1, z2, z3, z4]
/-- Every entry of a list that a program laid is a lane. -/
def AllU (l : List Int) : Prop := ∀ x ∈ l, InU x
theorem AllU.set {l : List Int} (h : AllU l) (i : Nat) {v : Int} (hv : InU v) : AllU (l.set i v) := by
  intro x hx
  rcases List.mem_or_eq_of_mem_set hx with h1 | h1
  · exact h x h1
  · rw [h1]; exact hv
theorem AllU.getD {l : List Int} (h : AllU l) (i : Nat) : InU (l.getD i 0) := by
  rw [List.getD_eq_getElem?_getD]
  by_cases hi : i < l.length
  · rw [List.getElem?_eq_getElem hi]; exact h _ (List.getElem_mem hi)
  · rw [List.getElem?_eq_none (by omega)]; exact ⟨by decide, by decide⟩
theorem sTheta_in {c a : List Int} (h : AllU a) (k : Nat) : AllU (sTheta c a k) := by
  induction k with
  | zero => exact h
  | succ k ih => exact ih.set k (bitsU_in _ _ _)
theorem kChi_in {m s : List Int} (h : AllU s) (k : Nat) : AllU (kChi m s k) := by
  induction k with
  | zero => exact h
  | succ k ih => exact ih.set k (bitsU_in _ _ _)
theorem kMix_in {s : List Int} (h : AllU s) : AllU (kMix s) := kChi_in h 25
theorem kPerm_in {s : List Int} (h : AllU s) (r : Nat) : AllU (kPerm s r) := by
  induction r with
  | zero => exact h
  | succ r ih =>
    unfold kPerm kRound
    exact (kMix_in ih).set 0 (bitsU_in _ _ _)
theorem list5 (s : List Int) (h : s.length = 5) : ∃ c0 c1 c2 c3 c4, s = [c0, c1, c2, c3, c4] := by
  obtain ⟨c0, s1, rfl, h1⟩ := uncons (n := 4) h
  obtain ⟨c1, s2, rfl, h2⟩ := uncons (n := 3) h1
  obtain ⟨c2, s3, rfl, h3⟩ := uncons (n := 2) h2
  obtain ⟨c3, s4, rfl, h4⟩ := uncons (n := 1) h3
  obtain ⟨c4, s5, rfl, h5⟩ := uncons (n := 0) h4
  obtain rfl := List.eq_nil_of_length_eq_zero h5
  exact ⟨c0, c1, c2, c3, c4, rfl⟩
set_option maxHeartbeats 4000000 in
set_option maxRecDepth 100000 in
theorem moved_eq {s c : List Int} (hs : s.length = 25) (hc : c.length = 5) : kMoved s c 25 = sMoved (sTheta c s 25) 5 := by
  obtain ⟨a0, a1, a2, a3, a4, a5, a6, a7, a8, a9, a10, a11, a12, a13, a14, a15, a16, a17, a18, a19, a20, a21, a22, a23, a24, rfl⟩ := list25 s hs
  obtain ⟨c0, c1, c2, c3, c4, rfl⟩ := list5 c hc
  have t1 : ∀ x, turnL x 1 = rotL x 1 := fun x => if_neg (by decide)
  have t2 : ∀ a b n, turnL (xorU a b) n = rotL (xorU a b) n := fun a b n => turn_rot (bitsU_in _ _ _)
  have e1 : kMoved [a0, a1, a2, a3, a4, a5, a6, a7, a8, a9, a10, a11, a12, a13, a14, a15, a16, a17, a18, a19, a20, a21, a22, a23, a24] [c0, c1, c2, c3, c4] 25 = [rotL (xorU a0 (xorU c4 (rotL c1 1))) 0, rotL (xorU a6 (xorU c0 (rotL c2 1))) 44, rotL (xorU a12 (xorU c1 (rotL c3 1))) 43, rotL (xorU a18 (xorU c2 (rotL c4 1))) 21, rotL (xorU a24 (xorU c3 (rotL c0 1))) 14, rotL (xorU a3 (xorU c2 (rotL c4 1))) 28, rotL (xorU a9 (xorU c3 (rotL c0 1))) 20, rotL (xorU a10 (xorU c4 (rotL c1 1))) 3, rotL (xorU a16 (xorU c0 (rotL c2 1))) 45, rotL (xorU a22 (xorU c1 (rotL c3 1))) 61, rotL (xorU a1 (xorU c0 (rotL c2 1))) 1, rotL (xorU a7 (xorU c1 (rotL c3 1))) 6, rotL (xorU a13 (xorU c2 (rotL c4 1))) 25, rotL (xorU a19 (xorU c3 (rotL c0 1))) 8, rotL (xorU a20 (xorU c4 (rotL c1 1))) 18, rotL (xorU a4 (xorU c3 (rotL c0 1))) 27, rotL (xorU a5 (xorU c4 (rotL c1 1))) 36, rotL (xorU a11 (xorU c0 (rotL c2 1))) 10, rotL (xorU a17 (xorU c1 (rotL c3 1))) 15, rotL (xorU a23 (xorU c2 (rotL c4 1))) 56, rotL (xorU a2 (xorU c1 (rotL c3 1))) 62, rotL (xorU a8 (xorU c2 (rotL c4 1))) 55, rotL (xorU a14 (xorU c3 (rotL c0 1))) 39, rotL (xorU a15 (xorU c4 (rotL c1 1))) 41, rotL (xorU a21 (xorU c0 (rotL c2 1))) 2] := by kernel_rfl
  have e2 : sMoved (sTheta [c0, c1, c2, c3, c4] [a0, a1, a2, a3, a4, a5, a6, a7, a8, a9, a10, a11, a12, a13, a14, a15, a16, a17, a18, a19, a20, a21, a22, a23, a24] 25) 5 = [turnL (xorU a0 (xorU c4 (turnL c1 1))) 0, turnL (xorU a6 (xorU c0 (turnL c2 1))) 44, turnL (xorU a12 (xorU c1 (turnL c3 1))) 43, turnL (xorU a18 (xorU c2 (turnL c4 1))) 21, turnL (xorU a24 (xorU c3 (turnL c0 1))) 14, turnL (xorU a3 (xorU c2 (turnL c4 1))) 28, turnL (xorU a9 (xorU c3 (turnL c0 1))) 20, turnL (xorU a10 (xorU c4 (turnL c1 1))) 3, turnL (xorU a16 (xorU c0 (turnL c2 1))) 45, turnL (xorU a22 (xorU c1 (turnL c3 1))) 61, turnL (xorU a1 (xorU c0 (turnL c2 1))) 1, turnL (xorU a7 (xorU c1 (turnL c3 1))) 6, turnL (xorU a13 (xorU c2 (turnL c4 1))) 25, turnL (xorU a19 (xorU c3 (turnL c0 1))) 8, turnL (xorU a20 (xorU c4 (turnL c1 1))) 18, turnL (xorU a4 (xorU c3 (turnL c0 1))) 27, turnL (xorU a5 (xorU c4 (turnL c1 1))) 36, turnL (xorU a11 (xorU c0 (turnL c2 1))) 10, turnL (xorU a17 (xorU c1 (turnL c3 1))) 15, turnL (xorU a23 (xorU c2 (turnL c4 1))) 56, turnL (xorU a2 (xorU c1 (turnL c3 1))) 62, turnL (xorU a8 (xorU c2 (turnL c4 1))) 55, turnL (xorU a14 (xorU c3 (turnL c0 1))) 39, turnL (xorU a15 (xorU c4 (turnL c1 1))) 41, turnL (xorU a21 (xorU c0 (turnL c2 1))) 2] := by kernel_rfl
  rw [e1, e2]
  simp only [t1, t2]
set_option maxHeartbeats 4000000 in
set_option maxRecDepth 100000 in
theorem chi_eq {m s t : List Int} (hm : m.length = 25) (hs : s.length = 25) (ht : t.length = 25) : kChi m s 25 = sChi m t 5 := by
  obtain ⟨m0, m1, m2, m3, m4, m5, m6, m7, m8, m9, m10, m11, m12, m13, m14, m15, m16, m17, m18, m19, m20, m21, m22, m23, m24, rfl⟩ := list25 m hm
  obtain ⟨a0, a1, a2, a3, a4, a5, a6, a7, a8, a9, a10, a11, a12, a13, a14, a15, a16, a17, a18, a19, a20, a21, a22, a23, a24, rfl⟩ := list25 s hs
  obtain ⟨b0, b1, b2, b3, b4, b5, b6, b7, b8, b9, b10, b11, b12, b13, b14, b15, b16, b17, b18, b19, b20, b21, b22, b23, b24, rfl⟩ := list25 t ht
  have e1 : kChi [m0, m1, m2, m3, m4, m5, m6, m7, m8, m9, m10, m11, m12, m13, m14, m15, m16, m17, m18, m19, m20, m21, m22, m23, m24] [a0, a1, a2, a3, a4, a5, a6, a7, a8, a9, a10, a11, a12, a13, a14, a15, a16, a17, a18, a19, a20, a21, a22, a23, a24] 25 = [xorU m0 (notU m2 m1), xorU m1 (notU m3 m2), xorU m2 (notU m4 m3), xorU m3 (notU m0 m4), xorU m4 (notU m1 m0), xorU m5 (notU m7 m6), xorU m6 (notU m8 m7), xorU m7 (notU m9 m8), xorU m8 (notU m5 m9), xorU m9 (notU m6 m5), xorU m10 (notU m12 m11), xorU m11 (notU m13 m12), xorU m12 (notU m14 m13), xorU m13 (notU m10 m14), xorU m14 (notU m11 m10), xorU m15 (notU m17 m16), xorU m16 (notU m18 m17), xorU m17 (notU m19 m18), xorU m18 (notU m15 m19), xorU m19 (notU m16 m15), xorU m20 (notU m22 m21), xorU m21 (notU m23 m22), xorU m22 (notU m24 m23), xorU m23 (notU m20 m24), xorU m24 (notU m21 m20)] := by kernel_rfl
  have e2 : sChi [m0, m1, m2, m3, m4, m5, m6, m7, m8, m9, m10, m11, m12, m13, m14, m15, m16, m17, m18, m19, m20, m21, m22, m23, m24] [b0, b1, b2, b3, b4, b5, b6, b7, b8, b9, b10, b11, b12, b13, b14, b15, b16, b17, b18, b19, b20, b21, b22, b23, b24] 5 = [xorU m0 (andU (flipU m1) m2), xorU m1 (andU (flipU m2) m3), xorU m2 (andU (flipU m3) m4), xorU m3 (andU (flipU m4) m0), xorU m4 (andU (flipU m0) m1), xorU m5 (andU (flipU m6) m7), xorU m6 (andU (flipU m7) m8), xorU m7 (andU (flipU m8) m9), xorU m8 (andU (flipU m9) m5), xorU m9 (andU (flipU m5) m6), xorU m10 (andU (flipU m11) m12), xorU m11 (andU (flipU m12) m13), xorU m12 (andU (flipU m13) m14), xorU m13 (andU (flipU m14) m10), xorU m14 (andU (flipU m10) m11), xorU m15 (andU (flipU m16) m17), xorU m16 (andU (flipU m17) m18), xorU m17 (andU (flipU m18) m19), xorU m18 (andU (flipU m19) m15), xorU m19 (andU (flipU m15) m16), xorU m20 (andU (flipU m21) m22), xorU m21 (andU (flipU m22) m23), xorU m22 (andU (flipU m23) m24), xorU m23 (andU (flipU m24) m20), xorU m24 (andU (flipU m20) m21)] := by kernel_rfl
  rw [e1, e2]
  simp only [not_and]
theorem mix_eq {s : List Int} (hs : s.length = 25) (h : AllU s) : kMix s = sMix s := by
  unfold kMix sMix
  rw [moved_eq hs (kSums_length _ _), sums_eq hs h]
  exact chi_eq (sMoved_length _ _) hs (by rw [sTheta_length]; exact hs)
/-- The two permutations are one. -/
theorem perm_eq {s : List Int} (hs : s.length = 25) (h : AllU s) (r : Nat) : kPerm s r = sPerm s r := by
  induction r with
  | zero => rfl
  | succ r ih =>
    unfold kPerm sPerm kRound sRound
    rw [mix_eq (by rw [kPerm_length]; exact hs) (kPerm_in h r), ih]
end Go.Proofs.Ytlogocmojnhpbaa.Print
/- Plain words on an array by value: its element. -/
namespace Go.Proofs.Ytlogocmojnhpbaa.Print
open Go.RowKit Go.Proofs.YtlogocmojnhpbaaW.PrintWords
theorem idx_arr {P : Program} {t e : TypeId} {n : Nat} (h : P.underlying t = some (.array n e)) (hs : ∀ w, (sizeOf e).run P w = .ok 1 w) (ha : ∀ w, (isAgg e).run P w = .ok false w) (k : IntKind) (xs : List Int) (hl : xs.length = n) (j : Nat) (w : World) (hj : j < n) :
    (Instr.index t (.agg (nums k xs).toArray) (.int .i64 (j : Int))).run P w = .ok (.int k (xs.getD j 0)) w := by
  have h1 : (0 : Int) ≤ (j : Int) ∧ (j : Int) < (n : Int) := by omega
  simp [Instr.index, run_underlying h, asIntOf, h1, go_sem]
  rw [if_pos hj, hs]
  simp only [Result.andThen_ok]
  rw [ha]
  simp [nums, List.getElem?_eq_getElem (show j < xs.length by omega)]
theorem size92 (w : World) : (sizeOf 92).run Try.prog w = .ok 1 w := by
  simp [sizeOf, go_sem]
  rfl
theorem agg92 (w : World) : (isAgg 92).run Try.prog w = .ok false w := by
  simp [isAgg, go_sem]
end Go.Proofs.Ytlogocmojnhpbaa.Print
/- The contract of the program's permutation: what it leaves in the state, as a plain function of lists. -/
namespace Go.Proofs.Ytlogocmojnhpbaa.Print
open Go.RowKit Go.Proofs.YtlogocmojnhpbaaW.PrintWords
set_option linter.unusedVariables false
set_option linter.unusedSimpArgs false
set_option maxHeartbeats 8000000 in
set_option maxRecDepth 100000 in
theorem permI.sums (g gs : Nat) (s : List Int) (wr : World) {u1 u2 u3 u4 u5 u7 u8 u9 u10 u11 u12 u13 u14 u15 u16 u17 u18 u19 u20 u21 u22 u23 u24 u25 u28 u29 u30 u31 u32 u33 u34 u35 u36 u37 u38 u39 u40 u41 u42 u43 u44 u45 u46 u47 u48 u49 u50 u51 u52 u53 u54 u55 u56 u57 u58 u59 u60 u61 u62 u63 u64 u65 u66 u67 u68 u69 u70 u71 u72 u73 u74 u75 u76 u77 u78 u79 u80 u81 u82 u83 u84 u85 u86 u87 u88 u89 u90 u91 u92 u93 u94 u95 u96 u97 u98 u99 u100 u101 u102 u103 u104 u105 u106 u107 u108 u109 u110 u111 u112 u113 u114 u115 u116 u117 u118 u119 u120 u121 u122 u123 : Value} {Q : Exit → Act → World → Prop} (hs : s.length = 25) (hne : gs ≠ g) (hb : Arr wr g 96 .u64 s) (hc : Arr wr gs 149 .u64 (kSums s 0))
    (hexit : ∀ (a' : Act) (w' : World), Arr w' gs 149 .u64 (kSums s 25) → Moved wr w' (fun i => i = gs) → (∃ z8 z9 z27 z28 z29 z30 z31 z32 z33 z34 z35 z36 z37 z38 z39 z40 : Value, a' = ⟨List.toArray (Value.pointer (some ⟨g, 0, none⟩) :: u1 :: u2 :: u3 :: u4 :: u5 :: Value.pointer (some ⟨gs, 0, none⟩) :: u7 :: z8 :: z9 :: u10 :: u11 :: u12 :: u13 :: u14 :: u15 :: u16 :: u17 :: u18 :: u19 :: u20 :: u21 :: u22 :: u23 :: u24 :: u25 :: Value.pointer (some ⟨g, 0, none⟩) :: z27 :: z28 :: z29 :: z30 :: z31 :: z32 :: z33 :: z34 :: z35 :: z36 :: z37 :: z38 :: z39 :: z40 :: u41 :: u42 :: u43 :: u44 :: u45 :: u46 :: u47 :: u48 :: u49 :: u50 :: u51 :: u52 :: u53 :: u54 :: u55 :: u56 :: u57 :: u58 :: u59 :: u60 :: u61 :: u62 :: u63 :: u64 :: u65 :: u66 :: u67 :: u68 :: u69 :: u70 :: u71 :: u72 :: u73 :: u74 :: u75 :: u76 :: u77 :: u78 :: u79 :: u80 :: u81 :: u82 :: u83 :: u84 :: u85 :: u86 :: u87 :: u88 :: u89 :: u90 :: u91 :: u92 :: u93 :: u94 :: u95 :: u96 :: u97 :: u98 :: u99 :: u100 :: u101 :: u102 :: u103 :: u104 :: u105 :: u106 :: u107 :: u108 :: u109 :: u110 :: u111 :: u112 :: u113 :: u114 :: u115 :: u116 :: u117 :: u118 :: u119 :: u120 :: u121 :: u122 :: u123 :: []), []⟩) → Q (.exit 2) a' w') :
    Code.wp Try.prog (nthLoop Try.f85.body 1) Q ⟨List.toArray (Value.pointer (some ⟨g, 0, none⟩) :: u1 :: u2 :: u3 :: u4 :: u5 :: Value.pointer (some ⟨gs, 0, none⟩) :: u7 :: u8 :: u9 :: u10 :: u11 :: u12 :: u13 :: u14 :: u15 :: u16 :: u17 :: u18 :: u19 :: u20 :: u21 :: u22 :: u23 :: u24 :: u25 :: Value.pointer (some ⟨g, 0, none⟩) :: Value.int .i64 0 :: u28 :: u29 :: u30 :: u31 :: u32 :: u33 :: u34 :: u35 :: u36 :: u37 :: u38 :: u39 :: u40 :: u41 :: u42 :: u43 :: u44 :: u45 :: u46 :: u47 :: u48 :: u49 :: u50 :: u51 :: u52 :: u53 :: u54 :: u55 :: u56 :: u57 :: u58 :: u59 :: u60 :: u61 :: u62 :: u63 :: u64 :: u65 :: u66 :: u67 :: u68 :: u69 :: u70 :: u71 :: u72 :: u73 :: u74 :: u75 :: u76 :: u77 :: u78 :: u79 :: u80 :: u81 :: u82 :: u83 :: u84 :: u85 :: u86 :: u87 :: u88 :: u89 :: u90 :: u91 :: u92 :: u93 :: u94 :: u95 :: u96 :: u97 :: u98 :: u99 :: u100 :: u101 :: u102 :: u103 :: u104 :: u105 :: u106 :: u107 :: u108 :: u109 :: u110 :: u111 :: u112 :: u113 :: u114 :: u115 :: u116 :: u117 :: u118 :: u119 :: u120 :: u121 :: u122 :: u123 :: []), []⟩ wr := by
  conv => arg 2; whnf
  have HB := Aside0.mk hb
  have HC := Aside0.mk hc
  have HX := Aside0.mk hexit
  clear hb hc hexit
  go_loopg [27] 25 (fun gg s27 w' => ∃ k : Nat, k ≤ 25 ∧ 25 - k ≤ gg ∧ s27 = .int .i64 k ∧ Aside0 (Arr w' gs 149 .u64 (kSums s k)) ∧ Aside0 (Moved wr w' (fun i => i = gs)))
  case atStart => exact ⟨0, by omega, by omega, rfl, HC, ⟨Moved.refl _ _⟩⟩
  case round =>
    obtain ⟨k, hk, hg, rfl, HK, HO⟩ := hrel
    by_cases hlt : k < 25
    · have hltz : (k : Int) < 25 := by omega
      have h0z : (0 : Int) ≤ (k : Int) := by omega
      have HG := HB.out.moved HO.out (fun e => hne e.symm)
      have q0 := HG.cell k (by omega)
      have q1 := HK.out.cell (k % 5) (by rw [kSums_length]; omega)
      have f1 := HK.out.frozen (k % 5)
      clear hlt
      go_wp2
      go_quiet (fail)
      go_wp2
      go_roundg (25 - (k + 1))
      case measure => omega
      case rel => exact ⟨k + 1, by omega, by omega, by go_num, ⟨(HK.out.drewN nq).set (k % 5) _⟩, ⟨(HO.out.drewN nq).set gs _ _ (.inl rfl)⟩⟩
    · have hk25 : k = 25 := by omega
      subst hk25
      go_wp2
      exact HX.out _ _ HK.out HO.out ⟨_, _, _, _, _, _, _, _, _, _, _, _, _, _, _, _, rfl⟩
set_option maxHeartbeats 8000000 in
set_option maxRecDepth 100000 in
theorem permI.moved (g gh gs gm : Nat) (s c : List Int) (wr : World) {u1 u3 u4 u5 u8 u9 u10 u11 u12 u13 u14 u15 u16 u17 u18 u19 u20 u21 u22 u23 u24 u25 u26 u27 u28 u29 u30 u31 u32 u33 u34 u35 u36 u37 u38 u39 u40 u43 u44 u45 u46 u47 u48 u49 u50 u51 u52 u53 u54 u55 u56 u57 u58 u59 u60 u61 u62 u63 u64 u65 u66 u67 u68 u69 u70 u71 u72 u73 u74 u75 u76 u77 u78 u79 u80 u81 u82 u83 u84 u85 u86 u87 u88 u89 u90 u91 u92 u93 u94 u95 u96 u97 u98 u99 u100 u101 u102 u103 u104 u105 u106 u107 u108 u109 u110 u111 u112 u113 u114 u115 u116 u117 u118 u119 u120 u121 u122 u123 : Value} {Q : Exit → Act → World → Prop} (hs : s.length = 25) (hcl : c.length = 5) (h1 : gm ≠ g) (h2 : gm ≠ gh) (h3 : gm ≠ gs) (hb : Arr wr g 96 .u64 s) (hh : Arr wr gh 152 .i64 kShifts) (hc : Arr wr gs 149 .u64 c) (hm : Arr wr gm 96 .u64 (kMoved s c 0))
    (hexit : ∀ (a' : Act) (w' : World), Arr w' gm 96 .u64 (kMoved s c 25) → Moved wr w' (fun i => i = gm) → (∃ z10 z11 z12 z13 z42 z43 z44 z45 z46 z47 z48 z49 z50 z51 z52 z53 z54 z55 z56 z57 z58 z59 z60 z61 z62 z63 z64 z65 z66 z67 z68 z69 z70 z71 z72 z73 z74 z75 z76 z77 z78 z79 z80 z81 : Value, a' = ⟨List.toArray (Value.pointer (some ⟨g, 0, none⟩) :: u1 :: Value.pointer (some ⟨gh, 0, none⟩) :: u3 :: u4 :: u5 :: Value.pointer (some ⟨gs, 0, none⟩) :: Value.pointer (some ⟨gm, 0, none⟩) :: u8 :: u9 :: z10 :: z11 :: z12 :: z13 :: u14 :: u15 :: u16 :: u17 :: u18 :: u19 :: u20 :: u21 :: u22 :: u23 :: u24 :: u25 :: u26 :: u27 :: u28 :: u29 :: u30 :: u31 :: u32 :: u33 :: u34 :: u35 :: u36 :: u37 :: u38 :: u39 :: u40 :: Value.pointer (some ⟨g, 0, none⟩) :: z42 :: z43 :: z44 :: z45 :: z46 :: z47 :: z48 :: z49 :: z50 :: z51 :: z52 :: z53 :: z54 :: z55 :: z56 :: z57 :: z58 :: z59 :: z60 :: z61 :: z62 :: z63 :: z64 :: z65 :: z66 :: z67 :: z68 :: z69 :: z70 :: z71 :: z72 :: z73 :: z74 :: z75 :: z76 :: z77 :: z78 :: z79 :: z80 :: z81 :: u82 :: u83 :: u84 :: u85 :: u86 :: u87 :: u88 :: u89 :: u90 :: u91 :: u92 :: u93 :: u94 :: u95 :: u96 :: u97 :: u98 :: u99 :: u100 :: u101 :: u102 :: u103 :: u104 :: u105 :: u106 :: u107 :: u108 :: u109 :: u110 :: u111 :: u112 :: u113 :: u114 :: u115 :: u116 :: u117 :: u118 :: u119 :: u120 :: u121 :: u122 :: u123 :: []), []⟩) → Q (.exit 4) a' w') :
    Code.wp Try.prog (nthLoop Try.f85.body 2) Q ⟨List.toArray (Value.pointer (some ⟨g, 0, none⟩) :: u1 :: Value.pointer (some ⟨gh, 0, none⟩) :: u3 :: u4 :: u5 :: Value.pointer (some ⟨gs, 0, none⟩) :: Value.pointer (some ⟨gm, 0, none⟩) :: u8 :: u9 :: u10 :: u11 :: u12 :: u13 :: u14 :: u15 :: u16 :: u17 :: u18 :: u19 :: u20 :: u21 :: u22 :: u23 :: u24 :: u25 :: u26 :: u27 :: u28 :: u29 :: u30 :: u31 :: u32 :: u33 :: u34 :: u35 :: u36 :: u37 :: u38 :: u39 :: u40 :: Value.pointer (some ⟨g, 0, none⟩) :: Value.int .i64 0 :: u43 :: u44 :: u45 :: u46 :: u47 :: u48 :: u49 :: u50 :: u51 :: u52 :: u53 :: u54 :: u55 :: u56 :: u57 :: u58 :: u59 :: u60 :: u61 :: u62 :: u63 :: u64 :: u65 :: u66 :: u67 :: u68 :: u69 :: u70 :: u71 :: u72 :: u73 :: u74 :: u75 :: u76 :: u77 :: u78 :: u79 :: u80 :: u81 :: u82 :: u83 :: u84 :: u85 :: u86 :: u87 :: u88 :: u89 :: u90 :: u91 :: u92 :: u93 :: u94 :: u95 :: u96 :: u97 :: u98 :: u99 :: u100 :: u101 :: u102 :: u103 :: u104 :: u105 :: u106 :: u107 :: u108 :: u109 :: u110 :: u111 :: u112 :: u113 :: u114 :: u115 :: u116 :: u117 :: u118 :: u119 :: u120 :: u121 :: u122 :: u123 :: []), []⟩ wr := by
  conv => arg 2; whnf
  have HB := Aside0.mk hb
  have HH := Aside0.mk hh
  have HC := Aside0.mk hc
  have HM := Aside0.mk hm
  have HX := Aside0.mk hexit
  clear hb hc hexit hh hm
  go_loopg [42] 25 (fun gg s42 w' => ∃ k : Nat, k ≤ 25 ∧ 25 - k ≤ gg ∧ s42 = .int .i64 k ∧ Aside0 (Arr w' gm 96 .u64 (kMoved s c k)) ∧ Aside0 (Moved wr w' (fun i => i = gm)))
  case atStart => exact ⟨0, by omega, by omega, rfl, HM, ⟨Moved.refl _ _⟩⟩
  case round =>
    obtain ⟨k, hk, hg, rfl, HK, HO⟩ := hrel
    by_cases hlt : k < 25
    · have hltz : (k : Int) < 25 := by omega
      have h0z : (0 : Int) ≤ (k : Int) := by omega
      have HG := HB.out.moved HO.out (fun e => h1 e.symm)
      have HG2 := HH.out.moved HO.out (fun e => h2 e.symm)
      have HG3 := HC.out.moved HO.out (fun e => h3 e.symm)
      have q0 := HG.cell k (by omega)
      have q1 := HG3.cell ((k + 4) % 5) (by omega)
      have q2 := HG3.cell ((k + 1) % 5) (by omega)
      have q3 := HG2.cell k (by show k < 25; omega)
      have q4 := HK.out.cell (k / 5 + 5 * ((2 * (k % 5) + 3 * (k / 5)) % 5)) (by rw [kMoved_length]; omega)
      have f4 := HK.out.frozen (k / 5 + 5 * ((2 * (k % 5) + 3 * (k / 5)) % 5))
      have b3 : 0 ≤ kShifts.getD k 0 ∧ kShifts.getD k 0 < 64 := kShifts_bd k
      obtain ⟨sh, hsh⟩ : ∃ sh, sh = kShifts.getD k 0 := ⟨_, rfl⟩
      rw [← hsh] at q3 b3
      have HS := Aside0.mk hsh
      clear hsh
      clear hlt
      have a4 : (0 : Int) ≤ ((k : Int) + 4) % 5 := by omega
      have a5 : ((k : Int) + 4) % 5 < 5 := by omega
      have b5 : (0 : Int) ≤ ((k : Int) + 1) % 5 := by omega
      have b6 : ((k : Int) + 1) % 5 < 5 := by omega
      go_wp2
      go_quiet (fail)
      go_wp2
      go_quiet (first | (go_at_call 141; refine (rot.calls _ _ _ (by omega) (by omega)).mono ?_; rintro e w' ⟨rfl, ⟨nd, rfl⟩⟩; first | exact ⟨rfl, _, World.drewN_drewN _ _ _⟩ | exact ⟨rfl, _, Eq.trans (World.drewN_drewN _ _ _) (congrArg (World.drewN _) (Nat.add_assoc _ _ _))⟩))
      go_wp2_with (go_at_call 141; refine (rot.calls _ _ _ (by omega) (by omega)).mono ?_; rintro e w1 ⟨rfl, ⟨nd, rfl⟩⟩)
      go_roundg (25 - (k + 1))
      case measure => omega
      case rel => exact ⟨k + 1, by omega, by omega, by go_num, ⟨by rw [HS.out]; exact (HK.out.drewN _).set (k / 5 + 5 * ((2 * (k % 5) + 3 * (k / 5)) % 5)) _⟩, ⟨(HO.out.drewN _).set gm _ _ (.inl rfl)⟩⟩
    · have hk25 : k = 25 := by omega
      subst hk25
      go_wp2
      exact HX.out _ _ HK.out HO.out ⟨_, _, _, _, _, _, _, _, _, _, _, _, _, _, _, _, _, _, _, _, _, _, _, _, _, _, _, _, _, _, _, _, _, _, _, _, _, _, _, _, _, _, _, _, rfl⟩
set_option maxHeartbeats 8000000 in
set_option maxRecDepth 100000 in
theorem permI.chi (g gm : Nat) (s m : List Int) (V : Value) (wr : World) {u1 u2 u3 u4 u5 u6 u8 u9 u10 u11 u12 u13 u14 u15 u16 u17 u18 u19 u20 u21 u22 u23 u24 u25 u26 u27 u28 u29 u30 u31 u32 u33 u34 u35 u36 u37 u38 u39 u40 u41 u42 u43 u44 u45 u46 u47 u48 u49 u50 u51 u52 u53 u54 u55 u56 u57 u58 u59 u60 u61 u62 u63 u64 u65 u66 u67 u68 u69 u70 u71 u72 u73 u74 u75 u76 u77 u78 u79 u80 u81 u84 u85 u86 u87 u88 u89 u90 u91 u92 u93 u94 u95 u96 u97 u98 u99 u100 u101 u102 u103 u104 u105 u106 u107 u108 u109 u110 u111 u112 u113 u114 u115 u116 u117 u118 u119 u120 u121 u122 u123 : Value} {Q : Exit → Act → World → Prop} (hs : s.length = 25) (hml : m.length = 25) (h1 : gm ≠ g) (hV : ∀ (j : Nat) (w : World), j < 25 → (Instr.index 96 V (.int .i64 (j : Int))).run Try.prog w = .ok (.int .u64 (m.getD j 0)) w) (hb : Arr wr g 96 .u64 (kChi m s 0)) (hm : Arr wr gm 96 .u64 m)
    (hexit : ∀ (a' : Act) (w' : World), Arr w' g 96 .u64 (kChi m s 25) → Moved wr w' (fun i => i = g) → (∃ z14 z15 z16 z17 z83 z84 z85 z86 z87 z88 z89 z90 z91 z92 z93 z94 z95 z96 z97 z98 z99 z100 z101 z102 z103 z104 z105 z106 z107 z108 z109 z110 z111 z112 z113 z114 : Value, a' = ⟨List.toArray (Value.pointer (some ⟨g, 0, none⟩) :: u1 :: u2 :: u3 :: u4 :: u5 :: u6 :: Value.pointer (some ⟨gm, 0, none⟩) :: u8 :: u9 :: u10 :: u11 :: u12 :: u13 :: z14 :: z15 :: z16 :: z17 :: u18 :: u19 :: u20 :: u21 :: u22 :: u23 :: u24 :: u25 :: u26 :: u27 :: u28 :: u29 :: u30 :: u31 :: u32 :: u33 :: u34 :: u35 :: u36 :: u37 :: u38 :: u39 :: u40 :: u41 :: u42 :: u43 :: u44 :: u45 :: u46 :: u47 :: u48 :: u49 :: u50 :: u51 :: u52 :: u53 :: u54 :: u55 :: u56 :: u57 :: u58 :: u59 :: u60 :: u61 :: u62 :: u63 :: u64 :: u65 :: u66 :: u67 :: u68 :: u69 :: u70 :: u71 :: u72 :: u73 :: u74 :: u75 :: u76 :: u77 :: u78 :: u79 :: u80 :: u81 :: V :: z83 :: z84 :: z85 :: z86 :: z87 :: z88 :: z89 :: z90 :: z91 :: z92 :: z93 :: z94 :: z95 :: z96 :: z97 :: z98 :: z99 :: z100 :: z101 :: z102 :: z103 :: z104 :: z105 :: z106 :: z107 :: z108 :: z109 :: z110 :: z111 :: z112 :: z113 :: z114 :: u115 :: u116 :: u117 :: u118 :: u119 :: u120 :: u121 :: u122 :: u123 :: []), []⟩) → Q (.exit 6) a' w') :
    Code.wp Try.prog (nthLoop Try.f85.body 3) Q ⟨List.toArray (Value.pointer (some ⟨g, 0, none⟩) :: u1 :: u2 :: u3 :: u4 :: u5 :: u6 :: Value.pointer (some ⟨gm, 0, none⟩) :: u8 :: u9 :: u10 :: u11 :: u12 :: u13 :: u14 :: u15 :: u16 :: u17 :: u18 :: u19 :: u20 :: u21 :: u22 :: u23 :: u24 :: u25 :: u26 :: u27 :: u28 :: u29 :: u30 :: u31 :: u32 :: u33 :: u34 :: u35 :: u36 :: u37 :: u38 :: u39 :: u40 :: u41 :: u42 :: u43 :: u44 :: u45 :: u46 :: u47 :: u48 :: u49 :: u50 :: u51 :: u52 :: u53 :: u54 :: u55 :: u56 :: u57 :: u58 :: u59 :: u60 :: u61 :: u62 :: u63 :: u64 :: u65 :: u66 :: u67 :: u68 :: u69 :: u70 :: u71 :: u72 :: u73 :: u74 :: u75 :: u76 :: u77 :: u78 :: u79 :: u80 :: u81 :: V :: Value.int .i64 0 :: u84 :: u85 :: u86 :: u87 :: u88 :: u89 :: u90 :: u91 :: u92 :: u93 :: u94 :: u95 :: u96 :: u97 :: u98 :: u99 :: u100 :: u101 :: u102 :: u103 :: u104 :: u105 :: u106 :: u107 :: u108 :: u109 :: u110 :: u111 :: u112 :: u113 :: u114 :: u115 :: u116 :: u117 :: u118 :: u119 :: u120 :: u121 :: u122 :: u123 :: []), []⟩ wr := by
  conv => arg 2; whnf
  have HB := Aside0.mk hb
  have HM := Aside0.mk hm
  have HV := Aside0.mk hV
  have HX := Aside0.mk hexit
  clear hb hexit hm hV
  go_loopg [83] 25 (fun gg s83 w' => ∃ k : Nat, k ≤ 25 ∧ 25 - k ≤ gg ∧ s83 = .int .i64 k ∧ Aside0 (Arr w' g 96 .u64 (kChi m s k)) ∧ Aside0 (Moved wr w' (fun i => i = g)))
  case atStart => exact ⟨0, by omega, by omega, rfl, HB, ⟨Moved.refl _ _⟩⟩
  case round =>
    obtain ⟨k, hk, hg, rfl, HK, HO⟩ := hrel
    by_cases hlt : k < 25
    · have hltz : (k : Int) < 25 := by omega
      have h0z : (0 : Int) ≤ (k : Int) := by omega
      have HG := HM.out.moved HO.out (fun e => h1 e)
      have q0 := HK.out.cell k (by rw [kChi_length]; omega)
      have f0 := HK.out.frozen k
      have q1 := HG.cell (k - k % 5 + (k + 2) % 5) (by omega)
      have q2 := HG.cell (k - k % 5 + (k + 1) % 5) (by omega)
      have hv := fun w => HV.out k w hlt
      clear hlt
      go_wp2
      have a1 : IntKind.i64.wrap ((k : Int) % 5 + 2) = (k : Int) % 5 + 2 := by rw [IntKind.wrap_i64]; omega
      have a2 : ((k : Int) % 5 + 2).tmod 5 = ((k : Int) + 2) % 5 := by rw [Int.tmod_eq_emod_of_nonneg (by omega)]; omega
      have a3 : IntKind.i64.wrap (((k : Int) + 2) % 5) = ((k : Int) + 2) % 5 := by rw [IntKind.wrap_i64]; omega
      have a4 : IntKind.i64.wrap ((k : Int) - (k : Int) % 5 + ((k : Int) + 2) % 5) = (k : Int) - (k : Int) % 5 + ((k : Int) + 2) % 5 := by rw [IntKind.wrap_i64]; omega
      have a5 : (0 : Int) ≤ (k : Int) - (k : Int) % 5 + ((k : Int) + 2) % 5 := by omega
      have a6 : (k : Int) - (k : Int) % 5 + ((k : Int) + 2) % 5 < 25 := by omega
      have a7 : ((k : Int) - (k : Int) % 5 + ((k : Int) + 2) % 5).toNat = k - k % 5 + (k + 2) % 5 := by omega
      have b1 : IntKind.i64.wrap ((k : Int) % 5 + 1) = (k : Int) % 5 + 1 := by rw [IntKind.wrap_i64]; omega
      have b2 : ((k : Int) % 5 + 1).tmod 5 = ((k : Int) + 1) % 5 := by rw [Int.tmod_eq_emod_of_nonneg (by omega)]; omega
      have b3 : IntKind.i64.wrap (((k : Int) + 1) % 5) = ((k : Int) + 1) % 5 := by rw [IntKind.wrap_i64]; omega
      have b4 : IntKind.i64.wrap ((k : Int) - (k : Int) % 5 + ((k : Int) + 1) % 5) = (k : Int) - (k : Int) % 5 + ((k : Int) + 1) % 5 := by rw [IntKind.wrap_i64]; omega
      have b5 : (0 : Int) ≤ (k : Int) - (k : Int) % 5 + ((k : Int) + 1) % 5 := by omega
      have b6 : (k : Int) - (k : Int) % 5 + ((k : Int) + 1) % 5 < 25 := by omega
      have b7 : ((k : Int) - (k : Int) % 5 + ((k : Int) + 1) % 5).toNat = k - k % 5 + (k + 1) % 5 := by omega
      refine wp_region_still_tail 21 (by kernel_rfl) (by kernel_rfl) ?_
      show wpStill _ _ (World.drew _) (fun a' => wpList _ _ _ _ a' (World.drew _)) _ _
      simp only [List.take_succ_cons, List.take_zero, List.drop_succ_cons, List.drop_zero]
      repeat still_step
      refine wpStill_nil ?_
      clear a1 a2 a3 a4 a5 a6 a7 b1 b2 b3 b4 b5 b6 b7
      go_wp2
      go_roundg (25 - (k + 1))
      case measure => omega
      case rel => exact ⟨k + 1, by omega, by omega, by go_num, ⟨(HK.out.drew).set k _⟩, ⟨(HO.out.drew).set g _ _ (.inl rfl)⟩⟩
    · have hk25 : k = 25 := by omega
      subst hk25
      go_wp2
      exact HX.out _ _ HK.out HO.out ⟨_, _, _, _, _, _, _, _, _, _, _, _, _, _, _, _, _, _, _, _, _, _, _, _, _, _, _, _, _, _, _, _, _, _, _, _, rfl⟩
end Go.Proofs.Ytlogocmojnhpbaa.Print
/- The contract of the program's permutation: what it leaves in the state, as a plain function of lists. -/
namespace Go.Proofs.Ytlogocmojnhpbaa.Print
open Go.RowKit Go.Proofs.YtlogocmojnhpbaaW.PrintWords
set_option linter.unusedVariables false
set_option linter.unusedSimpArgs false
/-- n noughts. -/
def z5 : Array Value := (nums .u64 (List.replicate 5 0)).toArray
def z25 : Array Value := (nums .u64 (List.replicate 25 0)).toArray
theorem arr_new (w : World) (T : TypeId) (k : IntKind) (xs : List Int) : Arr (w.alloc (.cells (nums k xs).toArray T)) w.heap.size T k xs := blk_new w _
set_option maxHeartbeats 8000000 in
set_option maxRecDepth 100000 in
theorem permI.rounds (g gh : Nat) (s : List Int) (C : Value) (wr' : World) {u1 u3 u4 u5 u6 u7 u8 u9 u10 u11 u12 u13 u14 u15 u16 u17 u18 u19 u22 u23 u24 u25 u26 u27 u28 u29 u30 u31 u32 u33 u34 u35 u36 u37 u38 u39 u40 u41 u42 u43 u44 u45 u46 u47 u48 u49 u50 u51 u52 u53 u54 u55 u56 u57 u58 u59 u60 u61 u62 u63 u64 u65 u66 u67 u68 u69 u70 u71 u72 u73 u74 u75 u76 u77 u78 u79 u80 u81 u82 u83 u84 u85 u86 u87 u88 u89 u90 u91 u92 u93 u94 u95 u96 u97 u98 u99 u100 u101 u102 u103 u104 u105 u106 u107 u108 u109 u110 u111 u112 u113 u114 u115 u116 u117 u118 u119 u120 u121 u122 u123 : Value} {Q : Exit → Act → World → Prop} (hs : s.length = 25) (h1 : gh ≠ g) (hC : ∀ (j : Nat) (w : World), j < 24 → (Instr.index 145 C (.int .i64 (j : Int))).run Try.prog w = .ok (.int .u64 (kConsts.getD j 0)) w) (hb : Arr wr' g 96 .u64 s) (hh : Arr wr' gh 152 .i64 kShifts)
    (hexit : ∀ (a' : Act) (w' : World), Arr w' g 96 .u64 (kPerm s 24) → Moved wr' w' (fun i => i = g) → (∃ z5 z6 z7 z8 z9 z10 z11 z12 z13 z14 z15 z16 z17 z21 z22 z23 z24 z25 z26 z27 z28 z29 z30 z31 z32 z33 z34 z35 z36 z37 z38 z39 z40 z41 z42 z43 z44 z45 z46 z47 z48 z49 z50 z51 z52 z53 z54 z55 z56 z57 z58 z59 z60 z61 z62 z63 z64 z65 z66 z67 z68 z69 z70 z71 z72 z73 z74 z75 z76 z77 z78 z79 z80 z81 z82 z83 z84 z85 z86 z87 z88 z89 z90 z91 z92 z93 z94 z95 z96 z97 z98 z99 z100 z101 z102 z103 z104 z105 z106 z107 z108 z109 z110 z111 z112 z113 z114 z115 z116 z117 z118 z119 z120 z121 z122 z123 : Value, a' = ⟨List.toArray (Value.pointer (some ⟨g, 0, none⟩) :: u1 :: Value.pointer (some ⟨gh, 0, none⟩) :: u3 :: u4 :: z5 :: z6 :: z7 :: z8 :: z9 :: z10 :: z11 :: z12 :: z13 :: z14 :: z15 :: z16 :: z17 :: u18 :: u19 :: C :: z21 :: z22 :: z23 :: z24 :: z25 :: z26 :: z27 :: z28 :: z29 :: z30 :: z31 :: z32 :: z33 :: z34 :: z35 :: z36 :: z37 :: z38 :: z39 :: z40 :: z41 :: z42 :: z43 :: z44 :: z45 :: z46 :: z47 :: z48 :: z49 :: z50 :: z51 :: z52 :: z53 :: z54 :: z55 :: z56 :: z57 :: z58 :: z59 :: z60 :: z61 :: z62 :: z63 :: z64 :: z65 :: z66 :: z67 :: z68 :: z69 :: z70 :: z71 :: z72 :: z73 :: z74 :: z75 :: z76 :: z77 :: z78 :: z79 :: z80 :: z81 :: z82 :: z83 :: z84 :: z85 :: z86 :: z87 :: z88 :: z89 :: z90 :: z91 :: z92 :: z93 :: z94 :: z95 :: z96 :: z97 :: z98 :: z99 :: z100 :: z101 :: z102 :: z103 :: z104 :: z105 :: z106 :: z107 :: z108 :: z109 :: z110 :: z111 :: z112 :: z113 :: z114 :: z115 :: z116 :: z117 :: z118 :: z119 :: z120 :: z121 :: z122 :: z123 :: []), []⟩) → Q (.exit 0) a' w') :
    Code.wp Try.prog (nthLoop Try.f85.body 0) Q ⟨List.toArray (Value.pointer (some ⟨g, 0, none⟩) :: u1 :: Value.pointer (some ⟨gh, 0, none⟩) :: u3 :: u4 :: u5 :: u6 :: u7 :: u8 :: u9 :: u10 :: u11 :: u12 :: u13 :: u14 :: u15 :: u16 :: u17 :: u18 :: u19 :: C :: Value.int .i64 0 :: u22 :: u23 :: u24 :: u25 :: u26 :: u27 :: u28 :: u29 :: u30 :: u31 :: u32 :: u33 :: u34 :: u35 :: u36 :: u37 :: u38 :: u39 :: u40 :: u41 :: u42 :: u43 :: u44 :: u45 :: u46 :: u47 :: u48 :: u49 :: u50 :: u51 :: u52 :: u53 :: u54 :: u55 :: u56 :: u57 :: u58 :: u59 :: u60 :: u61 :: u62 :: u63 :: u64 :: u65 :: u66 :: u67 :: u68 :: u69 :: u70 :: u71 :: u72 :: u73 :: u74 :: u75 :: u76 :: u77 :: u78 :: u79 :: u80 :: u81 :: u82 :: u83 :: u84 :: u85 :: u86 :: u87 :: u88 :: u89 :: u90 :: u91 :: u92 :: u93 :: u94 :: u95 :: u96 :: u97 :: u98 :: u99 :: u100 :: u101 :: u102 :: u103 :: u104 :: u105 :: u106 :: u107 :: u108 :: u109 :: u110 :: u111 :: u112 :: u113 :: u114 :: u115 :: u116 :: u117 :: u118 :: u119 :: u120 :: u121 :: u122 :: u123 :: []), []⟩ wr' := by
  conv => arg 2; whnf
  have HB := Aside0.mk hb
  have HH := Aside0.mk hh
  have HC := Aside0.mk hC
  have HX := Aside0.mk hexit
  clear hb hexit hh hC
  go_loopg [21] 24 (fun gg s21 w' => ∃ k : Nat, k ≤ 24 ∧ 24 - k ≤ gg ∧ s21 = .int .i64 k ∧ Aside0 (Arr w' g 96 .u64 (kPerm s k)) ∧ Aside0 (Moved wr' w' (fun i => i = g)))
  case atStart => exact ⟨0, by omega, by omega, rfl, HB, ⟨Moved.refl _ _⟩⟩
  case round =>
    obtain ⟨k, hk, hg, rfl, HK, HO⟩ := hrel
    by_cases hlt : k < 24
    · have hltz : (k : Int) < 24 := by omega
      have h0z : (0 : Int) ≤ (k : Int) := by omega
      have HG := HH.out.moved HO.out (fun e => h1 e)
      have hc := fun w => HC.out k w hlt
      obtain ⟨c, hcc⟩ : ∃ c, c = kConsts.getD k 0 := ⟨_, rfl⟩
      rw [← hcc] at hc
      have HCC := Aside0.mk hcc
      clear hlt hcc
      go_upto_region 5 with fail
      apply wp_region_lit
      refine wpList_buildTo rfl 149 _ rfl (some 24) rfl z5 (by kernel_rfl) ?_
      refine wpList_buildTo rfl 96 _ rfl (some 25) rfl z25 (by kernel_rfl) ?_
      refine Go.Great.wpList_allocTo rfl (some 6) rfl (.pointer (some ⟨wr.heap.size, 0, none⟩)) (.cells z5 149) (by kernel_rfl) ?_
      refine Go.Great.wpList_allocTo rfl (some 7) rfl (.pointer (some ⟨(wr.alloc (.cells z5 149)).heap.size, 0, none⟩)) (.cells z25 96) (by kernel_rfl) ?_
      refine wpList_store_rowTo rfl 149 _ _ rfl rfl wr.heap.size z5 (by kernel_rfl) (by kernel_rfl) 149 z5 (blk_alloc (blk_new _ _) _) (by kernel_rfl) rfl (by kernel_rfl) ?_
      rw [setRow_self _ _ _ _ _ (blk_alloc (blk_new _ _) _)]
      refine wpList_store_rowTo rfl 96 _ _ rfl rfl (wr.alloc (.cells z5 149)).heap.size z25 (by kernel_rfl) (by kernel_rfl) 96 z25 (blk_new _ _) (by kernel_rfl) rfl (by kernel_rfl) ?_
      rw [setRow_self _ _ _ _ _ (blk_new _ _)]
      refine wpList_frame (a' := ⟨List.toArray (Value.pointer (some ⟨g, 0, none⟩) :: u1 :: Value.pointer (some ⟨gh, 0, none⟩) :: u3 :: u4 :: Value.int .u64 c :: Value.pointer (some ⟨wr.heap.size, 0, none⟩) :: Value.pointer (some ⟨(wr.alloc (Obj.cells z5 149)).heap.size, 0, none⟩) :: u8 :: u9 :: u10 :: u11 :: u12 :: u13 :: u14 :: u15 :: u16 :: u17 :: u18 :: u19 :: C :: Value.int .i64 (k : Int) :: Value.bool true :: Value.int .u64 c :: Value.agg z5 :: Value.agg z25 :: u26 :: u27 :: u28 :: u29 :: u30 :: u31 :: u32 :: u33 :: u34 :: u35 :: u36 :: u37 :: u38 :: u39 :: u40 :: u41 :: u42 :: u43 :: u44 :: u45 :: u46 :: u47 :: u48 :: u49 :: u50 :: u51 :: u52 :: u53 :: u54 :: u55 :: u56 :: u57 :: u58 :: u59 :: u60 :: u61 :: u62 :: u63 :: u64 :: u65 :: u66 :: u67 :: u68 :: u69 :: u70 :: u71 :: u72 :: u73 :: u74 :: u75 :: u76 :: u77 :: u78 :: u79 :: u80 :: u81 :: u82 :: u83 :: u84 :: u85 :: u86 :: u87 :: u88 :: u89 :: u90 :: u91 :: u92 :: u93 :: u94 :: u95 :: u96 :: u97 :: u98 :: u99 :: u100 :: u101 :: u102 :: u103 :: u104 :: u105 :: u106 :: u107 :: u108 :: u109 :: u110 :: u111 :: u112 :: u113 :: u114 :: u115 :: u116 :: u117 :: u118 :: u119 :: u120 :: u121 :: u122 :: u123 :: []), []⟩) (by kernel_rfl) ?_
      apply wpList_nil
      have A1 : Arr ((wr.alloc (.cells z5 149)).alloc (.cells z25 96)) wr.heap.size 149 .u64 (kSums (kPerm s k) 0) := blk_alloc (blk_new _ _) _
      have A2 : Arr ((wr.alloc (.cells z5 149)).alloc (.cells z25 96)) (wr.alloc (.cells z5 149)).heap.size 96 .u64 (kMoved (kPerm s k) (kSums (kPerm s k) 25) 0) := blk_new _ _
      have AG : Arr ((wr.alloc (.cells z5 149)).alloc (.cells z25 96)) g 96 .u64 (kPerm s k) := (HK.out.alloc _).alloc _
      have AH : Arr ((wr.alloc (.cells z5 149)).alloc (.cells z25 96)) gh 152 .i64 kShifts := (HG.alloc _).alloc _
      have MV := (HO.out.alloc (.cells z5 149)).alloc (.cells z25 96)
      have g1 : g < wr.heap.size := HK.out.lt
      have g2 : gh < wr.heap.size := HG.lt
      have g3 : (wr.alloc (.cells z5 149)).heap.size = wr.heap.size + 1 := by show (wr.heap.push _).size = _; simp
      have g4 : wr'.heap.size ≤ wr.heap.size := HO.out.1
      generalize (wr.alloc (.cells z5 149)).alloc (.cells z25 96) = W1 at A1 A2 AG AH MV ⊢
      generalize (wr.alloc (.cells z5 149)).heap.size = gm at A2 g3 ⊢
      generalize wr.heap.size = gs at A1 g1 g2 g3 g4 ⊢
      have hl : (kPerm s k).length = 25 := by rw [kPerm_length]; exact hs
      clear HK HG HO
      have A1 := Aside0.mk A1
      have A2 := Aside0.mk A2
      have AG := Aside0.mk AG
      have AH := Aside0.mk AH
      have MV := Aside0.mk MV
      have n1 : gs ≠ g := by omega
      have n2 : gm ≠ g := by omega
      have n3 : gm ≠ gh := by omega
      have n4 : gm ≠ gs := by omega
      have n5 : gs ≠ gh := by omega
      have o1 : wr'.heap.size ≤ gs := g4
      have o2 : wr'.heap.size ≤ gm := by omega
      clear g1 g2 g3 g4
      go_wp2
      refine permI.sums g gs (kPerm s k) W1 hl n1 AG.out A1.out ?_
      intro a2 W2 S1 m1 hz
      obtain ⟨y8, y9, y27, y28, y29, y30, y31, y32, y33, y34, y35, y36, y37, y38, y39, y40, rfl⟩ := hz
      have AG := Aside0.mk (AG.out.moved m1 (fun e => n1 e.symm))
      have AH := Aside0.mk (AH.out.moved m1 (fun e => n5 e.symm))
      have A2 := Aside0.mk (A2.out.moved m1 (fun e => n4 e))
      have MV := Aside0.mk (MV.out.trans_new m1 (fun i e => .inr (e ▸ o1)))
      have S1 := Aside0.mk S1
      clear m1 A1
      go_wp2
      refine permI.moved g gh gs gm (kPerm s k) (kSums (kPerm s k) 25) W2 hl (kSums_length _ _) n2 n3 n4 AG.out AH.out S1.out A2.out ?_
      intro a3 W3 S2 m2 hz
      obtain ⟨x10, x11, x12, x13, x42, x43, x44, x45, x46, x47, x48, x49, x50, x51, x52, x53, x54, x55, x56, x57, x58, x59, x60, x61, x62, x63, x64, x65, x66, x67, x68, x69, x70, x71, x72, x73, x74, x75, x76, x77, x78, x79, x80, x81, rfl⟩ := hz
      have AG := Aside0.mk (AG.out.moved m2 (fun e => n2 e.symm))
      have MV := Aside0.mk (MV.out.trans_new m2 (fun i e => .inr (e ▸ o2)))
      have S2 := Aside0.mk S2
      clear m2 A2 AH S1
      go_upto_region 18 with fail
      apply wp_region_lit
      refine wpList_load_row rfl 96 _ rfl gm rfl 96 _ (0, 0) _ S2.out Try.underlying96 rfl (by kernel_rfl) ?_
      have hml : (kMoved (kPerm s k) (kSums (kPerm s k) 25) 25).length = 25 := kMoved_length _ _ _
      have hV := fun (j : Nat) (w : World) (hj : j < 25) => idx_arr Try.underlying96 size92 agg92 .u64 (kMoved (kPerm s k) (kSums (kPerm s k) 25) 25) hml j w hj
      generalize Value.agg (nums .u64 (kMoved (kPerm s k) (kSums (kPerm s k) 25) 25)).toArray = V at hV ⊢
      refine wpList_frame (a' := ⟨List.toArray (Value.pointer (some ⟨g, 0, none⟩) :: u1 :: Value.pointer (some ⟨gh, 0, none⟩) :: u3 :: u4 :: Value.int .u64 c :: Value.pointer (some ⟨gs, 0, none⟩) :: Value.pointer (some ⟨gm, 0, none⟩) :: y8 :: y9 :: x10 :: x11 :: x12 :: x13 :: u14 :: u15 :: u16 :: u17 :: u18 :: u19 :: C :: Value.int .i64 (k : Int) :: Value.bool true :: Value.int .u64 c :: Value.agg z5 :: Value.agg z25 :: Value.pointer (some ⟨g, 0, none⟩) :: y27 :: y28 :: y29 :: y30 :: y31 :: y32 :: y33 :: y34 :: y35 :: y36 :: y37 :: y38 :: y39 :: y40 :: Value.pointer (some ⟨g, 0, none⟩) :: x42 :: x43 :: x44 :: x45 :: x46 :: x47 :: x48 :: x49 :: x50 :: x51 :: x52 :: x53 :: x54 :: x55 :: x56 :: x57 :: x58 :: x59 :: x60 :: x61 :: x62 :: x63 :: x64 :: x65 :: x66 :: x67 :: x68 :: x69 :: x70 :: x71 :: x72 :: x73 :: x74 :: x75 :: x76 :: x77 :: x78 :: x79 :: x80 :: x81 :: V :: u83 :: u84 :: u85 :: u86 :: u87 :: u88 :: u89 :: u90 :: u91 :: u92 :: u93 :: u94 :: u95 :: u96 :: u97 :: u98 :: u99 :: u100 :: u101 :: u102 :: u103 :: u104 :: u105 :: u106 :: u107 :: u108 :: u109 :: u110 :: u111 :: u112 :: u113 :: u114 :: u115 :: u116 :: u117 :: u118 :: u119 :: u120 :: u121 :: u122 :: u123 :: []), []⟩) (by kernel_rfl) ?_
      go_wp2
      refine permI.chi g gm (kPerm s k) _ V W3 hl hml n2 hV AG.out S2.out ?_
      intro a4 W4 S3 m3 hz
      obtain ⟨v14, v15, v16, v17, v83, v84, v85, v86, v87, v88, v89, v90, v91, v92, v93, v94, v95, v96, v97, v98, v99, v100, v101, v102, v103, v104, v105, v106, v107, v108, v109, v110, v111, v112, v113, v114, rfl⟩ := hz
      have MV := Aside0.mk (MV.out.trans_new m3 (fun i e => .inl e))
      have hl4 : (kMix (kPerm s k)).length = 25 := by unfold kMix; rw [kChi_length]; exact hl
      have S3' : Arr W4 g 96 .u64 (kMix (kPerm s k)) := S3
      have q0 := S3'.cell 0 (by omega)
      have f0 := S3'.frozen 0
      obtain ⟨v0, hv0⟩ : ∃ v, v = (kMix (kPerm s k)).getD 0 0 := ⟨_, rfl⟩
      rw [← hv0] at q0
      have HV0 := Aside0.mk hv0
      clear hv0 hl4
      have S3 := Aside0.mk S3'
      clear m3 AG S3' S2 hV
      go_wp2
      refine wp_region_still_tail 8 (by kernel_rfl) (by kernel_rfl) ?_
      show wpStill _ _ (World.drew _) (fun a' => wpList _ _ _ _ a' (World.drew _)) _ _
      simp only [List.take_succ_cons, List.take_zero, List.drop_succ_cons, List.drop_zero]
      repeat still_step
      refine wpStill_nil ?_
      go_wp2
      go_roundg (24 - (k + 1))
      case measure => omega
      case rel => exact ⟨k + 1, by omega, by omega, by go_num, ⟨by rw [HV0.out, HCC.out]; exact (S3.out.set 0 _).drew⟩, ⟨(MV.out.set g _ _ (.inl rfl)).drew⟩⟩
    · have hk25 : k = 24 := by omega
      subst hk25
      go_wp2
      exact HX.out _ _ HK.out HO.out ⟨_, _, _, _, _, _, _, _, _, _, _, _, _, _, _, _, _, _, _, _, _, _, _, _, _, _, _, _, _, _, _, _, _, _, _, _, _, _, _, _, _, _, _, _, _, _, _, _, _, _, _, _, _, _, _, _, _, _, _, _, _, _, _, _, _, _, _, _, _, _, _, _, _, _, _, _, _, _, _, _, _, _, _, _, _, _, _, _, _, _, _, _, _, _, _, _, _, _, _, _, _, _, _, _, _, _, _, _, _, _, _, _, _, _, _, _, rfl⟩
end Go.Proofs.Ytlogocmojnhpbaa.Print
/- The contract of the program's permutation: what it leaves in the state, as a plain function of lists. -/
namespace Go.Proofs.Ytlogocmojnhpbaa.Print
open Go.RowKit Go.Proofs.YtlogocmojnhpbaaW.PrintWords
set_option linter.unusedVariables false
set_option linter.unusedSimpArgs false
def zShifts : Array Value := (nums .i64 kShifts).toArray
def zConsts : Array Value := (nums .u64 kConsts).toArray
def n25 : Array Value := (nums .i64 (List.replicate 25 0)).toArray
def n24 : Array Value := (nums .u64 (List.replicate 24 0)).toArray
theorem size3 (w : World) : (sizeOf 3).run Try.prog w = .ok 1 w := by
  simp [sizeOf, go_sem]
  rfl
theorem setRow_new (w : World) (c c' : Array Value) (t : TypeId) : (w.alloc (.cells c t)).setRow w.heap.size c' = w.alloc (.cells c' t) := World.setRow_alloc_new w c c' t
set_option maxHeartbeats 8000000 in
set_option maxRecDepth 100000 in
theorem permI.calls (g : Nat) (s : List Int) (w : World) (hs : s.length = 25) (hb : Arr w g 96 .u64 s) :
    Calls Try.prog 85 #[.pointer (some ⟨g, 0, none⟩)] w fun e w' => e = .returned (.tuple #[]) ∧ Arr w' g 96 .u64 (kPerm s 24) ∧ Moved w w' (fun i => i = g) := by
  have HB := Aside0.mk hb
  have hlt := hb.lt
  clear hb
  go_enter Try.func85, Try.ntmps85
  go_upto_region 0 with fail
  apply wp_region_lit
  refine wpList_buildTo rfl 152 _ rfl (some 18) rfl zShifts (by kernel_rfl) ?_
  refine Go.Great.wpList_allocTo rfl (some 2) rfl (.pointer (some ⟨w.heap.size, 0, none⟩)) (.cells n25 152) (by kernel_rfl) ?_
  refine wpList_store_rowTo rfl 152 _ _ rfl rfl w.heap.size zShifts (by kernel_rfl) (by kernel_rfl) 152 n25 (blk_new _ _) (by kernel_rfl) rfl (by kernel_rfl) ?_
  rw [setRow_new]
  refine wpList_frame (a' := ⟨List.toArray (Value.pointer (some ⟨g, 0, none⟩) :: undef :: Value.pointer (some ⟨w.heap.size, 0, none⟩) :: undef :: undef :: undef :: undef :: undef :: undef :: undef :: undef :: undef :: undef :: undef :: undef :: undef :: undef :: undef :: Value.agg zShifts :: undef :: undef :: undef :: undef :: undef :: undef :: undef :: undef :: undef :: undef :: undef :: undef :: undef :: undef :: undef :: undef :: undef :: undef :: undef :: undef :: undef :: undef :: undef :: undef :: undef :: undef :: undef :: undef :: undef :: undef :: undef :: undef :: undef :: undef :: undef :: undef :: undef :: undef :: undef :: undef :: undef :: undef :: undef :: undef :: undef :: undef :: undef :: undef :: undef :: undef :: undef :: undef :: undef :: undef :: undef :: undef :: undef :: undef :: undef :: undef :: undef :: undef :: undef :: undef :: undef :: undef :: undef :: undef :: undef :: undef :: undef :: undef :: undef :: undef :: undef :: undef :: undef :: undef :: undef :: undef :: undef :: undef :: undef :: undef :: undef :: undef :: undef :: undef :: undef :: undef :: undef :: undef :: undef :: undef :: undef :: undef :: undef :: undef :: undef :: undef :: undef :: undef :: undef :: undef :: undef :: []), []⟩) (by kernel_rfl) ?_
  apply wpList_nil
  go_upto_region 1 with fail
  apply wp_region_lit
  refine wpList_buildTo rfl 145 _ rfl (some 19) rfl zConsts (by kernel_rfl) ?_
  refine Go.Great.wpList_allocTo rfl (some 3) rfl (.pointer (some ⟨(w.alloc (.cells zShifts 152)).heap.size, 0, none⟩)) (.cells n24 145) (by kernel_rfl) ?_
  refine wpList_store_rowTo rfl 145 _ _ rfl rfl (w.alloc (.cells zShifts 152)).heap.size zConsts (by kernel_rfl) (by kernel_rfl) 145 n24 (blk_new _ _) (by kernel_rfl) rfl (by kernel_rfl) ?_
  rw [setRow_new]
  refine wpList_frame (a' := ⟨List.toArray (Value.pointer (some ⟨g, 0, none⟩) :: undef :: Value.pointer (some ⟨w.heap.size, 0, none⟩) :: Value.pointer (some ⟨(w.alloc (.cells zShifts 152)).heap.size, 0, none⟩) :: undef :: undef :: undef :: undef :: undef :: undef :: undef :: undef :: undef :: undef :: undef :: undef :: undef :: undef :: Value.agg zShifts :: Value.agg zConsts :: undef :: undef :: undef :: undef :: undef :: undef :: undef :: undef :: undef :: undef :: undef :: undef :: undef :: undef :: undef :: undef :: undef :: undef :: undef :: undef :: undef :: undef :: undef :: undef :: undef :: undef :: undef :: undef :: undef :: undef :: undef :: undef :: undef :: undef :: undef :: undef :: undef :: undef :: undef :: undef :: undef :: undef :: undef :: undef :: undef :: undef :: undef :: undef :: undef :: undef :: undef :: undef :: undef :: undef :: undef :: undef :: undef :: undef :: undef :: undef :: undef :: undef :: undef :: undef :: undef :: undef :: undef :: undef :: undef :: undef :: undef :: undef :: undef :: undef :: undef :: undef :: undef :: undef :: undef :: undef :: undef :: undef :: undef :: undef :: undef :: undef :: undef :: undef :: undef :: undef :: undef :: undef :: undef :: undef :: undef :: undef :: undef :: undef :: undef :: undef :: undef :: undef :: undef :: undef :: []), []⟩) (by kernel_rfl) ?_
  apply wpList_nil
  have A1 : Arr ((w.alloc (.cells zShifts 152)).alloc (.cells zConsts 145)) w.heap.size 152 .i64 kShifts := blk_alloc (blk_new _ _) _
  have A2 : Arr ((w.alloc (.cells zShifts 152)).alloc (.cells zConsts 145)) (w.alloc (.cells zShifts 152)).heap.size 145 .u64 kConsts := blk_new _ _
  have AG : Arr ((w.alloc (.cells zShifts 152)).alloc (.cells zConsts 145)) g 96 .u64 s := (HB.out.alloc _).alloc _
  have MV : Moved w ((w.alloc (.cells zShifts 152)).alloc (.cells zConsts 145)) (fun i => i = g) := ((Moved.refl _ _).alloc _).alloc _
  generalize (w.alloc (.cells zShifts 152)).alloc (.cells zConsts 145) = W1 at A1 A2 AG MV ⊢
  generalize (w.alloc (.cells zShifts 152)).heap.size = gc at A2 ⊢
  have hne : w.heap.size ≠ g := by omega
  generalize w.heap.size = gh at A1 hne ⊢
  clear hlt HB
  go_upto_region 2 with fail
  apply wp_region_lit
  refine wpList_load_row rfl 145 _ rfl gc rfl 145 _ (0, 0) _ A2 Try.underlying145 rfl (by kernel_rfl) ?_
  have hC := fun (j : Nat) (w : World) (hj : j < 24) => idx_arr Try.underlying145 size92 agg92 .u64 kConsts rfl j w hj
  generalize Value.agg (nums .u64 kConsts).toArray = C at hC ⊢
  refine wpList_frame (a' := ⟨List.toArray (Value.pointer (some ⟨g, 0, none⟩) :: undef :: Value.pointer (some ⟨gh, 0, none⟩) :: Value.pointer (some ⟨gc, 0, none⟩) :: undef :: undef :: undef :: undef :: undef :: undef :: undef :: undef :: undef :: undef :: undef :: undef :: undef :: undef :: Value.agg zShifts :: Value.agg zConsts :: C :: undef :: undef :: undef :: undef :: undef :: undef :: undef :: undef :: undef :: undef :: undef :: undef :: undef :: undef :: undef :: undef :: undef :: undef :: undef :: undef :: undef :: undef :: undef :: undef :: undef :: undef :: undef :: undef :: undef :: undef :: undef :: undef :: undef :: undef :: undef :: undef :: undef :: undef :: undef :: undef :: undef :: undef :: undef :: undef :: undef :: undef :: undef :: undef :: undef :: undef :: undef :: undef :: undef :: undef :: undef :: undef :: undef :: undef :: undef :: undef :: undef :: undef :: undef :: undef :: undef :: undef :: undef :: undef :: undef :: undef :: undef :: undef :: undef :: undef :: undef :: undef :: undef :: undef :: undef :: undef :: undef :: undef :: undef :: undef :: undef :: undef :: undef :: undef :: undef :: undef :: undef :: undef :: undef :: undef :: undef :: undef :: undef :: undef :: undef :: undef :: undef :: undef :: undef :: []), []⟩) (by kernel_rfl) ?_
  have MV := Aside0.mk MV
  have hC := Aside0.mk hC
  have AG := Aside0.mk AG
  have A1 := Aside0.mk A1
  clear A2
  go_wp2
  refine permI.rounds g gh s C W1 hs hne hC.out AG.out A1.out ?_
  intro a2 W2 S1 m1 hz
  obtain ⟨v5, hz⟩ := hz
  obtain ⟨v6, hz⟩ := hz
  obtain ⟨v7, hz⟩ := hz
  obtain ⟨v8, hz⟩ := hz
  obtain ⟨v9, hz⟩ := hz
  obtain ⟨v10, hz⟩ := hz
  obtain ⟨v11, hz⟩ := hz
  obtain ⟨v12, hz⟩ := hz
  obtain ⟨v13, hz⟩ := hz
  obtain ⟨v14, hz⟩ := hz
  obtain ⟨v15, hz⟩ := hz
  obtain ⟨v16, hz⟩ := hz
  obtain ⟨v17, hz⟩ := hz
  obtain ⟨v21, hz⟩ := hz
  obtain ⟨v22, hz⟩ := hz
  obtain ⟨v23, hz⟩ := hz
  obtain ⟨v24, hz⟩ := hz
  obtain ⟨v25, hz⟩ := hz
  obtain ⟨v26, hz⟩ := hz
  obtain ⟨v27, hz⟩ := hz
  obtain ⟨v28, hz⟩ := hz
  obtain ⟨v29, hz⟩ := hz
  obtain ⟨v30, hz⟩ := hz
  obtain ⟨v31, hz⟩ := hz
  obtain ⟨v32, hz⟩ := hz
  obtain ⟨v33, hz⟩ := hz
  obtain ⟨v34, hz⟩ := hz
  obtain ⟨v35, hz⟩ := hz
  obtain ⟨v36, hz⟩ := hz
  obtain ⟨v37, hz⟩ := hz
  obtain ⟨v38, hz⟩ := hz
  obtain ⟨v39, hz⟩ := hz
  obtain ⟨v40, hz⟩ := hz
  obtain ⟨v41, hz⟩ := hz
  obtain ⟨v42, hz⟩ := hz
  obtain ⟨v43, hz⟩ := hz
  obtain ⟨v44, hz⟩ := hz
  obtain ⟨v45, hz⟩ := hz
  obtain ⟨v46, hz⟩ := hz
  obtain ⟨v47, hz⟩ := hz
  obtain ⟨v48, hz⟩ := hz
  obtain ⟨v49, hz⟩ := hz
  obtain ⟨v50, hz⟩ := hz
  obtain ⟨v51, hz⟩ := hz
  obtain ⟨v52, hz⟩ := hz
  obtain ⟨v53, hz⟩ := hz
  obtain ⟨v54, hz⟩ := hz
  obtain ⟨v55, hz⟩ := hz
  obtain ⟨v56, hz⟩ := hz
  obtain ⟨v57, hz⟩ := hz
  obtain ⟨v58, hz⟩ := hz
  obtain ⟨v59, hz⟩ := hz
  obtain ⟨v60, hz⟩ := hz
  obtain ⟨v61, hz⟩ := hz
  obtain ⟨v62, hz⟩ := hz
  obtain ⟨v63, hz⟩ := hz
  obtain ⟨v64, hz⟩ := hz
  obtain ⟨v65, hz⟩ := hz
  obtain ⟨v66, hz⟩ := hz
  obtain ⟨v67, hz⟩ := hz
  obtain ⟨v68, hz⟩ := hz
  obtain ⟨v69, hz⟩ := hz
  obtain ⟨v70, hz⟩ := hz
  obtain ⟨v71, hz⟩ := hz
  obtain ⟨v72, hz⟩ := hz
  obtain ⟨v73, hz⟩ := hz
  obtain ⟨v74, hz⟩ := hz
  obtain ⟨v75, hz⟩ := hz
  obtain ⟨v76, hz⟩ := hz
  obtain ⟨v77, hz⟩ := hz
  obtain ⟨v78, hz⟩ := hz
  obtain ⟨v79, hz⟩ := hz
  obtain ⟨v80, hz⟩ := hz
  obtain ⟨v81, hz⟩ := hz
  obtain ⟨v82, hz⟩ := hz
  obtain ⟨v83, hz⟩ := hz
  obtain ⟨v84, hz⟩ := hz
  obtain ⟨v85, hz⟩ := hz
  obtain ⟨v86, hz⟩ := hz
  obtain ⟨v87, hz⟩ := hz
  obtain ⟨v88, hz⟩ := hz
  obtain ⟨v89, hz⟩ := hz
  obtain ⟨v90, hz⟩ := hz
  obtain ⟨v91, hz⟩ := hz
  obtain ⟨v92, hz⟩ := hz
  obtain ⟨v93, hz⟩ := hz
  obtain ⟨v94, hz⟩ := hz
  obtain ⟨v95, hz⟩ := hz
  obtain ⟨v96, hz⟩ := hz
  obtain ⟨v97, hz⟩ := hz
  obtain ⟨v98, hz⟩ := hz
  obtain ⟨v99, hz⟩ := hz
  obtain ⟨v100, hz⟩ := hz
  obtain ⟨v101, hz⟩ := hz
  obtain ⟨v102, hz⟩ := hz
  obtain ⟨v103, hz⟩ := hz
  obtain ⟨v104, hz⟩ := hz
  obtain ⟨v105, hz⟩ := hz
  obtain ⟨v106, hz⟩ := hz
  obtain ⟨v107, hz⟩ := hz
  obtain ⟨v108, hz⟩ := hz
  obtain ⟨v109, hz⟩ := hz
  obtain ⟨v110, hz⟩ := hz
  obtain ⟨v111, hz⟩ := hz
  obtain ⟨v112, hz⟩ := hz
  obtain ⟨v113, hz⟩ := hz
  obtain ⟨v114, hz⟩ := hz
  obtain ⟨v115, hz⟩ := hz
  obtain ⟨v116, hz⟩ := hz
  obtain ⟨v117, hz⟩ := hz
  obtain ⟨v118, hz⟩ := hz
  obtain ⟨v119, hz⟩ := hz
  obtain ⟨v120, hz⟩ := hz
  obtain ⟨v121, hz⟩ := hz
  obtain ⟨v122, hz⟩ := hz
  obtain ⟨v123, hz⟩ := hz
  subst hz
  have S1 := Aside0.mk S1
  have MV := Aside0.mk (MV.out.trans m1)
  clear m1
  go_wp2
  first | go_end0 | refine bodyPost_ret (results_none rfl _ _ _) rfl ?_
  exact ⟨rfl, S1.out, MV.out⟩
end Go.Proofs.Ytlogocmojnhpbaa.Print
/- The contract of lanesOf: the state that a text's bytes are. -/
namespace Go.Proofs.Ytlogocmojnhpbaa.Print
open Go.RowKit Go.Proofs.YtlogocmojnhpbaaW.PrintWords
set_option linter.unusedVariables false
set_option linter.unusedSimpArgs false
/-- The lanes of a text's first i bytes. -/
def kLanes (xs : List Int) : Nat → List Int
  | 0 => List.replicate 25 0
  | i + 1 => (kLanes xs i).set (i / 8) (Go.bits .or .u64 ((kLanes xs i).getD (i / 8) 0) (IntKind.u64.wrap (IntKind.u64.wrap (xs.getD i 0) * 2 ^ (8 * (i % 8)))))
theorem kLanes_length (xs : List Int) (i : Nat) : (kLanes xs i).length = 25 := by
  induction i with
  | zero => rfl
  | succ i ih => simp [kLanes, ih]
theorem addBlk (a : Addr) (n : Nat) : (a.add n).block = a.block := by unfold Addr.add; split <;> rfl
theorem Moved.keep {w w' : World} {g : Nat} (h : Moved w w' (fun i => i = g)) : KeepBut w w' g none := ⟨h.1, fun i hi hg _ => h.2.1 i hi hg⟩
set_option maxHeartbeats 8000000 in
set_option maxRecDepth 100000 in
theorem lanesI.loop (g c0 : Nat) (A0 : Option Addr) (l0 : List Int) (wr : World) {u0 u1 u2 u4 u5 u6 u10 u11 u12 u13 u14 u15 u16 u17 u18 u19 u20 u21 u22 u23 u24 u25 u26 u27 : Value} {Q : Exit → Act → World → Prop} (hr0 : Kd.C (Kd.int .u8) wr A0 l0.length l0) (hn : l0.length ≤ 200) (hne : 0 < l0.length → ∀ ad, A0 = some ad → ad.block ≠ g) (hb : Arr wr g 96 .u64 (kLanes l0 0))
    (hexit : ∀ (a' : Act) (w' : World), Arr w' g 96 .u64 (kLanes l0 l0.length) → Moved wr w' (fun i => i = g) → (∃ z4 z5 z9 z10 z11 z12 z13 z14 z15 z16 z17 z18 z19 z20 z21 z22 z23 z24 z25 z26 : Value, a' = ⟨List.toArray (u0 :: u1 :: u2 :: Value.pointer (some ⟨g, 0, none⟩) :: z4 :: z5 :: u6 :: Value.slice A0 l0.length c0 :: Value.int .i64 (l0.length : Int) :: z9 :: z10 :: z11 :: z12 :: z13 :: z14 :: z15 :: z16 :: z17 :: z18 :: z19 :: z20 :: z21 :: z22 :: z23 :: z24 :: z25 :: z26 :: u27 :: []), []⟩) → Q (.exit 0) a' w') :
    Code.wp Try.prog (nthLoop Try.f84.body 0) Q ⟨List.toArray (u0 :: u1 :: u2 :: Value.pointer (some ⟨g, 0, none⟩) :: u4 :: u5 :: u6 :: Value.slice A0 l0.length c0 :: Value.int .i64 (l0.length : Int) :: Value.int .i64 0 :: u10 :: u11 :: u12 :: u13 :: u14 :: u15 :: u16 :: u17 :: u18 :: u19 :: u20 :: u21 :: u22 :: u23 :: u24 :: u25 :: u26 :: u27 :: []), []⟩ wr := by
  conv => arg 2; whnf
  have HR := Aside0.mk hr0
  have HB := Aside0.mk hb
  have HX := Aside0.mk hexit
  clear hb hexit hr0
  go_loopg [9] l0.length (fun gg s9 w' => ∃ k : Nat, k ≤ l0.length ∧ l0.length - k ≤ gg ∧ s9 = .int .i64 k ∧ Aside0 (Arr w' g 96 .u64 (kLanes l0 k)) ∧ Aside0 (Moved wr w' (fun i => i = g)))
  case atStart => exact ⟨0, by omega, by omega, rfl, HB, ⟨Moved.refl _ _⟩⟩
  case round =>
    obtain ⟨k, hk, hg, rfl, HK, HO⟩ := hrel
    by_cases hlt : k < l0.length
    · have hltz : (k : Int) < (l0.length : Int) := by omega
      have h0z : (0 : Int) ≤ (k : Int) := by omega
      obtain ⟨ad, e0, hx0⟩ := Kd.at_int HR.out (k : Int) h0z hltz
      have hx1 := keep_cell HO.out.keep hx0 (by rw [addBlk]; exact hne (by omega) ad e0)
      subst e0
      simp only [Int.toNat_natCast] at hx1
      have q0 := HK.out.cell (k / 8) (by rw [kLanes_length]; omega)
      have f0 := HK.out.frozen (k / 8)
      obtain ⟨c, hc⟩ : ∃ c, c = rd l0 (k : Int) := ⟨_, rfl⟩
      rw [← hc] at hx1
      have HC : Aside0 (c = l0.getD k 0) := ⟨by rw [hc]; simp [rd]⟩
      clear hx0 hc
      go_wp2
      have a1 : ((k : Int)).tdiv 8 = (k : Int) / 8 := Int.tdiv_eq_ediv_of_nonneg (by omega)
      have a2 : IntKind.i64.wrap ((k : Int) / 8) = (k : Int) / 8 := by rw [IntKind.wrap_i64]; omega
      have a3 : (0 : Int) ≤ (k : Int) / 8 := by omega
      have a4 : (k : Int) / 8 < 25 := by omega
      have a5 : ((k : Int) / 8).toNat = k / 8 := by omega
      have b1 : ((k : Int)).tmod 8 = (k : Int) % 8 := Int.tmod_eq_emod_of_nonneg (by omega)
      have b2 : IntKind.i64.wrap ((k : Int) % 8) = (k : Int) % 8 := by rw [IntKind.wrap_i64]; omega
      have b3 : IntKind.i64.wrap (8 * ((k : Int) % 8)) = 8 * ((k : Int) % 8) := by rw [IntKind.wrap_i64]; omega
      have b4 : (0 : Int) ≤ 8 * ((k : Int) % 8) := by omega
      have b5 : (8 * ((k : Int) % 8)).toNat = 8 * (k % 8) := by omega
      have b6 : min (8 * (k % 8)) 64 = 8 * (k % 8) := by omega
      refine wp_region_still_tail 12 (by kernel_rfl) (by kernel_rfl) ?_
      show wpStill _ _ (World.drew _) (fun a' => wpList _ _ _ _ a' (World.drew _)) _ _
      simp only [List.take_succ_cons, List.take_zero, List.drop_succ_cons, List.drop_zero]
      repeat still_step
      refine wpStill_nil ?_
      clear a1 a2 a3 a4 a5 b1 b2 b3 b4 b5 b6
      go_wp2
      go_roundg (l0.length - (k + 1))
      case measure => omega
      case rel => exact ⟨k + 1, by omega, by omega, by go_num, ⟨by rw [HC.out]; exact (HK.out.drew).set (k / 8) _⟩, ⟨(HO.out.drew).set g _ _ (.inl rfl)⟩⟩
    · have hk25 : k = l0.length := by omega
      subst hk25
      have hd : decide ((l0.length : Int) < (l0.length : Int)) = false := decide_eq_false (by omega)
      go_wp2
      exact HX.out _ _ HK.out HO.out ⟨_, _, _, _, _, _, _, _, _, _, _, _, _, _, _, _, _, _, _, _, rfl⟩
set_option maxHeartbeats 8000000 in
set_option maxRecDepth 100000 in
theorem lanesI.calls (A0 : Option Addr) (c0 : Nat) (l0 : List Int) (w : World) (hr0 : Kd.C (Kd.int .u8) w A0 l0.length l0) (hn : l0.length ≤ 200) :
    Calls Try.prog 84 #[.slice A0 l0.length c0] w fun e w' => e = .returned (.agg (nums .u64 (kLanes l0 l0.length)).toArray) ∧ Below w.heap.size w w' := by
  go_enter Try.func84, Try.ntmps84
  go_upto_region 0 with fail
  apply wp_region_lit
  refine Go.Great.wpList_allocTo rfl (some 2) rfl (.pointer (some ⟨w.heap.size, 0, none⟩)) (.cells z25 96) (by kernel_rfl) ?_
  refine wpList_frame (a' := ⟨List.toArray (Value.slice A0 l0.length c0 :: undef :: Value.pointer (some ⟨w.heap.size, 0, none⟩) :: undef :: undef :: undef :: undef :: undef :: undef :: undef :: undef :: undef :: undef :: undef :: undef :: undef :: undef :: undef :: undef :: undef :: undef :: undef :: undef :: undef :: undef :: undef :: undef :: undef :: []), []⟩) (by kernel_rfl) ?_
  apply wpList_nil
  go_upto_region 1 with fail
  apply wp_region_lit
  refine wpList_buildTo rfl 96 _ rfl (some 6) rfl z25 (by kernel_rfl) ?_
  refine Go.Great.wpList_allocTo rfl (some 3) rfl (.pointer (some ⟨(w.alloc (.cells z25 96)).heap.size, 0, none⟩)) (.cells z25 96) (by kernel_rfl) ?_
  refine wpList_store_rowTo rfl 96 _ _ rfl rfl (w.alloc (.cells z25 96)).heap.size z25 (by kernel_rfl) (by kernel_rfl) 96 z25 (blk_new _ _) (by kernel_rfl) rfl (by kernel_rfl) ?_
  rw [setRow_self _ _ _ _ _ (blk_new _ _)]
  refine wpList_frame (a' := ⟨List.toArray (Value.slice A0 l0.length c0 :: undef :: Value.pointer (some ⟨w.heap.size, 0, none⟩) :: Value.pointer (some ⟨(w.alloc (Obj.cells z25 96)).heap.size, 0, none⟩) :: undef :: undef :: Value.agg z25 :: undef :: undef :: undef :: undef :: undef :: undef :: undef :: undef :: undef :: undef :: undef :: undef :: undef :: undef :: undef :: undef :: undef :: undef :: undef :: undef :: undef :: []), []⟩) (by kernel_rfl) ?_
  apply wpList_nil
  have AO : Arr ((w.alloc (.cells z25 96)).alloc (.cells z25 96)) w.heap.size 96 .u64 (List.replicate 25 0) := blk_alloc (blk_new _ _) _
  have AG : Arr ((w.alloc (.cells z25 96)).alloc (.cells z25 96)) (w.alloc (.cells z25 96)).heap.size 96 .u64 (kLanes l0 0) := blk_new _ _
  have BW : Below w.heap.size w ((w.alloc (.cells z25 96)).alloc (.cells z25 96)) := below_alloc (below_alloc (Below.refl _ w) _) _
  have g1 : w.heap.size < (w.alloc (.cells z25 96)).heap.size := blk_lt (blk_new w (.cells z25 96))
  have HR := Kd.C_below hr0 BW
  have hne : ∀ ad, A0 = some ad → 0 < l0.length → ad.block < w.heap.size := by
    intro ad e h0
    obtain ⟨ad', e', hx⟩ := Kd.at_int hr0 0 (by omega) (by omega)
    have := World.block_lt_of_cell? w _ hx
    rw [e] at e'
    cases e'
    rw [addBlk] at this
    exact this
  have hne' : ∀ g : Nat, w.heap.size ≤ g → (0 < l0.length → ∀ ad, A0 = some ad → ad.block ≠ g) := fun g hg h0 ad e => by have := hne ad e h0; omega
  have MV := ((Moved.refl w (fun i => w.heap.size ≤ i)).alloc (.cells z25 96)).alloc (.cells z25 96)
  have hne2 := hne' (w.alloc (.cells z25 96)).heap.size (by omega)
  clear hne hne' BW hr0
  generalize ((w.alloc (.cells z25 96)).alloc (.cells z25 96)) = W1 at AG AO MV HR ⊢
  generalize (w.alloc (.cells z25 96)).heap.size = g at AG g1 hne2 ⊢
  generalize hga : w.heap.size = go at AO MV g1 ⊢
  have HG := Aside0.mk hga
  have n1 : go ≠ g := by omega
  have g1' : go ≤ g := by omega
  have AO := Aside0.mk AO
  have AG := Aside0.mk AG
  have MV := Aside0.mk MV
  have HR := Aside0.mk HR
  have HN := Aside0.mk hne2
  clear hga g1 hne2
  go_wp2
  refine lanesI.loop g c0 A0 l0 W1 HR.out hn HN.out AG.out ?_
  intro a2 W2 S1 m1 hz
  obtain ⟨v4, hz⟩ := hz
  obtain ⟨v5, hz⟩ := hz
  obtain ⟨v9, hz⟩ := hz
  obtain ⟨v10, hz⟩ := hz
  obtain ⟨v11, hz⟩ := hz
  obtain ⟨v12, hz⟩ := hz
  obtain ⟨v13, hz⟩ := hz
  obtain ⟨v14, hz⟩ := hz
  obtain ⟨v15, hz⟩ := hz
  obtain ⟨v16, hz⟩ := hz
  obtain ⟨v17, hz⟩ := hz
  obtain ⟨v18, hz⟩ := hz
  obtain ⟨v19, hz⟩ := hz
  obtain ⟨v20, hz⟩ := hz
  obtain ⟨v21, hz⟩ := hz
  obtain ⟨v22, hz⟩ := hz
  obtain ⟨v23, hz⟩ := hz
  obtain ⟨v24, hz⟩ := hz
  obtain ⟨v25, hz⟩ := hz
  obtain ⟨v26, hz⟩ := hz
  subst hz
  have AO := AO.out.moved m1 (fun e => n1 e)
  have MV := MV.out.trans_new m1 (fun i e => .inl (e ▸ g1'))
  have hsz : (nums .u64 (kLanes l0 l0.length)).toArray.size = 25 := by simp [nums, kLanes_length]
  have hone : (nums .u64 (kLanes l0 l0.length)).toArray.all (·.oneCell') = true := by simp [nums, Value.oneCell']
  go_upto_region 7 with fail
  apply wp_region_lit
  refine wpList_load_row rfl 96 _ rfl g rfl 96 _ (0, 0) _ S1 Try.underlying96 rfl (by rw [hsz]; kernel_rfl) ?_
  refine wpList_store_rowTo rfl 96 _ _ rfl rfl go (nums .u64 (kLanes l0 l0.length)).toArray (by kernel_rfl) (by kernel_rfl) 96 _ AO (by rw [hsz]; kernel_rfl) (by rw [hsz]; rfl) hone ?_
  have AF := setRow_heap W2 go _ (nums .u64 (kLanes l0 l0.length)).toArray 96 (0, 0) AO
  have BF : Below w.heap.size w (W2.setRow go (nums .u64 (kLanes l0 l0.length)).toArray) := below_setRow (MV.below (fun i hi h => absurd h (by have := HG.out; omega))) (Nat.le_of_eq HG.out) _
  generalize W2.setRow go (nums .u64 (kLanes l0 l0.length)).toArray = W3 at AF BF ⊢
  refine wpList_frame (a' := ⟨List.toArray (Value.slice A0 l0.length c0 :: undef :: Value.pointer (some ⟨go, 0, none⟩) :: Value.pointer (some ⟨g, 0, none⟩) :: v4 :: v5 :: Value.agg z25 :: Value.slice A0 l0.length c0 :: Value.int .i64 (l0.length : Int) :: v9 :: v10 :: v11 :: v12 :: v13 :: v14 :: v15 :: v16 :: v17 :: v18 :: v19 :: v20 :: v21 :: v22 :: v23 :: v24 :: v25 :: v26 :: Value.agg (nums .u64 (kLanes l0 l0.length)).toArray :: []), []⟩) (by kernel_rfl) ?_
  apply wpList_nil
  go_wp2
  refine bodyPost_ret (results_cell_row rfl _ _ go 96 _ (0, 0) _ rfl AF Try.underlying96 rfl (by rw [hsz]; kernel_rfl)) rfl ?_
  exact ⟨rfl, BF⟩
end Go.Proofs.Ytlogocmojnhpbaa.Print
/- The contract of a state's text: its bytes, the lower ones of a lane first. -/
namespace Go.Proofs.Ytlogocmojnhpbaa.Print
open Go.RowKit Go.Proofs.YtlogocmojnhpbaaW.PrintWords Go.Proofs.YtlogocmojnhpbaaW.PrintLast
set_option linter.unusedVariables false
set_option linter.unusedSimpArgs false
/-- A state's first i bytes. -/
def kText (s : List Int) : Nat → List Int
  | 0 => []
  | i + 1 => kText s i ++ [s.getD (i / 8) 0 / 2 ^ (8 * (i % 8)) % 256]
theorem kText_length (s : List Int) (i : Nat) : (kText s i).length = i := by
  induction i with
  | zero => rfl
  | succ i ih => simp [kText, ih]
set_option maxHeartbeats 8000000 in
set_option maxRecDepth 100000 in
theorem textI.calls (g : Nat) (s : List Int) (w : World) (hs : s.length = 25) (hb : Arr w g 96 .u64 s) :
    Calls Try.prog 86 #[.pointer (some ⟨g, 0, none⟩)] w fun e w' => ∃ v0_ : Value, e = .returned (v0_) ∧ Kd.R (Kd.int .u8) 5 w' w.heap.size (fun _ => True) v0_ (kText s 200) ∧ Below w.heap.size w w' := by
  have HB := Aside0.mk (Below.refl w.heap.size w)
  have HA := Aside0.mk hb
  have hlt := hb.lt
  clear hb
  obtain ⟨y0, hy0⟩ : ∃ y_ : List Int, y_ = (([] : List Int)) := ⟨_, rfl⟩
  have Ny0 := Aside0.mk hy0
  clear hy0
  go_enter Try.func86, Try.ntmps86
  go_wp2_with (first | ((with_reducible refine gate_dst (N := 5) rfl ?_); refine Kd.R_lit (Kd.int .u8) _ 5 ?hg (N := 5) ?hd (xs := ([] : List Int)) (inner := []) (ok := fun _ => True) (okp := fun _ => True) ?hr ?hp (fun _ hk => hk) trivial (Below.refl _ _) (Nat.le_refl _) (by simp) ?_; (case hd => rfl); (case hg => rfl); (case hr => first | (go_simp; done) | (go_simp; rfl)); (case hp => exact (Reps.none _ _)); intro v0 w3 ho4 hb hg_ hnew_; clear hg_ hnew_; (first | rw [← Ny0.out] at ho4 | (simp only [Int.reduceToNat] at ho4; rw [← Ny0.out] at ho4)); have n0_ := Aside0.mk (Kd.R_lower ho4 (below_size (by repeat (first | (with_reducible first | exact HB.out | apply below_alloc | apply pw_below_drewN | apply below_drew1) | exact HB.out)))); have n1_ := Aside0.mk (below_step (by repeat (first | (with_reducible first | exact HB.out | apply below_alloc | apply pw_below_drewN | apply below_drew1) | exact HB.out)) hb); clear HB; have HO0 := n0_; have HB := n1_; clear n0_ n1_; clear hb ho4))
  go_loopg [3, 6] 200 (fun gg s3 s6 w' => ∃ (x3 : List Int) (k : Nat), k ≤ 200 ∧ 200 - k ≤ gg ∧ s6 = .int .i64 k ∧ Aside0 (x3 = kText s k) ∧ Aside0 (Kd.R (Kd.int .u8) 5 w' w.heap.size (fun _ => True) s3 x3) ∧ Aside0 (Below w.heap.size w w'))
  case atStart => exact ⟨y0, 0, by omega, by omega, rfl, ⟨Ny0.out⟩, HO0, HB⟩
  case round =>
    obtain ⟨x3, k, hk, hg, rfl, HX, HO3, HB⟩ := hrel
    by_cases hlt2 : k < 200
    · have hltz : (k : Int) < 200 := by omega
      have h0z : (0 : Int) ≤ (k : Int) := by omega
      have HG : Arr wr g 96 .u64 s := (HB.out.block g hlt).trans HA.out
      have q0 := HG.cell (k / 8) (by omega)
      obtain ⟨v0, hv0⟩ : ∃ v, v = s.getD (k / 8) 0 := ⟨_, rfl⟩
      rw [← hv0] at q0
      obtain ⟨b0, hb0⟩ : ∃ b, b = v0 / 2 ^ (8 * (k % 8)) % 256 := ⟨_, rfl⟩
      obtain ⟨y1, hy1⟩ : ∃ y_ : List Int, y_ = x3 ++ [b0] := ⟨_, rfl⟩
      have Ny1 := Aside0.mk hy1
      have HV := Aside0.mk hv0
      have HB0 := Aside0.mk hb0
      have LM : Aside0 (x3.length < 140737488355328) := ⟨by rw [HX.out, kText_length]; omega⟩
      have e1 : v0 / 2 ^ (8 * (k % 8)) % 256 = b0 := hb0.symm
      clear hy1 hv0 hb0 hlt2

      go_wp2_with (first | ((with_reducible refine gate_builtin (b := .append) (xs := #[.tmp 9, .tmp 21]) rfl ?_); at_builtin; refine Kd.R_append (Kd.int .u8) (w0 := w) w.heap.size rfl (.tmp 9) (.tmp 21) 25 5 (.int .u8 0) 1 rfl Try.underlying25 info5 rfl (by decide) (by omega) u3 x3 (b0) [.int .u8 (b0)] (fun _ => True) (fun _ => False) rfl rfl ?aP (fun _ hk => hk.elim) ?aF ?aO ?aB ?aS ?aL ?_; (case aP => exact rfl); (case aB => exact (by repeat (first | (with_reducible first | exact HB.out | apply below_alloc | apply pw_below_drewN | apply below_drew1) | exact HB.out))); (case aF => exact (fun _ _ => trivial)); (case aO => exact (by (with_reducible repeat (first | apply Kd.R_alloc | apply Kd.R_drewN | apply Kd.R_drew)); exact HO3.out)); (case aS => exact (below_size (by repeat (first | (with_reducible first | exact HB.out | apply below_alloc | apply pw_below_drewN | apply below_drew1) | exact HB.out)))); (case aL => have := LM.out; omega); intro v1 w10 ho hb hg hat; rw [← Ny1.out] at ho; have n0_ := Aside0.mk (hb); have n1_ := Aside0.mk (ho); clear HB; clear HO3; have HB := n0_; have HO4 := n1_; clear n0_ n1_; clear ho hb hg hat))

      go_roundg (200 - (k + 1))
      case measure => omega
      case rel => exact ⟨y1, k + 1, by omega, by omega, by go_num, ⟨by rw [Ny1.out, HX.out, HB0.out, HV.out]; rfl⟩, HO4, HB⟩
    · have hk25 : k = 200 := by omega
      subst hk25
      go_wp2
      go_ret
      exact ⟨_, rfl, by rw [← HX.out]; exact HO3.out, HB.out⟩
end Go.Proofs.Ytlogocmojnhpbaa.Print
