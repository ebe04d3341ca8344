-- Written by a program of this session (mkrow.py); not trusted, Lean checks it.
import Derived.Test.YtlogocmojnhpbaaP0
import Derived.WalkKit
import Derived.ProofKit
import Derived.OpenShut
import Derived.ShutString
import Derived.ChangeOld
import Derived.Below
import Derived.SizedLaws
import Derived.Lib.SmallJoins
import Derived.Deep.SlicePairs
import Derived.SliceStrings
namespace Go.Proofs.Ytlogocmojnhpbaa.RowX
open Go.ChangeShapes Go.WideShapes Go.ChangeAt Go.RowKit Go.Deep Go.Proofs.Ytlogocmojnhpbaa.Print Go.Proofs.YtlogocmojnhpbaaW.PrintWords
set_option linter.unusedVariables false
variable {H : Type} {enc : TypeId × Value → H} {w : World} {base : Nat} {spare : Nat → Bool} {held : Bool}
theorem exts_read {fuel : Nat} {A : Option Addr} {len cap : Nat} {x : DataW H × List MemPlace} (h : DataW.trod enc Try.prog w base spare held fuel 59 [.slice A len cap] = some x) :
    ∃ l : List S125, l.length = len ∧ Kd.C k125 w A l.length l ∧ l.length ≤ cap ∧ ∀ y ∈ l, (Lit.int .i64 y.f0).wf = true ∧ (Lit.int .i64 y.f1).wf = true := by
  rcases open_slice_pairs Try.underlying59 Try.underlying125 (by kernel_rfl) rfl rfl (by kernel_rfl) (by kernel_rfl) h with ⟨hcs, _⟩ | ⟨a, l, c, m, n, V0, V1, D0, D1, P0, P1, hcs, _, hl, hm, hmm, _, hx⟩
  · simp at hcs
    obtain ⟨rfl, rfl, rfl⟩ := hcs
    exact ⟨[], rfl, ⟨rfl, by simp, fun h => absurd h (by simp)⟩, Nat.le_refl _, by simp⟩
  · simp at hcs
    obtain ⟨rfl, rfl, rfl⟩ := hcs
    have hlm : len ≤ m := by rw [hmm]; split <;> omega
    have each : ∀ i, i < len → ∃ y : S125, w.cell? (a.add (i * 2)) = some (.int .i64 y.f0) ∧ w.cell? (a.add (i * 2 + 1)) = some (.int .i64 y.f1) ∧ (Lit.int .i64 y.f0).wf = true ∧ (Lit.int .i64 y.f1).wf = true := by
      intro i hi
      obtain ⟨c0, c1, h0, h1⟩ := hx i (by omega)
      obtain ⟨n0, e0, _, w0⟩ := DataW.trod_int Try.underlying3 h0
      obtain ⟨n1, e1, _, w1⟩ := DataW.trod_int Try.underlying3 h1
      simp only [List.cons.injEq, and_true] at e0 e1
      exact ⟨⟨n0, n1⟩, by rw [c0, e0], by rw [c1, e1], w0, w1⟩
    have : Inhabited S125 := ⟨z125⟩
    obtain ⟨F, hF⟩ := choose_lt each
    refine ⟨(List.range len).map F, by simp, ⟨rfl, by unfold maxLen at hm; simp; omega, fun _ => ⟨a, rfl, fun j p hp => ?_⟩⟩, by simpa using hl, ?_⟩
    · have hj : j < len := by
        have := (List.getElem?_eq_some_iff.1 hp).1
        simpa using this
      obtain ⟨g0, g1, _, _⟩ := hF j hj
      have hpe : p = F j := by
        rw [List.getElem?_map, List.getElem?_range hj] at hp
        exact (Option.some.inj hp).symm
      subst hpe
      refine ⟨[.int .i64 (F j).f0, .int .i64 (F j).f1], rfl, k125_mk w _, fun i u hu => ?_⟩
      match i, hu with
      | 0, hu => rw [← Option.some.inj hu]; exact g0
      | 1, hu => rw [← Option.some.inj hu]; exact g1
      | i + 2, hu => simp at hu
    · intro y hy
      obtain ⟨j, hj, rfl⟩ := List.mem_map.1 hy
      have := hF j (List.mem_range.1 hj)
      exact ⟨this.2.2.1, this.2.2.2⟩

theorem strs_read {fuel : Nat} {A : Option Addr} {len cap : Nat} {x : DataW H × List MemPlace} (h : DataW.trod enc Try.prog w base spare held fuel 41 [.slice A len cap] = some x) :
    ∃ l : List ByteArray, l.length = len ∧ Kd.string.C w A l.length l ∧ l.length ≤ cap ∧ ∀ s ∈ l, s.size ≤ maxLen := by
  rcases open_strings Try.underlying41 Try.underlying9 (by kernel_rfl) h with ⟨hcs, _⟩ | ⟨a, l, c, ss, hcs, _, hl, hm, hz, _, hcell, hws⟩
  · simp at hcs
    obtain ⟨rfl, rfl, rfl⟩ := hcs
    exact ⟨[], rfl, ⟨rfl, by simp, fun h => absurd h (by simp)⟩, Nat.le_refl _, by simp⟩
  · simp at hcs
    obtain ⟨rfl, rfl, rfl⟩ := hcs
    have hlz : len ≤ ss.length := by rw [hz]; split <;> omega
    have e1 : (ss.take len).length = len := by simp; omega
    refine ⟨ss.take len, e1, ⟨rfl, by unfold maxLen at hm; omega, fun _ => ⟨a, rfl, fun j p hp => ?_⟩⟩, by omega, fun s hs => hws s (List.mem_of_mem_take hs)⟩
    have hj : j < len := by
      have := (List.getElem?_eq_some_iff.1 hp).1
      omega
    have hj2 : j < ss.length := by omega
    have hpe : p = ss.getD j ByteArray.empty := by
      rw [List.getElem?_take, if_pos hj] at hp
      rw [List.getD_eq_getElem?_getD, hp]; rfl
    refine ⟨[.string p], rfl, rfl, fun i u hu => ?_⟩
    match i, hu with
    | 0, hu =>
      rw [← Option.some.inj hu, hpe]
      show w.cell? (a.add (j * 1 + 0)) = _
      rw [Nat.mul_one, Nat.add_zero]
      exact hcell j hj2
    | i + 1, hu => simp at hu

end Go.Proofs.Ytlogocmojnhpbaa.RowX
