-- Written by a program of this session (mkrow.py); not trusted, Lean checks it.
import Derived.Test.YtgagjilenbbajaaPrint0
import Derived.WalkKit
import Derived.ProofKit
import Derived.OpenShut
import Derived.ShutString
import Derived.ChangeOld
import Derived.Below
import Derived.SizedLaws
import Derived.Lib.SmallJoins
import Derived.Deep.SlicePairs
import Derived.SliceStrings
namespace Go.Proofs.Ytgagjilenbbajaa.RowX
open Go.ChangeShapes Go.WideShapes Go.ChangeAt Go.RowKit Go.Deep Go.Proofs.Ytgagjilenbbajaa.Print Go.Proofs.YtgagjilenbbajaaW.PrintWords
set_option linter.unusedVariables false
variable {H : Type} {enc : TypeId × Value → H} {w : World} {base : Nat} {spare : Nat → Bool} {held : Bool}
theorem strs_read {fuel : Nat} {A : Option Addr} {len cap : Nat} {x : DataW H × List MemPlace} (h : DataW.trod enc Try.prog w base spare held fuel 41 [.slice A len cap] = some x) :
    ∃ l : List ByteArray, l.length = len ∧ Kd.string.C w A l.length l ∧ l.length ≤ cap ∧ ∀ s ∈ l, s.size ≤ maxLen := by
  rcases open_strings Try.underlying41 Try.underlying9 (by kernel_rfl) h with ⟨hcs, _⟩ | ⟨a, l, c, ss, hcs, _, hl, hm, hz, _, hcell, hws⟩
  · simp at hcs
    obtain ⟨rfl, rfl, rfl⟩ := hcs
    exact ⟨[], rfl, ⟨rfl, by simp, fun h => absurd h (by simp)⟩, Nat.le_refl _, by simp⟩
  · simp at hcs
    obtain ⟨rfl, rfl, rfl⟩ := hcs
    have hlz : len ≤ ss.length := by rw [hz]; split <;> omega
    have e1 : (ss.take len).length = len := by simp; omega
    refine ⟨ss.take len, e1, ⟨rfl, by unfold maxLen at hm; omega, fun _ => ⟨a, rfl, fun j p hp => ?_⟩⟩, by omega, fun s hs => hws s (List.mem_of_mem_take hs)⟩
    have hj : j < len := by
      have := (List.getElem?_eq_some_iff.1 hp).1
      omega
    have hj2 : j < ss.length := by omega
    have hpe : p = ss.getD j ByteArray.empty := by
      rw [List.getElem?_take, if_pos hj] at hp
      rw [List.getD_eq_getElem?_getD, hp]; rfl
    refine ⟨[.string p], rfl, rfl, fun i u hu => ?_⟩
    match i, hu with
    | 0, hu =>
      rw [← Option.some.inj hu, hpe]
      show w.cell? (a.add (j * 1 + 0)) = _
      rw [Nat.mul_one, Nat.add_zero]
      exact hcell j hj2
    | i + 1, hu => simp at hu

end Go.Proofs.Ytgagjilenbbajaa.RowX
