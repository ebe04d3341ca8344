/- The law FnExactRootOf: RootOf answers as the reference does; no conditions. -/
import Derived.Test.YtgagjilenbbajaaPrint5
import Derived.Test.YtgagjilenbbajaaPureR
import Derived.Test.YtgagjilenbbajaaPureF
namespace Go.Proofs.Ytgagjilenbbajaa.Pure
open Go.RowKit Go.Proofs.Ytgagjilenbbajaa.Print Go.Proofs.YtgagjilenbbajaaW.PrintWords Go.Proofs.YtgagjilenbbajaaW.PrintLast
set_option linter.unusedSimpArgs false


theorem FnExactRootOf : laws_FnExactRootOf.Pure := by
  intro a _
  refine ⟨64, ?_⟩
  unfold laws_FnExactRootOf.f spec_RootOf.f impl_RootOf.f
  rw [spec_in_f, impl_in_f]
  by_cases h : 0 ≤ a ∧ a ≤ 24
  · have hs := spec_root_f 0 h.1 h.2
    have hi := impl_root_f 0 h.1 h.2
    simp only [Nat.zero_add] at hs hi
    rw [hs, hi]
    simp [h]
  · simp [show decide (0 ≤ a ∧ a ≤ 24) = false from decide_eq_false h]

end Go.Proofs.Ytgagjilenbbajaa.Pure
