/- The law FnExactKeccakCalls: KeccakCalls answers as the reference does; no conditions. -/
import Derived.Test.YtgagjilenbbajaaPrint1
import Derived.Test.YtgagjilenbbajaaPureF
namespace Go.Proofs.Ytgagjilenbbajaa.Pure
open Go.RowKit Go.Proofs.Ytgagjilenbbajaa.Print Go.Proofs.YtgagjilenbbajaaW.PrintWords Go.Proofs.YtgagjilenbbajaaW.PrintLast
set_option linter.unusedSimpArgs false


theorem FnExactKeccakCalls : laws_FnExactKeccakCalls.Pure := by
  intro a _
  unfold laws_FnExactKeccakCalls.f spec_KeccakCalls.f impl_KeccakCalls.f
  rw [spec_in_f, impl_in_f]
  by_cases h : decide ((0 : Int) ≤ a ∧ a ≤ 65536) = true
  · simp [h]
  · simp [h]

end Go.Proofs.Ytgagjilenbbajaa.Pure
