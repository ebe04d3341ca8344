/- The law FnExactFieldOK: FieldOK answers as the reference does; no conditions. -/
import Derived.Test.YtgagjilenbbajaaPrint1
import Derived.Test.YtgagjilenbbajaaPureF
namespace Go.Proofs.Ytgagjilenbbajaa.Pure
open Go.RowKit Go.Proofs.Ytgagjilenbbajaa.Print Go.Proofs.YtgagjilenbbajaaW.PrintWords Go.Proofs.YtgagjilenbbajaaW.PrintLast
set_option linter.unusedSimpArgs false


theorem FnExactFieldOK : laws_FnExactFieldOK.Pure := by
  intro a _
  unfold laws_FnExactFieldOK.f
  rw [spec_FieldOK_f, impl_FieldOK_f]
  simp

end Go.Proofs.Ytgagjilenbbajaa.Pure
