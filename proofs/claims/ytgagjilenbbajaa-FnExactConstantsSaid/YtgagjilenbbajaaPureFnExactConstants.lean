/- The law FnExactConstants: the program's constants are those that the document gives; no conditions. -/
import Derived.Test.YtgagjilenbbajaaPrint1
import Derived.Test.YtgagjilenbbajaaPureF
namespace Go.Proofs.Ytgagjilenbbajaa.Pure
open Go.RowKit Go.Proofs.Ytgagjilenbbajaa.Print Go.Proofs.YtgagjilenbbajaaW.PrintWords Go.Proofs.YtgagjilenbbajaaW.PrintLast
set_option linter.unusedSimpArgs false


theorem FnExactConstants : laws_FnExactConstants.Pure := by
  rfl

end Go.Proofs.Ytgagjilenbbajaa.Pure
