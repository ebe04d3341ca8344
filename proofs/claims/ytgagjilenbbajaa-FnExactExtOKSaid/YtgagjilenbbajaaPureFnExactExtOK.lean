/- The law FnExactExtOK: ExtOK answers as the reference does; no conditions. -/
import Derived.Test.YtgagjilenbbajaaPrint1
import Derived.Test.YtgagjilenbbajaaPureE
import Derived.Test.YtgagjilenbbajaaSayFnExactExtOK
import Derived.Test.YtgagjilenbbajaaPureF
namespace Go.Proofs.Ytgagjilenbbajaa.Pure
open Go.RowKit Go.Proofs.Ytgagjilenbbajaa.Print Go.Proofs.YtgagjilenbbajaaW.PrintWords Go.Proofs.YtgagjilenbbajaaW.PrintLast
set_option linter.unusedSimpArgs false


theorem FnExactExtOK : laws_FnExactExtOK.Pure := by
  intro a b _ _
  unfold laws_FnExactExtOK.f laws_toExt.f
  simp only [Option.bind_some]
  rw [spec_ExtOK_f, impl_ExtOK_f]
  simp

end Go.Proofs.Ytgagjilenbbajaa.Pure
