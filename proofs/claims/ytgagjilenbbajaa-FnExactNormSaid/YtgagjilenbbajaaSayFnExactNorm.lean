-- Written by a program of this session (mkrow.py); not trusted, Lean checks it.
import Derived.Test.YtgagjilenbbajaaPrint4
namespace Go.Proofs.Ytgagjilenbbajaa.Print
open Go.RowKit Go.Proofs.YtgagjilenbbajaaW.PrintWords Go.Proofs.YtgagjilenbbajaaW.PrintLast
/-- THE ONE PURE STATEMENT of laws_FnExactNorm. -/
def laws_FnExactNorm.Pure : Prop := ∀ (a0_0 a0_1 : Int), (Lit.int .i64 a0_0).wf = true → (Lit.int .i64 a0_1).wf = true → laws_FnExactNorm.f a0_0 a0_1 = some true
end Go.Proofs.Ytgagjilenbbajaa.Print
