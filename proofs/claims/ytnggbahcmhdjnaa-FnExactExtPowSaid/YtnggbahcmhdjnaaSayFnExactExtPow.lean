-- Written by a program of this session (mkrow.py); not trusted, Lean checks it.
import Derived.Test.YtnggbahcmhdjnaaPrint11
namespace Go.Proofs.Ytnggbahcmhdjnaa.Print
open Go.RowKit Go.Proofs.YtnggbahcmhdjnaaW.PrintWords Go.Proofs.YtnggbahcmhdjnaaW.PrintLast
/-- THE ONE PURE STATEMENT of laws_FnExactExtPow. -/
def laws_FnExactExtPow.Pure : Prop := ∀ (a0_0 a0_1 : Int) (a1 : Int), (Lit.int .i64 a0_0).wf = true → (Lit.int .i64 a0_1).wf = true → (Lit.int .i64 a1).wf = true → ∃ k, laws_FnExactExtPow.f k a0_0 a0_1 a1 = some true
end Go.Proofs.Ytnggbahcmhdjnaa.Print
