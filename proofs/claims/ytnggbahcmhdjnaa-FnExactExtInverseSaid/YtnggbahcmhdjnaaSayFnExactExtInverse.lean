-- Written by a program of this session (mkrow.py); not trusted, Lean checks it.
import Derived.Test.YtnggbahcmhdjnaaPrint12
namespace Go.Proofs.Ytnggbahcmhdjnaa.Print
open Go.RowKit Go.Proofs.YtnggbahcmhdjnaaW.PrintWords Go.Proofs.YtnggbahcmhdjnaaW.PrintLast
/-- THE ONE PURE STATEMENT of laws_FnExactExtInverse. -/
def laws_FnExactExtInverse.Pure : Prop := ∀ (a0_0 a0_1 : Int), (Lit.int .i64 a0_0).wf = true → (Lit.int .i64 a0_1).wf = true → ∃ k, laws_FnExactExtInverse.f k a0_0 a0_1 = some true
end Go.Proofs.Ytnggbahcmhdjnaa.Print
