-- Written by a program of this session (mkrow.py); not trusted, Lean checks it.
import Derived.Test.YtnggbahcmhdjnaaPrint7
namespace Go.Proofs.Ytnggbahcmhdjnaa.Print
open Go.RowKit Go.Proofs.YtnggbahcmhdjnaaW.PrintWords Go.Proofs.YtnggbahcmhdjnaaW.PrintLast
/-- THE ONE PURE STATEMENT of laws_FnExactExtSub. -/
def laws_FnExactExtSub.Pure : Prop := ∀ (a0_0 a0_1 : Int) (a1_0 a1_1 : Int), (Lit.int .i64 a0_0).wf = true → (Lit.int .i64 a0_1).wf = true → (Lit.int .i64 a1_0).wf = true → (Lit.int .i64 a1_1).wf = true → laws_FnExactExtSub.f a0_0 a0_1 a1_0 a1_1 = some true
end Go.Proofs.Ytnggbahcmhdjnaa.Print
