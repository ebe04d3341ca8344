/- The law FnExactExtSub: ExtSub answers as the reference does; no conditions. -/
import Derived.Test.YtnggbahcmhdjnaaPrint7
import Derived.Test.YtnggbahcmhdjnaaSayFnExactExtSub
import Derived.Test.YtnggbahcmhdjnaaPureX
import Derived.Test.YtnggbahcmhdjnaaPureF
namespace Go.Proofs.Ytnggbahcmhdjnaa.Pure
open Go.RowKit Go.Proofs.Ytnggbahcmhdjnaa.Print Go.Proofs.YtnggbahcmhdjnaaW.PrintWords Go.Proofs.YtnggbahcmhdjnaaW.PrintLast
set_option linter.unusedSimpArgs false
set_option linter.unusedVariables false


theorem FnExactExtSub : laws_FnExactExtSub.Pure := by
  intro a b c d _ _ _ _
  unfold laws_FnExactExtSub.f laws_toExt.f spec_ExtSub.f impl_ExtSub.f extTwo_minus.f laws_eqExt.f
  simp only [Option.bind_some]
  rw [spec_ExtOK_f, spec_ExtOK_f, impl_ExtOK_f, impl_ExtOK_f]
  by_cases h : okE a b = true
  · by_cases g : okE c d = true
    · rw [spec_minus_f (okE_true h) (okE_true g), impl_minus_f (okE_true h) (okE_true g)]
      simp [h, g]
    · simp [h, g]
  · simp [h]

end Go.Proofs.Ytnggbahcmhdjnaa.Pure
