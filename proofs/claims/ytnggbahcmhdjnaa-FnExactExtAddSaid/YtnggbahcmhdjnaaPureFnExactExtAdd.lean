/- The law FnExactExtAdd: ExtAdd answers as the reference does; no conditions. -/
import Derived.Test.YtnggbahcmhdjnaaPrint5
import Derived.Test.YtnggbahcmhdjnaaSayFnExactExtAdd
import Derived.Test.YtnggbahcmhdjnaaPureX
import Derived.Test.YtnggbahcmhdjnaaPureF
namespace Go.Proofs.Ytnggbahcmhdjnaa.Pure
open Go.RowKit Go.Proofs.Ytnggbahcmhdjnaa.Print Go.Proofs.YtnggbahcmhdjnaaW.PrintWords Go.Proofs.YtnggbahcmhdjnaaW.PrintLast
set_option linter.unusedSimpArgs false
set_option linter.unusedVariables false


theorem FnExactExtAdd : laws_FnExactExtAdd.Pure := by
  intro a b c d _ _ _ _
  unfold laws_FnExactExtAdd.f laws_toExt.f spec_ExtAdd.f impl_ExtAdd.f extTwo_plus.f laws_eqExt.f
  simp only [Option.bind_some]
  rw [spec_ExtOK_f, spec_ExtOK_f, impl_ExtOK_f, impl_ExtOK_f]
  by_cases h : okE a b = true
  · by_cases g : okE c d = true
    · rw [spec_plus_f (okE_true h) (okE_true g), impl_plus_f (okE_true h) (okE_true g)]
      simp [h, g]
    · simp [h, g]
  · simp [h]

end Go.Proofs.Ytnggbahcmhdjnaa.Pure
