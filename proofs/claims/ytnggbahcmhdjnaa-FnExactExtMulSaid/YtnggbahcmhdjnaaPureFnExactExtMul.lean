/- The law FnExactExtMul: ExtMul answers as the reference does; no conditions. -/
import Derived.Test.YtnggbahcmhdjnaaPrint9
import Derived.Test.YtnggbahcmhdjnaaSayFnExactExtMul
import Derived.Test.YtnggbahcmhdjnaaPureX
import Derived.Test.YtnggbahcmhdjnaaPureF
namespace Go.Proofs.Ytnggbahcmhdjnaa.Pure
open Go.RowKit Go.Proofs.Ytnggbahcmhdjnaa.Print Go.Proofs.YtnggbahcmhdjnaaW.PrintWords Go.Proofs.YtnggbahcmhdjnaaW.PrintLast
set_option linter.unusedSimpArgs false
set_option linter.unusedVariables false


theorem FnExactExtMul : laws_FnExactExtMul.Pure := by
  intro a b c d _ _ _ _
  unfold laws_FnExactExtMul.f laws_toExt.f spec_ExtMul.f impl_ExtMul.f extTwo_times.f laws_eqExt.f
  simp only [Option.bind_some]
  rw [spec_ExtOK_f, spec_ExtOK_f, impl_ExtOK_f, impl_ExtOK_f]
  by_cases h : okE a b = true
  · by_cases g : okE c d = true
    · rw [spec_times_f (okE_true h) (okE_true g), impl_times_f (okE_true h) (okE_true g)]
      simp [h, g]
    · simp [h, g]
  · simp [h]

end Go.Proofs.Ytnggbahcmhdjnaa.Pure
