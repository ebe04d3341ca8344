/- The law FnExactInverse: Inverse answers as the reference does; no conditions. -/
import Derived.Test.YtnggbahcmhdjnaaPrint10
import Derived.Test.YtnggbahcmhdjnaaPureF
namespace Go.Proofs.Ytnggbahcmhdjnaa.Pure
open Go.RowKit Go.Proofs.Ytnggbahcmhdjnaa.Print Go.Proofs.YtnggbahcmhdjnaaW.PrintWords Go.Proofs.YtnggbahcmhdjnaaW.PrintLast
set_option linter.unusedSimpArgs false
set_option linter.unusedVariables false


theorem FnExactInverse : laws_FnExactInverse.Pure := by
  intro a ha
  refine ⟨64, ?_⟩
  unfold laws_FnExactInverse.f spec_Inverse.f impl_Inverse.f spec_l01Inverse.f impl_inverse.f
  rw [spec_FieldOK_f, impl_FieldOK_f]
  by_cases h : okI a = true
  · have h1 := okI_true h
    by_cases h0 : a = 0
    · simp only [h, if_true, if_pos h0, Option.bind_some]
    · have hs := spec_Pow 0 h1.1 h1.2 (show (0 : Int) ≤ 2130706431 by omega) (by omega)
      have hi := impl_Pow 0 h1.1 h1.2 (show (0 : Int) ≤ 2130706431 by omega) (by omega)
      simp only [Nat.zero_add] at hs hi
      rw [hs, hi]
      simp [h, h0]
  · simp [h]

end Go.Proofs.Ytnggbahcmhdjnaa.Pure
