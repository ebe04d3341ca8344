/- The law FnExactPow: Pow answers as the reference does; no conditions. -/
import Derived.Test.YtnggbahcmhdjnaaPrint10
import Derived.Test.YtnggbahcmhdjnaaPureF
namespace Go.Proofs.Ytnggbahcmhdjnaa.Pure
open Go.RowKit Go.Proofs.Ytnggbahcmhdjnaa.Print Go.Proofs.YtnggbahcmhdjnaaW.PrintWords Go.Proofs.YtnggbahcmhdjnaaW.PrintLast
set_option linter.unusedSimpArgs false
set_option linter.unusedVariables false


theorem FnExactPow : laws_FnExactPow.Pure := by
  intro a n ha hn
  refine ⟨64, ?_⟩
  unfold laws_FnExactPow.f spec_Pow.f impl_Pow.f
  rw [spec_FieldOK_f, impl_FieldOK_f]
  by_cases h : okI a = true
  · have h1 := okI_true h
    have h2 := wf_i64 hn
    by_cases h0 : n < 0
    · simp [h, h0]
    · have hs := spec_Pow 0 h1.1 h1.2 (show 0 ≤ n by omega) h2.2
      have hi := impl_Pow 0 h1.1 h1.2 (show 0 ≤ n by omega) h2.2
      simp only [Nat.zero_add] at hs hi
      rw [hs, hi]
      simp [h, h0]
  · simp [h]

end Go.Proofs.Ytnggbahcmhdjnaa.Pure
