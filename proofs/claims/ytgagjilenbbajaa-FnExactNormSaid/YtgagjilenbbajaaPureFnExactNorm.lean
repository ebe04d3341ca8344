/- The law FnExactNorm: Norm answers as the reference does; no conditions. -/
import Derived.Test.YtgagjilenbbajaaPrint4
import Derived.Test.YtgagjilenbbajaaPureE
import Derived.Test.YtgagjilenbbajaaSayFnExactNorm
import Derived.Test.YtgagjilenbbajaaPureF
namespace Go.Proofs.Ytgagjilenbbajaa.Pure
open Go.RowKit Go.Proofs.Ytgagjilenbbajaa.Print Go.Proofs.YtgagjilenbbajaaW.PrintWords Go.Proofs.YtgagjilenbbajaaW.PrintLast
set_option linter.unusedSimpArgs false


theorem FnExactNorm : laws_FnExactNorm.Pure := by
  intro a b _ _
  unfold laws_FnExactNorm.f laws_toExt.f spec_Norm.f impl_Norm.f
  simp only [Option.bind_some]
  rw [spec_ExtOK_f, impl_ExtOK_f]
  by_cases h : okE a b = true
  · have h1 := okE_true h
    rw [spec_norm_f h1, impl_norm_f h1]
    simp [h]
  · simp [h]

end Go.Proofs.Ytgagjilenbbajaa.Pure
