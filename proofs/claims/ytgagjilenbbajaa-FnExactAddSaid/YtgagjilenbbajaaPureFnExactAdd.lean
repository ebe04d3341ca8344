/- The law FnExactAdd: Add answers as the reference does; no conditions. -/
import Derived.Test.YtgagjilenbbajaaPrint4
import Derived.Test.YtgagjilenbbajaaPureF
namespace Go.Proofs.Ytgagjilenbbajaa.Pure
open Go.RowKit Go.Proofs.Ytgagjilenbbajaa.Print Go.Proofs.YtgagjilenbbajaaW.PrintWords Go.Proofs.YtgagjilenbbajaaW.PrintLast
set_option linter.unusedSimpArgs false


theorem FnExactAdd : laws_FnExactAdd.Pure := by
  intro a b _ _
  unfold laws_FnExactAdd.f spec_Add.f impl_Add.f two_add.f
  rw [spec_FieldOK_f, spec_FieldOK_f, impl_FieldOK_f, impl_FieldOK_f]
  by_cases ha : okI a = true
  · by_cases hb : okI b = true
    · have h1 := okI_true ha
      have h2 := okI_true hb
      rw [spec_add_f h1.1 h1.2 h2.1 h2.2, impl_add_f h1.1 h1.2 h2.1 h2.2]
      simp [ha, hb]
    · simp [ha, hb]
  · simp [ha]

end Go.Proofs.Ytgagjilenbbajaa.Pure
