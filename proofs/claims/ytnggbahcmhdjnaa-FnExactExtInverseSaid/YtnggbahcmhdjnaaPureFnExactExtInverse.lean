/- The law FnExactExtInverse: ExtInverse answers as the reference does; no conditions. -/
import Derived.Test.YtnggbahcmhdjnaaPrint12
import Derived.Test.YtnggbahcmhdjnaaSayFnExactExtInverse
import Derived.Test.YtnggbahcmhdjnaaPureX
import Derived.Test.YtnggbahcmhdjnaaPureF
namespace Go.Proofs.Ytnggbahcmhdjnaa.Pure
open Go.RowKit Go.Proofs.Ytnggbahcmhdjnaa.Print Go.Proofs.YtnggbahcmhdjnaaW.PrintWords Go.Proofs.YtnggbahcmhdjnaaW.PrintLast
set_option linter.unusedSimpArgs false
set_option linter.unusedVariables false


theorem FnExactExtInverse : laws_FnExactExtInverse.Pure := by
  intro a b _ _
  refine ⟨64, ?_⟩
  unfold laws_FnExactExtInverse.f laws_toExt.f spec_ExtInverse.f impl_ExtInverse.f laws_eqExt.f spec_l02Inverse.f impl_Ext_inverse.f spec_l01Inverse.f impl_inverse.f impl_Ext_scaled.f
  simp only [Option.bind_some]
  rw [spec_ExtOK_f, impl_ExtOK_f]
  by_cases h : okE a b = true
  · have h1 := okE_true h
    by_cases h0 : (a == 0 && (b == 0)) = true
    · simp only [h, if_true, h0, Option.bind_some]
    · have hN := normE_lt a b
      have hs := spec_Pow 0 hN.1 hN.2 (show (0 : Int) ≤ 2130706431 by omega) (by omega)
      have hi := impl_Pow 0 hN.1 hN.2 (show (0 : Int) ≤ 2130706431 by omega) (by omega)
      simp only [Nat.zero_add] at hs hi
      have b1 := mod_lt (normE a b ^ (2130706431 : Int).toNat)
      have b2 := mod_lt (0 - b)
      rw [spec_norm_f h1, impl_norm_f h1, spec_sub_f (by omega) (by omega) h1.b0 h1.b1, impl_sub_f (by omega) (by omega) h1.b0 h1.b1]
      simp only [Option.bind_some, hs, hi]
      rw [spec_mul_f h1.a0 h1.a1 b1.1 b1.2, impl_mul_f h1.a0 h1.a1 b1.1 b1.2, spec_mul_f b2.1 b2.2 b1.1 b1.2, impl_mul_f b2.1 b2.2 b1.1 b1.2]
      simp only [h, if_true, if_neg h0, Option.bind_some]
  · simp [h]

end Go.Proofs.Ytnggbahcmhdjnaa.Pure
