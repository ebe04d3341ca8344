/- The law FnExactExtPow: ExtPow answers as the reference does; no conditions. -/
import Derived.Test.YtnggbahcmhdjnaaPrint11
import Derived.Test.YtnggbahcmhdjnaaSayFnExactExtPow
import Derived.Test.YtnggbahcmhdjnaaPureXP
import Derived.Test.YtnggbahcmhdjnaaPureF
namespace Go.Proofs.Ytnggbahcmhdjnaa.Pure
open Go.RowKit Go.Proofs.Ytnggbahcmhdjnaa.Print Go.Proofs.YtnggbahcmhdjnaaW.PrintWords Go.Proofs.YtnggbahcmhdjnaaW.PrintLast
set_option linter.unusedSimpArgs false
set_option linter.unusedVariables false


theorem FnExactExtPow : laws_FnExactExtPow.Pure := by
  intro a b n _ _ hn
  refine ⟨64, ?_⟩
  unfold laws_FnExactExtPow.f laws_toExt.f spec_ExtPow.f impl_ExtPow.f laws_eqExt.f spec_l02Pow.f impl_Ext_pow.f spec_l02Of.f
  simp only [Option.bind_some]
  rw [spec_ExtOK_f, impl_ExtOK_f]
  by_cases h : okE a b = true
  · have h2 := wf_i64 hn
    by_cases h0 : n < 0
    · simp [h, h0]
    · obtain ⟨u, v, h3, h4, _⟩ := ext_pow_l 63 n a b 1 0 (okE_true h) ⟨by omega, by omega, by omega, by omega⟩ (by omega) (by rw [pow63]; omega) h2.2
      rw [h3, h4]
      simp [h, h0]
  · simp [h]

end Go.Proofs.Ytnggbahcmhdjnaa.Pure
