/- Plain laws on the greater field's powers: the two loops go alike and end. Numbers alone. -/
import Derived.Test.YtnggbahcmhdjnaaPrint11
import Derived.Test.YtnggbahcmhdjnaaPureX
namespace Go.Proofs.Ytnggbahcmhdjnaa.Pure
open Go.RowKit Go.Proofs.Ytnggbahcmhdjnaa.Print Go.Proofs.YtnggbahcmhdjnaaW.PrintWords Go.Proofs.YtnggbahcmhdjnaaW.PrintLast
theorem ext_pow_l (k : Nat) : ∀ (n x y r s : Int), InE x y → InE r s → 0 ≤ n → n < 2 ^ k → n ≤ 9223372036854775807 → ∃ u v, spec_l02Pow.l0 (k + 1) n x y r s = some (u, v) ∧ impl_Ext_pow.l0 (k + 1) n x y r s = some (u, v) ∧ InE u v := by
  induction k with
  | zero =>
    intro n x y r s h1 h2 h3 h4 h5
    have : n = 0 := by simp at h4; omega
    subst this
    exact ⟨r, s, by rw [spec_l02Pow.l0, if_neg (by omega)], by rw [impl_Ext_pow.l0, if_neg (by omega)], h2⟩
  | succ k ih =>
    intro n x y r s h1 h2 h3 h4 h5
    by_cases hn : n > 0
    · have hd : wrap64 (Int.tdiv n 2) = n / 2 := by
        rw [Int.tdiv_eq_ediv_of_nonneg (by omega)]; unfold wrap64; omega
      have hm : Int.tmod n 2 = n % 2 := Int.tmod_eq_emod_of_nonneg (by omega)
      have hlt : n / 2 < 2 ^ k := by rw [Int.pow_succ] at h4; omega
      rw [spec_l02Pow.l0, if_pos hn, impl_Ext_pow.l0, if_pos hn, hd, hm, and_one_i64 n h3 h5, spec_times_f h2 h1, spec_times_f h1 h1, impl_times_f h2 h1, impl_times_f h1 h1]
      simp only [Option.bind_some]
      by_cases ho : n % 2 = 1
      · rw [if_pos ho, if_pos ho]
        exact ih _ _ _ _ _ (timesE_in _ _ _ _) (timesE_in _ _ _ _) (by omega) hlt (by omega)
      · rw [if_neg ho, if_neg ho]
        exact ih _ _ _ _ _ (timesE_in _ _ _ _) h2 (by omega) hlt (by omega)
    · exact ⟨r, s, by rw [spec_l02Pow.l0, if_neg hn], by rw [impl_Ext_pow.l0, if_neg hn], h2⟩
end Go.Proofs.Ytnggbahcmhdjnaa.Pure
