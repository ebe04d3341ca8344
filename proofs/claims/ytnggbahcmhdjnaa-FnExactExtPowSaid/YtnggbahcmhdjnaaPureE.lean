/- Plain laws on the greater field's functions: what they come to. Numbers alone. -/
import Derived.Test.YtnggbahcmhdjnaaPrint2
import Derived.Test.YtnggbahcmhdjnaaPrint3
import Derived.Test.YtnggbahcmhdjnaaPrint11
import Derived.Test.YtnggbahcmhdjnaaPrint12
import Derived.Test.YtnggbahcmhdjnaaPureF
namespace Go.Proofs.Ytnggbahcmhdjnaa.Pure
open Go.RowKit Go.Proofs.Ytnggbahcmhdjnaa.Print Go.Proofs.YtnggbahcmhdjnaaW.PrintWords Go.Proofs.YtnggbahcmhdjnaaW.PrintLast

def okE (a b : Int) : Bool := okI a && okI b
/-- An element of the greater field: both numbers below the prime. -/
structure InE (a b : Int) : Prop where
  a0 : 0 ≤ a
  a1 : a < 2130706433
  b0 : 0 ≤ b
  b1 : b < 2130706433
theorem okE_true {a b : Int} (h : okE a b = true) : InE a b := by
  unfold okE at h
  rw [Bool.and_eq_true] at h
  have h1 := okI_true h.1
  have h2 := okI_true h.2
  exact ⟨h1.1, h1.2, h2.1, h2.2⟩
theorem spec_ExtOK_f (a b : Int) : spec_ExtOK.f a b = some (okE a b) := by
  unfold spec_ExtOK.f okE
  rw [spec_FieldOK_f, spec_FieldOK_f]
  cases okI a <;> simp
theorem impl_ExtOK_f (a b : Int) : impl_ExtOK.f a b = some (okE a b) := by
  unfold impl_ExtOK.f okE
  rw [impl_FieldOK_f, impl_FieldOK_f]
  cases okI a <;> simp
theorem three_mod {c : Int} (h0 : 0 ≤ c) (h1 : c < 2130706433) : Int.tmod (wrap64 (3 * c)) 2130706433 = 3 * c % 2130706433 := mul_mod (by omega) (by omega) h0 h1
/-- The norm of an element. -/
def normE (a b : Int) : Int := (a * a - 3 * (b * b)) % 2130706433
theorem normE_lt (a b : Int) : 0 ≤ normE a b ∧ normE a b < 2130706433 := mod_lt _
theorem norm_mod (x y : Int) : (x % 2130706433 - 3 * (y % 2130706433) % 2130706433) % 2130706433 = (x - 3 * y) % 2130706433 := by omega
theorem spec_norm_f {a b : Int} (h : InE a b) : spec_l02Norm.f a b = some (normE a b) := by
  unfold spec_l02Norm.f
  have h1 := mod_lt (a * a)
  have h2 := mod_lt (b * b)
  rw [spec_mul_f h.a0 h.a1 h.a0 h.a1, spec_mul_f h.b0 h.b1 h.b0 h.b1]
  simp only [Option.bind_some]
  rw [three_mod h2.1 h2.2]
  have h3 := mod_lt (3 * (b * b % 2130706433))
  rw [spec_sub_f h1.1 h1.2 h3.1 h3.2]
  simp only [Option.bind_some, normE, norm_mod]
theorem impl_norm_f {a b : Int} (h : InE a b) : impl_Ext_norm.f a b = some (normE a b) := by
  unfold impl_Ext_norm.f
  have h1 := mod_lt (a * a)
  have h2 := mod_lt (b * b)
  rw [impl_mul_f h.a0 h.a1 h.a0 h.a1, impl_mul_f h.b0 h.b1 h.b0 h.b1]
  simp only [Option.bind_some]
  rw [impl_mul_f (by omega) (by omega) h2.1 h2.2]
  simp only [Option.bind_some]
  have h3 := mod_lt (3 * (b * b % 2130706433))
  rw [impl_sub_f h1.1 h1.2 h3.1 h3.2]
  simp only [Option.bind_some, normE, norm_mod]
end Go.Proofs.Ytnggbahcmhdjnaa.Pure
