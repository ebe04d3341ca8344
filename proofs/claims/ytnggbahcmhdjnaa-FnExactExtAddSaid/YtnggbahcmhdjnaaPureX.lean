/- Plain laws on the greater field's sums, products and powers. Numbers alone. -/
import Derived.Test.YtnggbahcmhdjnaaPrint2
import Derived.Test.YtnggbahcmhdjnaaPrint6
import Derived.Test.YtnggbahcmhdjnaaPrint8
import Derived.Test.YtnggbahcmhdjnaaPrint3
import Derived.Test.YtnggbahcmhdjnaaPureE
namespace Go.Proofs.Ytnggbahcmhdjnaa.Pure
open Go.RowKit Go.Proofs.Ytnggbahcmhdjnaa.Print Go.Proofs.YtnggbahcmhdjnaaW.PrintWords Go.Proofs.YtnggbahcmhdjnaaW.PrintLast

def plusE (a b c d : Int) : Int × Int := ((a + c) % 2130706433, (b + d) % 2130706433)
def minusE (a b c d : Int) : Int × Int := ((a - c) % 2130706433, (b - d) % 2130706433)
def timesE (a b c d : Int) : Int × Int := ((a * c + 3 * (b * d)) % 2130706433, (a * d + b * c) % 2130706433)
theorem plusE_in (a b c d : Int) : InE (plusE a b c d).1 (plusE a b c d).2 := ⟨(mod_lt _).1, (mod_lt _).2, (mod_lt _).1, (mod_lt _).2⟩
theorem minusE_in (a b c d : Int) : InE (minusE a b c d).1 (minusE a b c d).2 := ⟨(mod_lt _).1, (mod_lt _).2, (mod_lt _).1, (mod_lt _).2⟩
theorem timesE_in (a b c d : Int) : InE (timesE a b c d).1 (timesE a b c d).2 := ⟨(mod_lt _).1, (mod_lt _).2, (mod_lt _).1, (mod_lt _).2⟩
theorem InE.ok {a b : Int} (h : InE a b) : okE a b = true := by
  have h1 := h.a0; have h2 := h.a1; have h3 := h.b0; have h4 := h.b1
  unfold okE okI
  simp only [Bool.and_eq_true, decide_eq_true_eq]
  omega
section
variable {a b c d : Int}
theorem impl_plus_f (h : InE a b) (g : InE c d) : impl_Ext_plus.f a b c d = some (plusE a b c d) := by
  unfold impl_Ext_plus.f
  rw [impl_add_f h.a0 h.a1 g.a0 g.a1, impl_add_f h.b0 h.b1 g.b0 g.b1]; rfl
theorem spec_plus_f (h : InE a b) (g : InE c d) : spec_l02Add.f a b c d = some (plusE a b c d) := by
  unfold spec_l02Add.f
  rw [spec_add_f h.a0 h.a1 g.a0 g.a1, spec_add_f h.b0 h.b1 g.b0 g.b1]; rfl
theorem impl_minus_f (h : InE a b) (g : InE c d) : impl_Ext_minus.f a b c d = some (minusE a b c d) := by
  unfold impl_Ext_minus.f
  rw [impl_sub_f h.a0 h.a1 g.a0 g.a1, impl_sub_f h.b0 h.b1 g.b0 g.b1]; rfl
theorem spec_minus_f (h : InE a b) (g : InE c d) : spec_l02Sub.f a b c d = some (minusE a b c d) := by
  unfold spec_l02Sub.f
  rw [spec_sub_f h.a0 h.a1 g.a0 g.a1, spec_sub_f h.b0 h.b1 g.b0 g.b1]; rfl
theorem times_a (x y : Int) : (x % 2130706433 + 3 * (y % 2130706433) % 2130706433) % 2130706433 = (x + 3 * y) % 2130706433 := by omega
theorem times_b (x y : Int) : (x % 2130706433 + y % 2130706433) % 2130706433 = (x + y) % 2130706433 := by omega
theorem impl_times_f (h : InE a b) (g : InE c d) : impl_Ext_times.f a b c d = some (timesE a b c d) := by
  unfold impl_Ext_times.f
  have h1 := mod_lt (a * c)
  have h2 := mod_lt (b * d)
  have h3 := mod_lt (3 * (b * d % 2130706433))
  have h4 := mod_lt (a * d)
  have h5 := mod_lt (b * c)
  rw [impl_mul_f h.a0 h.a1 g.a0 g.a1, impl_mul_f h.b0 h.b1 g.b0 g.b1, impl_mul_f h.a0 h.a1 g.b0 g.b1, impl_mul_f h.b0 h.b1 g.a0 g.a1]
  simp only [Option.bind_some]
  rw [impl_mul_f (by omega) (by omega) h2.1 h2.2]
  simp only [Option.bind_some]
  rw [impl_add_f h1.1 h1.2 h3.1 h3.2, impl_add_f h4.1 h4.2 h5.1 h5.2]
  simp only [Option.bind_some]
  rw [times_a, times_b]
  rfl
theorem spec_times_f (h : InE a b) (g : InE c d) : spec_l02Mul.f a b c d = some (timesE a b c d) := by
  unfold spec_l02Mul.f
  have h1 := mod_lt (a * c)
  have h2 := mod_lt (b * d)
  have h3 := mod_lt (3 * (b * d % 2130706433))
  have h4 := mod_lt (a * d)
  have h5 := mod_lt (b * c)
  rw [spec_mul_f h.a0 h.a1 g.a0 g.a1, spec_mul_f h.b0 h.b1 g.b0 g.b1, spec_mul_f h.a0 h.a1 g.b0 g.b1, spec_mul_f h.b0 h.b1 g.a0 g.a1]
  simp only [Option.bind_some]
  rw [three_mod h2.1 h2.2, spec_add_f h1.1 h1.2 h3.1 h3.2]
  simp only [Option.bind_some]
  rw [spec_add_f h4.1 h4.2 h5.1 h5.2]
  simp only [Option.bind_some]
  rw [times_a, times_b]
  rfl
end
end Go.Proofs.Ytnggbahcmhdjnaa.Pure
