/- Plain laws on roots of unity: what root and the reference's answer. -/
import Derived.Test.YtnggbahcmhdjnaaPrint11
import Derived.Test.YtnggbahcmhdjnaaPrint10
import Derived.Test.YtnggbahcmhdjnaaPureF
namespace Go.Proofs.Ytnggbahcmhdjnaa.Pure
open Go.RowKit Go.Proofs.Ytnggbahcmhdjnaa.Print Go.Proofs.YtnggbahcmhdjnaaW.PrintWords Go.Proofs.YtnggbahcmhdjnaaW.PrintLast

/-- 127 shifted to the left by 24 - k. -/
def rootExp (a : Int) : Int := 127 * 2 ^ (24 - a).toNat
theorem rootExp_bd {a : Int} (h0 : 0 ≤ a) (h1 : a ≤ 24) : 0 ≤ rootExp a ∧ rootExp a ≤ 2130706432 := by
  unfold rootExp
  have hn : (24 - a).toNat ≤ 24 := by omega
  generalize (24 - a).toNat = n at hn
  have h2 : (2 : Int) ^ n ≤ 2 ^ 24 := by
    have := Nat.pow_le_pow_right (show 0 < 2 by decide) hn
    exact_mod_cast this
  have h3 : (0 : Int) ≤ 2 ^ n := Int.pow_nonneg (by decide)
  have h4 : (2 : Int) ^ 24 = 16777216 := by decide
  omega
theorem shl_root {a : Int} (h0 : 0 ≤ a) (h1 : a ≤ 24) : shl .i64 127 (24 - a) = rootExp a := by
  have h := rootExp_bd h0 h1
  unfold shl
  rw [Nat.min_eq_left (show (24 - a).toNat ≤ IntKind.i64.bits by show _ ≤ 64; omega), IntKind.wrap_i64]
  show ((rootExp a + 9223372036854775808) % 18446744073709551616 - 9223372036854775808) = rootExp a
  omega
theorem spec_root_f (k : Nat) {a : Int} (h0 : 0 ≤ a) (h1 : a ≤ 24) : spec_l01Root.f (k + 64) a = some (3 ^ (rootExp a).toNat % 2130706433) := by
  have h := rootExp_bd h0 h1
  unfold spec_l01Root.f
  rw [show wrap64 (24 - a) = 24 - a by unfold wrap64; omega, IntKind.wrap_u64, show (24 - a) % 18446744073709551616 = 24 - a by omega, if_pos (by omega), shl_root h0 h1, spec_Pow k (by omega) (by omega) h.1 (by omega)]
  rfl
theorem impl_root_f (k : Nat) {a : Int} (h0 : 0 ≤ a) (h1 : a ≤ 24) : impl_root.f (k + 64) a = some (3 ^ (rootExp a).toNat % 2130706433) := by
  have h := rootExp_bd h0 h1
  unfold impl_root.f
  rw [show wrap64 (24 - a) = 24 - a by unfold wrap64; omega, if_pos (by omega), shl_root h0 h1, impl_Pow k (by omega) (by omega) h.1 (by omega)]
  rfl
end Go.Proofs.Ytnggbahcmhdjnaa.Pure
