/- Plain laws on the field's functions: what sums, products and powers come to. Numbers alone. -/
import Derived.Test.YtnggbahcmhdjnaaPrint2
import Derived.Test.YtnggbahcmhdjnaaPrint3
import Derived.Test.YtnggbahcmhdjnaaPrint8
import Derived.Test.YtnggbahcmhdjnaaPrint10
import Derived.Test.YtnggbahcmhdjnaaPrint6
namespace Go.Proofs.Ytnggbahcmhdjnaa.Pure
open Go.RowKit Go.Proofs.Ytnggbahcmhdjnaa.Print Go.Proofs.YtnggbahcmhdjnaaW.PrintWords Go.Proofs.YtnggbahcmhdjnaaW.PrintLast

theorem wf_i64 {x : Int} (h : (Lit.int .i64 x).wf = true) : -9223372036854775808 ≤ x ∧ x ≤ 9223372036854775807 := by
  have h' : IntKind.i64.min ≤ x ∧ x ≤ 9223372036854775807 := by simpa [Lit.wf] using h
  have e : IntKind.i64.min = -9223372036854775808 := by decide
  omega

def okI (a : Int) : Bool := decide (0 ≤ a ∧ a ≤ 2130706432)

theorem okI_true {a : Int} (h : okI a = true) : 0 ≤ a ∧ a < 2130706433 := by
  have := of_decide_eq_true h
  omega

theorem spec_in_f (a b c : Int) : spec_l01In.f a b c = some (decide (b ≤ a ∧ a ≤ c)) := by
  unfold spec_l01In.f
  by_cases h : b ≤ a
  · rw [if_pos h]; simp [h]
  · rw [if_neg h]; simp [h]

theorem impl_in_f (a b c : Int) : impl_in.f a b c = some (decide (b ≤ a ∧ a ≤ c)) := by
  unfold impl_in.f
  by_cases h : b ≤ a
  · rw [if_pos h]; simp [h]
  · rw [if_neg h]; simp [h]

theorem spec_FieldOK_f (a : Int) : spec_FieldOK.f a = some (okI a) := by
  unfold spec_FieldOK.f
  rw [spec_in_f]; rfl

theorem impl_FieldOK_f (a : Int) : impl_FieldOK.f a = some (okI a) := by
  unfold impl_FieldOK.f
  rw [impl_in_f]; rfl

theorem mul_bd {a b : Int} (ha0 : 0 ≤ a) (ha : a < 2130706433) (hb0 : 0 ≤ b) (hb : b < 2130706433) : 0 ≤ a * b ∧ a * b ≤ 4539909899366170624 := by
  refine ⟨Int.mul_nonneg ha0 hb0, ?_⟩
  have := Int.mul_le_mul (show a ≤ 2130706432 by omega) (show b ≤ 2130706432 by omega) hb0 (by omega)
  omega

theorem mul_mod {a b : Int} (ha0 : 0 ≤ a) (ha : a < 2130706433) (hb0 : 0 ≤ b) (hb : b < 2130706433) : Int.tmod (wrap64 (a * b)) 2130706433 = a * b % 2130706433 := by
  have h := mul_bd ha0 ha hb0 hb
  generalize a * b = c at h ⊢
  rw [show wrap64 c = c by unfold wrap64; omega]
  exact Int.tmod_eq_emod_of_nonneg h.1

theorem mod_lt (c : Int) : 0 ≤ c % 2130706433 ∧ c % 2130706433 < 2130706433 := by omega

theorem impl_mul_f {a b : Int} (ha0 : 0 ≤ a) (ha : a < 2130706433) (hb0 : 0 ≤ b) (hb : b < 2130706433) : impl_mul.f a b = some (a * b % 2130706433) := by
  unfold impl_mul.f; rw [mul_mod ha0 ha hb0 hb]
theorem spec_mul_f {a b : Int} (ha0 : 0 ≤ a) (ha : a < 2130706433) (hb0 : 0 ≤ b) (hb : b < 2130706433) : spec_l01Mul.f a b = some (a * b % 2130706433) := by
  unfold spec_l01Mul.f; rw [mul_mod ha0 ha hb0 hb]
theorem add_mod {a b : Int} (ha0 : 0 ≤ a) (ha : a < 2130706433) (hb0 : 0 ≤ b) (hb : b < 2130706433) : Int.tmod (wrap64 (a + b)) 2130706433 = (a + b) % 2130706433 := by
  rw [show wrap64 (a + b) = a + b by unfold wrap64; omega]
  exact Int.tmod_eq_emod_of_nonneg (by omega)
theorem impl_add_f {a b : Int} (ha0 : 0 ≤ a) (ha : a < 2130706433) (hb0 : 0 ≤ b) (hb : b < 2130706433) : impl_add.f a b = some ((a + b) % 2130706433) := by
  unfold impl_add.f; rw [add_mod ha0 ha hb0 hb]
theorem spec_add_f {a b : Int} (ha0 : 0 ≤ a) (ha : a < 2130706433) (hb0 : 0 ≤ b) (hb : b < 2130706433) : spec_l01Add.f a b = some ((a + b) % 2130706433) := by
  unfold spec_l01Add.f; rw [add_mod ha0 ha hb0 hb]
theorem impl_sub_f {a b : Int} (ha0 : 0 ≤ a) (ha : a < 2130706433) (hb0 : 0 ≤ b) (hb : b < 2130706433) : impl_sub.f a b = some ((a - b) % 2130706433) := by
  unfold impl_sub.f
  rw [show wrap64 (wrap64 (a - b) + 2130706433) = a - b + 2130706433 by unfold wrap64; omega, Int.tmod_eq_emod_of_nonneg (by omega)]
  congr 1; omega
theorem spec_sub_f {a b : Int} (ha0 : 0 ≤ a) (ha : a < 2130706433) (hb0 : 0 ≤ b) (hb : b < 2130706433) : spec_l01Sub.f a b = some ((a - b) % 2130706433) := by
  unfold spec_l01Sub.f
  rw [show wrap64 (wrap64 (a + 2130706433) - b) = a - b + 2130706433 by unfold wrap64; omega, Int.tmod_eq_emod_of_nonneg (by omega)]
  congr 1; omega

/-! powers -/
theorem pow_mod (a m : Int) (n : Nat) : (a % m) ^ n % m = a ^ n % m := by
  induction n with
  | zero => rw [Int.pow_zero, Int.pow_zero]
  | succ n ih => rw [Int.pow_succ, Int.pow_succ, Int.mul_emod, ih, Int.emod_emod, ← Int.mul_emod]

theorem pow_even (x r m : Int) (j : Nat) : r * (x * x % m) ^ j % m = r * x ^ (2 * j) % m := by
  rw [Int.mul_emod, pow_mod, ← Int.mul_emod, Int.pow_mul, Int.pow_succ, Int.pow_succ, Int.pow_zero, Int.one_mul]

theorem pow_odd (x r m : Int) (j : Nat) : (r * x % m) * (x * x % m) ^ j % m = r * x ^ (2 * j + 1) % m := by
  rw [pow_even, Int.mul_emod, Int.emod_emod, ← Int.mul_emod, Int.pow_succ]
  congr 1
  rw [Int.mul_assoc, Int.mul_comm x]

theorem spec_pow_f (k : Nat) : ∀ (x n r : Int), 0 ≤ x → x < 2130706433 → 0 ≤ r → r < 2130706433 → 0 ≤ n → n < 2 ^ k → n ≤ 9223372036854775807 → spec_l01Pow.l0 (k + 1) x n r = some (r * x ^ n.toNat % 2130706433) := by
  induction k with
  | zero =>
    intro x n r h0 h1 h2 h3 h4 h5 h6
    have : n = 0 := by simp at h5; omega
    subst this
    simp only [spec_l01Pow.l0]
    rw [if_neg (by omega)]
    simp
    omega
  | succ k ih =>
    intro x n r h0 h1 h2 h3 h4 h5 h6
    rw [spec_l01Pow.l0]
    by_cases hn : n > 0
    · rw [if_pos hn]
      have hd : wrap64 (Int.tdiv n 2) = n / 2 := by
        rw [Int.tdiv_eq_ediv_of_nonneg (by omega)]; unfold wrap64; omega
      have hm : Int.tmod n 2 = n % 2 := Int.tmod_eq_emod_of_nonneg (by omega)
      have hlt : n / 2 < 2 ^ k := by rw [Int.pow_succ] at h5; omega
      rw [hd, hm, spec_mul_f h2 h3 h0 h1, spec_mul_f h0 h1 h0 h1]
      simp only [Option.bind_some]
      have b1 := mod_lt (r * x)
      have b2 := mod_lt (x * x)
      by_cases ho : n % 2 = 1
      · rw [if_pos ho, ih _ _ _ b2.1 b2.2 b1.1 b1.2 (by omega) hlt (by omega), pow_odd]
        rw [show 2 * (n / 2).toNat + 1 = n.toNat by omega]
      · rw [if_neg ho, ih _ _ _ b2.1 b2.2 h2 h3 (by omega) hlt (by omega), pow_even]
        rw [show 2 * (n / 2).toNat = n.toNat by omega]
    · rw [if_neg hn]
      have : n = 0 := by omega
      subst this
      simp
      omega

theorem and_one_i64 (n : Int) (h0 : 0 ≤ n) (h1 : n ≤ 9223372036854775807) : Go.bits .and .i64 n 1 = n % 2 := by
  have h := bits_mask .i64 63 (by decide) (fun n h0 h1 => by rw [show (2 : Int) ^ 63 = 9223372036854775808 by decide] at h1; rw [IntKind.wrap_i64]; omega) 1 (by decide) n h0 (by rw [show (2 : Int) ^ 63 = 9223372036854775808 by decide]; omega)
  rw [show ((2 : Int) ^ 1 - 1) = 1 by decide, show ((2 : Int) ^ 1) = 2 by decide] at h
  exact h

theorem impl_pow_f (k : Nat) : ∀ (x n r : Int), 0 ≤ x → x < 2130706433 → 0 ≤ r → r < 2130706433 → 0 ≤ n → n < 2 ^ k → n ≤ 9223372036854775807 → impl_pow.l0 (k + 1) x n r = some (r * x ^ n.toNat % 2130706433) := by
  induction k with
  | zero =>
    intro x n r h0 h1 h2 h3 h4 h5 h6
    have : n = 0 := by simp at h5; omega
    subst this
    simp only [impl_pow.l0]
    rw [if_neg (by omega)]
    simp
    omega
  | succ k ih =>
    intro x n r h0 h1 h2 h3 h4 h5 h6
    rw [impl_pow.l0]
    by_cases hn : n > 0
    · rw [if_pos hn]
      have hlt : n / 2 < 2 ^ k := by rw [Int.pow_succ] at h5; omega
      rw [and_one_i64 n h4 h6, impl_mul_f h2 h3 h0 h1, impl_mul_f h0 h1 h0 h1]
      simp only [Option.bind_some]
      have b1 := mod_lt (r * x)
      have b2 := mod_lt (x * x)
      by_cases ho : n % 2 = 1
      · rw [if_pos ho, ih _ _ _ b2.1 b2.2 b1.1 b1.2 (by omega) hlt (by omega), pow_odd]
        rw [show 2 * (n / 2).toNat + 1 = n.toNat by omega]
      · rw [if_neg ho, ih _ _ _ b2.1 b2.2 h2 h3 (by omega) hlt (by omega), pow_even]
        rw [show 2 * (n / 2).toNat = n.toNat by omega]
    · rw [if_neg hn]
      have : n = 0 := by omega
      subst this
      simp
      omega

theorem pow63 : (2 : Int) ^ 63 = 9223372036854775808 := by decide
/-- 64 rounds and more serve every exponent. -/
theorem spec_Pow (k : Nat) {x n : Int} (h0 : 0 ≤ x) (h1 : x < 2130706433) (h4 : 0 ≤ n) (h6 : n ≤ 9223372036854775807) : spec_l01Pow.f (k + 64) x n = some (x ^ n.toNat % 2130706433) := by
  unfold spec_l01Pow.f
  have h := spec_pow_f 63 x n 1 h0 h1 (by omega) (by omega) h4 (by rw [pow63]; omega) h6
  rw [Int.one_mul] at h
  exact at_rounds (g := fun k => spec_l01Pow.f k x n) (spec_l01Pow.mono x n) (by omega) h
theorem impl_Pow (k : Nat) {x n : Int} (h0 : 0 ≤ x) (h1 : x < 2130706433) (h4 : 0 ≤ n) (h6 : n ≤ 9223372036854775807) : impl_pow.f (k + 64) x n = some (x ^ n.toNat % 2130706433) := by
  unfold impl_pow.f
  have h := impl_pow_f 63 x n 1 h0 h1 (by omega) (by omega) h4 (by rw [pow63]; omega) h6
  rw [Int.one_mul] at h
  exact at_rounds (g := fun k => impl_pow.f k x n) (impl_pow.mono x n) (by omega) h

end Go.Proofs.Ytnggbahcmhdjnaa.Pure
