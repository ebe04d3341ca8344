/- The law FnRoots: a root of unity squared is the one of half its order, and none of a lesser order is it; no conditions. -/
import Derived.Test.YtnggbahcmhdjnaaPrint11
import Derived.Test.YtnggbahcmhdjnaaPureR
import Derived.Test.YtnggbahcmhdjnaaPureF
namespace Go.Proofs.Ytnggbahcmhdjnaa.Pure
open Go.RowKit Go.Proofs.Ytnggbahcmhdjnaa.Print Go.Proofs.YtnggbahcmhdjnaaW.PrintWords Go.Proofs.YtnggbahcmhdjnaaW.PrintLast
set_option linter.unusedSimpArgs false
set_option linter.unusedVariables false


theorem byte_range {x : Int} (h : (Lit.int .u8 x).wf = true) : 0 ≤ x ∧ x ≤ 255 := by
  simp [Lit.wf, IntKind.min, IntKind.max, IntKind.signed, IntKind.bits] at h
  omega
theorem impl_Mul_f {a b : Int} (ha0 : 0 ≤ a) (ha : a < 2130706433) (hb0 : 0 ≤ b) (hb : b < 2130706433) : impl_Mul.f a b = some (a * b % 2130706433, 0) := by
  unfold impl_Mul.f two_mul.f
  rw [impl_FieldOK_f, impl_FieldOK_f, impl_mul_f ha0 ha hb0 hb]
  have h1 : okI a = true := by unfold okI; simp; omega
  have h2 : okI b = true := by unfold okI; simp; omega
  simp [h1, h2]
theorem impl_PowF {a n : Int} (ha0 : 0 ≤ a) (ha : a < 2130706433) (h4 : 0 ≤ n) (h6 : n ≤ 9223372036854775807) : impl_Pow.f 64 a n = some (a ^ n.toNat % 2130706433, 0) := by
  unfold impl_Pow.f
  rw [impl_FieldOK_f]
  have h1 : okI a = true := by unfold okI; simp; omega
  have hi := impl_Pow 0 ha0 ha h4 h6
  simp only [Nat.zero_add] at hi
  rw [hi]
  simp [h1, show ¬ n < 0 by omega]
theorem RootOf_f {a : Int} (h0 : 0 ≤ a) (h1 : a ≤ 24) : impl_RootOf.f 64 a = some (3 ^ (rootExp a).toNat % 2130706433, 0) := by
  unfold impl_RootOf.f
  have hi := impl_root_f 0 h0 h1
  simp only [Nat.zero_add] at hi
  rw [impl_in_f, hi]
  simp [h0, h1]
theorem spec_RootOf_f {a : Int} (h0 : 0 ≤ a) (h1 : a ≤ 24) : spec_RootOf.f 64 a = some (3 ^ (rootExp a).toNat % 2130706433, 0) := by
  unfold spec_RootOf.f
  have hi := spec_root_f 0 h0 h1
  simp only [Nat.zero_add] at hi
  rw [spec_in_f, hi]
  simp [h0, h1]
theorem two_pow_le {t : Nat} (h : t ≤ 23) : (2 : Int) ^ t ≤ 9223372036854775807 := by
  have h2 : (2 : Int) ^ t ≤ 2 ^ 23 := by
    have := Nat.pow_le_pow_right (show 0 < 2 by decide) h
    exact_mod_cast this
  have h4 : (2 : Int) ^ 23 = 8388608 := by decide
  omega
theorem shl_one {t : Int} (h0 : 0 ≤ t) (h1 : t ≤ 23) : shl .i64 1 t = 2 ^ t.toNat := by
  have h2 := two_pow_le (show t.toNat ≤ 23 by omega)
  have h3 : (0 : Int) ≤ 2 ^ t.toNat := Int.pow_nonneg (by decide)
  unfold shl
  rw [Nat.min_eq_left (show t.toNat ≤ IntKind.i64.bits by show _ ≤ 64; omega), IntKind.wrap_i64]
  generalize (2 : Int) ^ t.toNat = z at *
  omega
theorem rootExp_nat {a : Int} (h0 : 0 ≤ a) (h1 : a ≤ 24) : (rootExp a).toNat = 127 * 2 ^ (24 - a).toNat := by
  unfold rootExp
  have : (127 * 2 ^ (24 - a).toNat : Int) = ((127 * 2 ^ (24 - a).toNat : Nat) : Int) := by simp
  rw [this, Int.toNat_natCast]
theorem root_square {t : Int} (h0 : 0 ≤ t) (h1 : t ≤ 23) : (3 ^ (rootExp (t + 1)).toNat % 2130706433) * (3 ^ (rootExp (t + 1)).toNat % 2130706433) % 2130706433 = 3 ^ (rootExp t).toNat % (2130706433 : Int) := by
  rw [← Int.mul_emod, ← Int.pow_add, rootExp_nat (by omega) (by omega), rootExp_nat h0 (by omega), show (24 - t).toNat = (24 - (t + 1)).toNat + 1 by omega, Nat.pow_succ]
  congr 2
  omega
/-- 3 to the 127, squared n times. -/
def sq3 : Nat → Int
  | 0 => 3 ^ 127 % 2130706433
  | n + 1 => sq3 n * sq3 n % 2130706433
theorem sq3_pow (n : Nat) : (3 : Int) ^ (127 * 2 ^ n) % 2130706433 = sq3 n := by
  induction n with
  | zero => rfl
  | succ n ih =>
    rw [Nat.pow_succ, ← Nat.mul_assoc, Nat.mul_two, Int.pow_add, Int.mul_emod, ih]
    rfl
theorem sq3_23 : sq3 23 = 2130706432 := by decide +kernel
theorem sq3_24 : sq3 24 = 1 := by decide +kernel
theorem root_half {t : Int} (h0 : 0 ≤ t) (h1 : t ≤ 23) : (3 ^ (rootExp (t + 1)).toNat % 2130706433) ^ (2 ^ t.toNat : Int).toNat % 2130706433 = (2130706432 : Int) := by
  rw [pow_mod, ← Int.pow_mul, rootExp_nat (by omega) (by omega)]
  have e : ((2 : Int) ^ t.toNat).toNat = 2 ^ t.toNat := by
    have : ((2 : Int) ^ t.toNat) = ((2 ^ t.toNat : Nat) : Int) := by simp
    rw [this, Int.toNat_natCast]
  rw [e, Nat.mul_assoc, ← Nat.pow_add, show (24 - (t + 1)).toNat + t.toNat = 23 by omega, sq3_pow, sq3_23]
theorem root_zero : 3 ^ (rootExp 0).toNat % (2130706433 : Int) = 1 := by
  rw [rootExp_nat (by omega) (by omega), show (24 - (0 : Int)).toNat = 24 by omega, sq3_pow, sq3_24]
theorem rd_range (l : List Int) (hl : ∀ x ∈ l, 0 ≤ x ∧ x ≤ 255) (i : Int) : 0 ≤ rd l i ∧ rd l i ≤ 255 := by
  unfold rd
  rw [List.getD_eq_getElem?_getD]
  by_cases h : i.toNat < l.length
  · rw [List.getElem?_eq_getElem h]
    exact hl _ (List.getElem_mem h)
  · rw [List.getElem?_eq_none (by omega)]
    simp
/-- A choice out of n that some bytes make. -/
theorem at_f (l : List Int) (i n : Int) (hl : ∀ x ∈ l, 0 ≤ x ∧ x ≤ 255) (hn : (l.length : Int) ≤ 1048576) (h0 : 0 ≤ i) (h1 : i ≤ 1000) (h2 : 1 < n) (h3 : n ≤ 1000) : ∃ t, laws_at.f l i n = some t ∧ 0 ≤ t ∧ t < n := by
  unfold laws_at.f
  rw [if_neg (by omega)]
  by_cases hz : (l.length : Int) = 0
  · rw [if_pos hz, if_neg (by omega), show wrap64 (i * 7) = i * 7 by unfold wrap64; omega, Int.tmod_eq_emod_of_nonneg (by omega)]
    exact ⟨_, rfl, Int.emod_nonneg _ (by omega), Int.emod_lt_of_pos _ (by omega)⟩
  · rw [if_neg hz, Int.tmod_eq_emod_of_nonneg h0]
    have e1 : wrap64 (i + 1) = i + 1 := by unfold wrap64; omega
    rw [e1, Int.tmod_eq_emod_of_nonneg (show (0 : Int) ≤ i + 1 by omega)]
    have p1 := Int.emod_nonneg i hz
    have p2 := Int.emod_lt_of_pos i (show (0 : Int) < (l.length : Int) by omega)
    have p3 := Int.emod_nonneg (i + 1) hz
    have p4 := Int.emod_lt_of_pos (i + 1) (show (0 : Int) < (l.length : Int) by omega)
    rw [if_pos p1, if_pos p2, if_pos p3, if_pos p4, if_neg (by omega), Int.tdiv_eq_ediv_of_nonneg h0]
    have r1 := rd_range l hl (i % (l.length : Int))
    have r2 := rd_range l hl ((i + 1) % (l.length : Int))
    have q1 : 0 ≤ i / (l.length : Int) := Int.ediv_nonneg h0 (by omega)
    have q2 : i / (l.length : Int) ≤ i := Int.ediv_le_self _ h0
    generalize rd l (i % (l.length : Int)) = x at r1
    generalize rd l ((i + 1) % (l.length : Int)) = y at r2
    generalize i / (l.length : Int) = z at q1 q2
    have e2 : wrap64 (wrap64 (wrap64 (wrap64 x * 31) + wrap64 y) + wrap64 z) = x * 31 + y + z := by unfold wrap64; omega
    rw [e2, Int.tmod_eq_emod_of_nonneg (by omega)]
    exact ⟨_, rfl, Int.emod_nonneg _ (by omega), Int.emod_lt_of_pos _ (by omega)⟩

theorem FnRoots : laws_FnRoots.Pure := by
  intro l _ _ hw
  refine ⟨64, ?_⟩
  unfold laws_FnRoots.f
  by_cases h : (l.length : Int) > 1048576
  · rw [if_pos h]
  · rw [if_neg h]
    obtain ⟨t, ht, h0, h1⟩ := at_f l 0 24 (fun x hx => byte_range (hw x hx)) (by omega) (by omega) (by omega) (by omega) (by omega)
    rw [ht]
    simp only [Option.bind_some]
    rw [show wrap64 (t + 1) = t + 1 by unfold wrap64; omega, RootOf_f h0 (by omega), RootOf_f (show (0 : Int) ≤ t + 1 by omega) (by omega), RootOf_f (show (0 : Int) ≤ 0 by omega) (by omega), spec_RootOf_f h0 (by omega)]
    simp only [Option.bind_some]
    have b1 := mod_lt (3 ^ (rootExp (t + 1)).toNat)
    rw [impl_Mul_f b1.1 b1.2 b1.1 b1.2]
    simp only [Option.bind_some]
    have hsh := shl_one h0 (show t ≤ 23 by omega)
    rw [IntKind.wrap_u64, show t % 18446744073709551616 = t by omega, if_pos h0, hsh, impl_PowF b1.1 b1.2 (Int.pow_nonneg (by decide)) (two_pow_le (by omega))]
    simp only [Option.bind_some, if_true]
    rw [root_square h0 (by omega), root_half h0 (by omega), root_zero]
    simp

end Go.Proofs.Ytnggbahcmhdjnaa.Pure
