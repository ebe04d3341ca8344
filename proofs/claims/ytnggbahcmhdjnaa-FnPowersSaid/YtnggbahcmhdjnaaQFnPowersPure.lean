-- Packed by a program of this session (slim.py): the plain laws that FnPowers needs.
import Derived.Test.YtnggbahcmhdjnaaQFnPowers0
import Derived.Test.YtnggbahcmhdjnaaQFnPowers1
import Derived.Test.YtnggbahcmhdjnaaQFnPowers2
import Derived.Test.YtnggbahcmhdjnaaPrint0
section
/- Plain laws on the field's functions: what sums, products and powers come to. Numbers alone. -/
namespace Go.Proofs.Ytnggbahcmhdjnaa.Pure
open Go.RowKit Go.Proofs.Ytnggbahcmhdjnaa.Print Go.Proofs.YtnggbahcmhdjnaaW.PrintWords Go.Proofs.YtnggbahcmhdjnaaW.PrintLast

theorem wf_i64 {x : Int} (h : (Lit.int .i64 x).wf = true) : -9223372036854775808 ≤ x ∧ x ≤ 9223372036854775807 := by
  have h' : IntKind.i64.min ≤ x ∧ x ≤ 9223372036854775807 := by simpa [Lit.wf] using h
  have e : IntKind.i64.min = -9223372036854775808 := by decide
  omega

def okI (a : Int) : Bool := decide (0 ≤ a ∧ a ≤ 2130706432)

theorem okI_true {a : Int} (h : okI a = true) : 0 ≤ a ∧ a < 2130706433 := by
  have := of_decide_eq_true h
  omega

theorem spec_in_f (a b c : Int) : spec_l01In.f a b c = some (decide (b ≤ a ∧ a ≤ c)) := by
  unfold spec_l01In.f
  by_cases h : b ≤ a
  · rw [if_pos h]; simp [h]
  · rw [if_neg h]; simp [h]

theorem impl_in_f (a b c : Int) : impl_in.f a b c = some (decide (b ≤ a ∧ a ≤ c)) := by
  unfold impl_in.f
  by_cases h : b ≤ a
  · rw [if_pos h]; simp [h]
  · rw [if_neg h]; simp [h]

theorem spec_FieldOK_f (a : Int) : spec_FieldOK.f a = some (okI a) := by
  unfold spec_FieldOK.f
  rw [spec_in_f]; rfl

theorem impl_FieldOK_f (a : Int) : impl_FieldOK.f a = some (okI a) := by
  unfold impl_FieldOK.f
  rw [impl_in_f]; rfl

theorem mul_bd {a b : Int} (ha0 : 0 ≤ a) (ha : a < 2130706433) (hb0 : 0 ≤ b) (hb : b < 2130706433) : 0 ≤ a * b ∧ a * b ≤ 4539909899366170624 := by
  refine ⟨Int.mul_nonneg ha0 hb0, ?_⟩
  have := Int.mul_le_mul (show a ≤ 2130706432 by omega) (show b ≤ 2130706432 by omega) hb0 (by omega)
  omega

theorem mul_mod {a b : Int} (ha0 : 0 ≤ a) (ha : a < 2130706433) (hb0 : 0 ≤ b) (hb : b < 2130706433) : Int.tmod (wrap64 (a * b)) 2130706433 = a * b % 2130706433 := by
  have h := mul_bd ha0 ha hb0 hb
  generalize a * b = c at h ⊢
  rw [show wrap64 c = c by unfold wrap64; omega]
  exact Int.tmod_eq_emod_of_nonneg h.1

theorem mod_lt (c : Int) : 0 ≤ c % 2130706433 ∧ c % 2130706433 < 2130706433 := by omega

theorem impl_mul_f {a b : Int} (ha0 : 0 ≤ a) (ha : a < 2130706433) (hb0 : 0 ≤ b) (hb : b < 2130706433) : impl_mul.f a b = some (a * b % 2130706433) := by
  unfold impl_mul.f; rw [mul_mod ha0 ha hb0 hb]
theorem spec_mul_f {a b : Int} (ha0 : 0 ≤ a) (ha : a < 2130706433) (hb0 : 0 ≤ b) (hb : b < 2130706433) : spec_l01Mul.f a b = some (a * b % 2130706433) := by
  unfold spec_l01Mul.f; rw [mul_mod ha0 ha hb0 hb]
theorem add_mod {a b : Int} (ha0 : 0 ≤ a) (ha : a < 2130706433) (hb0 : 0 ≤ b) (hb : b < 2130706433) : Int.tmod (wrap64 (a + b)) 2130706433 = (a + b) % 2130706433 := by
  rw [show wrap64 (a + b) = a + b by unfold wrap64; omega]
  exact Int.tmod_eq_emod_of_nonneg (by omega)
theorem impl_add_f {a b : Int} (ha0 : 0 ≤ a) (ha : a < 2130706433) (hb0 : 0 ≤ b) (hb : b < 2130706433) : impl_add.f a b = some ((a + b) % 2130706433) := by
  unfold impl_add.f; rw [add_mod ha0 ha hb0 hb]
theorem spec_add_f {a b : Int} (ha0 : 0 ≤ a) (ha : a < 2130706433) (hb0 : 0 ≤ b) (hb : b < 2130706433) : spec_l01Add.f a b = some ((a + b) % 2130706433) := by
  unfold spec_l01Add.f; rw [add_mod ha0 ha hb0 hb]
theorem impl_sub_f {a b : Int} (ha0 : 0 ≤ a) (ha : a < 2130706433) (hb0 : 0 ≤ b) (hb : b < 2130706433) : impl_sub.f a b = some ((a - b) % 2130706433) := by
  unfold impl_sub.f
  rw [show wrap64 (wrap64 (a - b) + 2130706433) = a - b + 2130706433 by unfold wrap64; omega, Int.tmod_eq_emod_of_nonneg (by omega)]
  congr 1; omega
theorem spec_sub_f {a b : Int} (ha0 : 0 ≤ a) (ha : a < 2130706433) (hb0 : 0 ≤ b) (hb : b < 2130706433) : spec_l01Sub.f a b = some ((a - b) % 2130706433) := by
  unfold spec_l01Sub.f
  rw [show wrap64 (wrap64 (a + 2130706433) - b) = a - b + 2130706433 by unfold wrap64; omega, Int.tmod_eq_emod_of_nonneg (by omega)]
  congr 1; omega

/-! powers -/
theorem pow_mod (a m : Int) (n : Nat) : (a % m) ^ n % m = a ^ n % m := by
  induction n with
  | zero => rw [Int.pow_zero, Int.pow_zero]
  | succ n ih => rw [Int.pow_succ, Int.pow_succ, Int.mul_emod, ih, Int.emod_emod, ← Int.mul_emod]

theorem pow_even (x r m : Int) (j : Nat) : r * (x * x % m) ^ j % m = r * x ^ (2 * j) % m := by
  rw [Int.mul_emod, pow_mod, ← Int.mul_emod, Int.pow_mul, Int.pow_succ, Int.pow_succ, Int.pow_zero, Int.one_mul]

theorem pow_odd (x r m : Int) (j : Nat) : (r * x % m) * (x * x % m) ^ j % m = r * x ^ (2 * j + 1) % m := by
  rw [pow_even, Int.mul_emod, Int.emod_emod, ← Int.mul_emod, Int.pow_succ]
  congr 1
  rw [Int.mul_assoc, Int.mul_comm x]

theorem spec_pow_f (k : Nat) : ∀ (x n r : Int), 0 ≤ x → x < 2130706433 → 0 ≤ r → r < 2130706433 → 0 ≤ n → n < 2 ^ k → n ≤ 9223372036854775807 → spec_l01Pow.l0 (k + 1) x n r = some (r * x ^ n.toNat % 2130706433) := by
  induction k with
  | zero =>
    intro x n r h0 h1 h2 h3 h4 h5 h6
    have : n = 0 := by simp at h5; omega
    subst this
    simp only [spec_l01Pow.l0]
    rw [if_neg (by omega)]
    simp
    omega
  | succ k ih =>
    intro x n r h0 h1 h2 h3 h4 h5 h6
    rw [spec_l01Pow.l0]
    by_cases hn : n > 0
    · rw [if_pos hn]
      have hd : wrap64 (Int.tdiv n 2) = n / 2 := by
        rw [Int.tdiv_eq_ediv_of_nonneg (by omega)]; unfold wrap64; omega
      have hm : Int.tmod n 2 = n % 2 := Int.tmod_eq_emod_of_nonneg (by omega)
      have hlt : n / 2 < 2 ^ k := by rw [Int.pow_succ] at h5; omega
      rw [hd, hm, spec_mul_f h2 h3 h0 h1, spec_mul_f h0 h1 h0 h1]
      simp only [Option.bind_some]
      have b1 := mod_lt (r * x)
      have b2 := mod_lt (x * x)
      by_cases ho : n % 2 = 1
      · rw [if_pos ho, ih _ _ _ b2.1 b2.2 b1.1 b1.2 (by omega) hlt (by omega), pow_odd]
        rw [show 2 * (n / 2).toNat + 1 = n.toNat by omega]
      · rw [if_neg ho, ih _ _ _ b2.1 b2.2 h2 h3 (by omega) hlt (by omega), pow_even]
        rw [show 2 * (n / 2).toNat = n.toNat by omega]
    · rw [if_neg hn]
      have : n = 0 := by omega
      subst this
      simp
      omega

theorem and_one_i64 (n : Int) (h0 : 0 ≤ n) (h1 : n ≤ 9223372036854775807) : Go.bits .and .i64 n 1 = n % 2 := by
  have h := bits_mask .i64 63 (by decide) (fun n h0 h1 => by rw [show (2 : Int) ^ 63 = 9223372036854775808 by decide] at h1; rw [IntKind.wrap_i64]; omega) 1 (by decide) n h0 (by rw [show (2 : Int) ^ 63 = 9223372036854775808 by decide]; omega)
  rw [show ((2 : Int) ^ 1 - 1) = 1 by decide, show ((2 : Int) ^ 1) = 2 by decide] at h
  exact h

theorem impl_pow_f (k : Nat) : ∀ (x n r : Int), 0 ≤ x → x < 2130706433 → 0 ≤ r → r < 2130706433 → 0 ≤ n → n < 2 ^ k → n ≤ 9223372036854775807 → impl_pow.l0 (k + 1) x n r = some (r * x ^ n.toNat % 2130706433) := by
  induction k with
  | zero =>
    intro x n r h0 h1 h2 h3 h4 h5 h6
    have : n = 0 := by simp at h5; omega
    subst this
    simp only [impl_pow.l0]
    rw [if_neg (by omega)]
    simp
    omega
  | succ k ih =>
    intro x n r h0 h1 h2 h3 h4 h5 h6
    rw [impl_pow.l0]
    by_cases hn : n > 0
    · rw [if_pos hn]
      have hlt : n / 2 < 2 ^ k := by rw [Int.pow_succ] at h5; omega
      rw [and_one_i64 n h4 h6, impl_mul_f h2 h3 h0 h1, impl_mul_f h0 h1 h0 h1]
      simp only [Option.bind_some]
      have b1 := mod_lt (r * x)
      have b2 := mod_lt (x * x)
      by_cases ho : n % 2 = 1
      · rw [if_pos ho, ih _ _ _ b2.1 b2.2 b1.1 b1.2 (by omega) hlt (by omega), pow_odd]
        rw [show 2 * (n / 2).toNat + 1 = n.toNat by omega]
      · rw [if_neg ho, ih _ _ _ b2.1 b2.2 h2 h3 (by omega) hlt (by omega), pow_even]
        rw [show 2 * (n / 2).toNat = n.toNat by omega]
    · rw [if_neg hn]
      have : n = 0 := by omega
      subst this
      simp
      omega

theorem pow63 : (2 : Int) ^ 63 = 9223372036854775808 := by decide
/-- 64 rounds and more serve every exponent. -/
theorem spec_Pow (k : Nat) {x n : Int} (h0 : 0 ≤ x) (h1 : x < 2130706433) (h4 : 0 ≤ n) (h6 : n ≤ 9223372036854775807) : spec_l01Pow.f (k + 64) x n = some (x ^ n.toNat % 2130706433) := by
  unfold spec_l01Pow.f
  have h := spec_pow_f 63 x n 1 h0 h1 (by omega) (by omega) h4 (by rw [pow63]; omega) h6
  rw [Int.one_mul] at h
  exact at_rounds (g := fun k => spec_l01Pow.f k x n) (spec_l01Pow.mono x n) (by omega) h
theorem impl_Pow (k : Nat) {x n : Int} (h0 : 0 ≤ x) (h1 : x < 2130706433) (h4 : 0 ≤ n) (h6 : n ≤ 9223372036854775807) : impl_pow.f (k + 64) x n = some (x ^ n.toNat % 2130706433) := by
  unfold impl_pow.f
  have h := impl_pow_f 63 x n 1 h0 h1 (by omega) (by omega) h4 (by rw [pow63]; omega) h6
  rw [Int.one_mul] at h
  exact at_rounds (g := fun k => impl_pow.f k x n) (impl_pow.mono x n) (by omega) h

end Go.Proofs.Ytnggbahcmhdjnaa.Pure
end
section
/- Plain lemmas on lists and rounds. -/
namespace Go.Proofs.Ytnggbahcmhdjnaa.Pure
open Go.RowKit Go.Proofs.Ytnggbahcmhdjnaa.Print Go.Proofs.YtnggbahcmhdjnaaW.PrintWords Go.Proofs.YtnggbahcmhdjnaaW.PrintLast

theorem take_set {α : Type} (l : List α) (i : Nat) (v : α) (h : i < l.length) : (l.set i v).take (i + 1) = l.take i ++ [v] := by
  rw [List.take_succ_eq_append_getElem (by simpa using h)]
  rw [List.take_set_of_le (Nat.le_refl i)]
  simp
theorem take_map_succ {α β : Type} (f : α → β) (l : List α) (z : α) (i : Nat) (h : i < l.length) : (l.map f).take (i + 1) = (l.map f).take i ++ [f (l.getD i z)] := by
  rw [List.take_succ_eq_append_getElem (by simpa using h)]
  simp [List.getD_eq_getElem?_getD, List.getElem?_eq_getElem h]
theorem wrap_small {x : Int} (h0 : -9223372036854775808 ≤ x) (h1 : x ≤ 9223372036854775807) : wrap64 x = x := by unfold wrap64; omega
theorem ev_val {α : Type} {g : Nat → Option α} {a b : α} (h : Ev g a) (e : a = b) : Ev g b := e ▸ h
theorem ev_bind {α β : Type} {g : Nat → Option α} {f : Nat → α → Option β} {a : α} {r : β} (h : Ev g a) (k : Ev (fun n => f n a) r) : Ev (fun n => (g n).bind (f n)) r := Ev.bind h k
theorem ev_const {α : Type} {o : Option α} {r : α} (h : o = some r) : Ev (fun _ => o) r := by subst h; exact Ev.now r
theorem ev_cbind {α β : Type} {o : Option α} {f : Nat → α → Option β} {a : α} {r : β} (h : o = some a) (k : Ev (fun n => f n a) r) : Ev (fun n => o.bind (f n)) r := by subst h; exact k
theorem ev_pos {α : Type} {c : Prop} [Decidable c] {g f : Nat → Option α} {r : α} (h : c) (k : Ev g r) : Ev (fun n => if c then g n else f n) r := by simpa only [if_pos h] using k
theorem ev_neg {α : Type} {c : Prop} [Decidable c] {g f : Nat → Option α} {r : α} (h : ¬ c) (k : Ev f r) : Ev (fun n => if c then g n else f n) r := by simpa only [if_neg h] using k
theorem rd_natCast (xs : List Int) (i : Nat) : rd xs (i : Int) = xs.getD i 0 := by simp [rd]
end Go.Proofs.Ytnggbahcmhdjnaa.Pure
end
section
/- Plain laws on drawn numbers: each draw ends, and lies in its range. Numbers alone. -/
namespace Go.Proofs.Ytnggbahcmhdjnaa.Pure
open Go.RowKit Go.Proofs.Ytnggbahcmhdjnaa.Print Go.Proofs.YtnggbahcmhdjnaaW.PrintWords Go.Proofs.YtnggbahcmhdjnaaW.PrintLast
set_option linter.unusedVariables false

theorem byteI_range {x : Int} (h : (Lit.int .u8 x).wf = true) : 0 ≤ x ∧ x ≤ 255 := by
  simp [Lit.wf, IntKind.min, IntKind.max, IntKind.signed, IntKind.bits] at h
  omega
theorem rdB_range (l : List Int) (hl : ∀ x ∈ l, 0 ≤ x ∧ x ≤ 255) (i : Int) : 0 ≤ rd l i ∧ rd l i ≤ 255 := by
  unfold rd
  rw [List.getD_eq_getElem?_getD]
  by_cases h : i.toNat < l.length
  · rw [List.getElem?_eq_getElem h]
    exact hl _ (List.getElem_mem h)
  · rw [List.getElem?_eq_none (by omega)]
    simp
/-- A drawn source's numbers: how many draws, at most n; the seed. -/
structure Src (n at_ seed : Int) : Prop where
  a0 : 0 ≤ at_
  a1 : at_ ≤ n
  s0 : 0 ≤ seed
  s1 : seed ≤ 2147483647
theorem Src.up {n m a s : Int} (h : Src n a s) (hn : n ≤ m) : Src m a s := ⟨h.a0, Int.le_trans h.a1 hn, h.s0, h.s1⟩
theorem byte_f (c : List Int) (hc : ∀ x ∈ c, 0 ≤ x ∧ x ≤ 255) {n a s : Int} (h : Src n a s) (hn : n ≤ 1000000) : ∃ v a' s', spec_l00Src_byte.f c a s = some (v, a', s') ∧ 0 ≤ v ∧ v ≤ 255 ∧ Src (n + 1) a' s' := by
  have h0 := h.a0; have h1 := h.a1; have h2 := h.s0; have h3 := h.s1
  unfold spec_l00Src_byte.f
  rw [if_pos (by omega)]
  by_cases hl : a < (c.length : Int)
  · have hr := rdB_range c hc a
    rw [if_pos hl, if_pos hr]
    exact ⟨_, _, _, rfl, hr.1, hr.2, by omega, by omega, by omega, by omega⟩
  · rw [if_neg hl]
    by_cases h4 : 3000 < a + 1
    · rw [if_pos h4]
      exact ⟨_, _, _, rfl, by omega, by omega, by omega, by omega, by omega, by omega⟩
    · rw [if_neg h4]
      exact ⟨_, _, _, rfl, by omega, by omega, by omega, by omega, by omega, by omega⟩
/-- One of 0 to m - 1. -/
theorem next_f (c : List Int) (hc : ∀ x ∈ c, 0 ≤ x ∧ x ≤ 255) {n a s : Int} (h : Src n a s) (hn : n ≤ 1000000) (m : Int) (h1 : 1 < m) (h2 : m ≤ 256) : ∃ v a' s', spec_l00Src_next.f c a s m = some (v, a', s') ∧ 0 ≤ v ∧ v < m ∧ Src (n + 1) a' s' := by
  obtain ⟨v, a', s', hb, h3, h4, h5⟩ := byte_f c hc h hn
  unfold spec_l00Src_next.f
  rw [if_neg (by omega), if_pos h2, hb]
  simp only [Option.bind_some]
  rw [if_neg (by omega), Int.tmod_eq_emod_of_nonneg h3]
  exact ⟨_, _, _, rfl, Int.emod_nonneg _ (by omega), Int.emod_lt_of_pos _ (by omega), h5⟩
theorem field_l (c : List Int) (hc : ∀ x ∈ c, 0 ≤ x ∧ x ≤ 255) (d : Nat) : ∀ (k : Nat) (x i n a s : Int), 0 ≤ i → i + d = 5 → d < k → 0 ≤ x → x < 2130706433 → Src n a s → n + (d : Int) ≤ 999990 → ∃ v a' s', spec_l00Src_field.l0 k x i c a s = some (v, a', s') ∧ 0 ≤ v ∧ v < 2130706433 ∧ Src (n + d) a' s' := by
  induction d with
  | zero =>
    intro k x i n a s hi hd hk hx hx1 h hn
    obtain ⟨k, rfl⟩ : ∃ m, k = m + 1 := ⟨k - 1, by omega⟩
    exact ⟨x, a, s, by rw [spec_l00Src_field.l0, if_neg (by omega)], hx, hx1, h.up (by omega)⟩
  | succ d ih =>
    intro k x i n a s hi hd hk hx hx1 h hn
    obtain ⟨k, rfl⟩ : ∃ m, k = m + 1 := ⟨k - 1, by omega⟩
    obtain ⟨v, a', s', hv, h3, h4, h5⟩ := next_f c hc h (by omega) 256 (by omega) (by omega)
    rw [spec_l00Src_field.l0, if_pos (by omega), hv]
    simp only [Option.bind_some]
    rw [show wrap64 (wrap64 (x * 256) + v) = x * 256 + v by unfold wrap64; omega, show wrap64 (i + 1) = i + 1 by unfold wrap64; omega, Int.tmod_eq_emod_of_nonneg (by omega)]
    have hb : (0 : Int) ≤ (x * 256 + v) % 2130706433 ∧ (x * 256 + v) % 2130706433 < 2130706433 := by omega
    obtain ⟨r, a2, s2, h6, h7, h8, h9⟩ := ih k _ (i + 1) (n + 1) a' s' (by omega) (by omega) (by omega) hb.1 hb.2 h5 (by omega)
    exact ⟨r, a2, s2, h6, h7, h8, h9.up (by omega)⟩
theorem field_f (c : List Int) (hc : ∀ x ∈ c, 0 ≤ x ∧ x ≤ 255) (k : Nat) (hk : 6 ≤ k) {n a s : Int} (h : Src n a s) (hn : n ≤ 900000) : ∃ v a' s', spec_l00Src_field.f k c a s = some (v, a', s') ∧ 0 ≤ v ∧ v < 2130706433 ∧ Src (n + 10) a' s' := by
  unfold spec_l00Src_field.f
  obtain ⟨v, a', s', hv, h3, h4, h5⟩ := next_f c hc h (by omega) 5 (by omega) (by omega)
  rw [hv]
  simp only [Option.bind_some]
  by_cases e0 : v = 0
  · rw [if_pos e0]
    obtain ⟨u, a2, s2, hu, h6, h7, h8⟩ := next_f c hc h5 (by omega) 4 (by omega) (by omega)
    rw [hu]
    exact ⟨u, a2, s2, rfl, by omega, by omega, h8.up (by omega)⟩
  · rw [if_neg e0]
    by_cases e1 : v = 1
    · rw [if_pos e1]
      obtain ⟨u, a2, s2, hu, h6, h7, h8⟩ := next_f c hc h5 (by omega) 3 (by omega) (by omega)
      rw [hu]
      exact ⟨_, a2, s2, rfl, by unfold wrap64; omega, by unfold wrap64; omega, h8.up (by omega)⟩
    · rw [if_neg e1]
      obtain ⟨u, a2, s2, hu, h6, h7, h8⟩ := field_l c hc 5 k 0 0 (n + 1) a' s' (by omega) (by omega) (by omega) (by omega) (by omega) h5 (by omega)
      exact ⟨u, a2, s2, hu, h6, h7, h8.up (by omega)⟩
theorem FieldOf_f (c : List Int) (hc : ∀ x ∈ c, 0 ≤ x ∧ x ≤ 255) (k : Nat) (hk : 6 ≤ k) : ∃ v, spec_FieldOf.f k c = some v ∧ 0 ≤ v ∧ v < 2130706433 := by
  unfold spec_FieldOf.f spec_l00Source.f
  simp only [Option.bind_some]
  obtain ⟨v, a', s', hv, h3, h4, _⟩ := field_f c hc k hk (n := 0) (a := 0) (s := (c.length : Int) % 1000) ⟨by omega, by omega, by omega, by omega⟩ (by omega)
  rw [hv]
  exact ⟨v, rfl, h3, h4⟩
end Go.Proofs.Ytnggbahcmhdjnaa.Pure
end
section
/- Plain laws on many inverses: what the program and the reference answer. Lists alone. -/
namespace Go.Proofs.Ytnggbahcmhdjnaa.Pure
open Go.RowKit Go.Proofs.Ytnggbahcmhdjnaa.Print Go.Proofs.YtnggbahcmhdjnaaW.PrintWords Go.Proofs.YtnggbahcmhdjnaaW.PrintLast
set_option linter.unusedVariables false

/-- The inverse below the prime (a power). -/
def invI (a : Int) : Int := a ^ 2130706431 % 2130706433
theorem toNat_inv : (2130706431 : Int).toNat = 2130706431 := rfl
theorem spec_inv_ev {a : Int} (h0 : 0 ≤ a) (h1 : a < 2130706433) : Ev (fun k => spec_l01Inverse.f k a) (invI a) := by
  have hs := spec_Pow 0 h0 h1 (show (0 : Int) ≤ 2130706431 by omega) (by omega)
  rw [toNat_inv] at hs
  refine Ev.of (k := 0 + 64) (spec_l01Inverse.mono a) ?_
  unfold spec_l01Inverse.f
  rw [hs]; rfl
theorem impl_inv_ev {a : Int} (h0 : 0 ≤ a) (h1 : a < 2130706433) : Ev (fun k => impl_inverse.f k a) (invI a) := by
  have hs := impl_Pow 0 h0 h1 (show (0 : Int) ≤ 2130706431 by omega) (by omega)
  rw [toNat_inv] at hs
  refine Ev.of (k := 0 + 64) (impl_inverse.mono a) ?_
  unfold impl_inverse.f
  rw [hs]; rfl
/-- What BatchInverse answers. -/
def batch (l : List Int) : List Int × Int := if (l.length : Int) > 4096 then ([], 2) else if l.all okI = false then ([], 1) else if l.any (· == 0) = true then ([], 7) else (l.map invI, 0)
theorem okI_getD {l : List Int} (h : l.all okI = true) {i : Nat} (hi : i < l.length) : 0 ≤ l.getD i 0 ∧ l.getD i 0 < 2130706433 := by
  rw [List.getD_eq_getElem?_getD, List.getElem?_eq_getElem hi]
  exact okI_true (List.all_eq_true.1 h _ (List.getElem_mem hi))
theorem all_drop {l : List Int} {p : Int → Bool} (i : Nat) (h : i < l.length) : (l.drop i).all p = (p (l.getD i 0) && (l.drop (i + 1)).all p) := by
  rw [List.drop_eq_getElem_cons h, List.all_cons, List.getD_eq_getElem?_getD, List.getElem?_eq_getElem h]; rfl
theorem any_drop {l : List Int} {p : Int → Bool} (i : Nat) (h : i < l.length) : (l.drop i).any p = (p (l.getD i 0) || (l.drop (i + 1)).any p) := by
  rw [List.drop_eq_getElem_cons h, List.any_cons, List.getD_eq_getElem?_getD, List.getElem?_eq_getElem h]; rfl
theorem spec_batch_l1 (l : List Int) (hn : l.length ≤ 4096) (hok : l.all okI = true) (d : Nat) : ∀ (acc : List Int) (i : Nat), i + d = l.length → acc = (l.map invI).take i → Ev (fun k => spec_BatchInverse.l1 k l acc (i : Int)) (if (l.drop i).any (· == 0) = true then ([], 7) else (l.map invI, 0)) := by
  induction d with
  | zero =>
    intro acc i hi ha
    refine Ev.step (f := fun _ => some (acc, 0)) (fun k => by rw [spec_BatchInverse.l1, if_neg (by omega)]) (ev_val (Ev.now _) ?_)
    rw [ha, List.take_of_length_le (by simp; omega), List.drop_of_length_le (by omega)]
    simp
  | succ d ih =>
    intro acc i hi ha
    have hb := okI_getD hok (show i < l.length by omega)
    have hl : acc.length = i := by rw [ha]; simp; omega
    rw [any_drop i (by omega)]
    by_cases hz : l.getD i 0 = 0
    · refine Ev.step (f := fun _ => some (([] : List Int), 7)) (fun k => by rw [spec_BatchInverse.l1, if_pos (by omega), if_pos (by omega), rd_natCast, if_pos hz]) (ev_val (Ev.now _) ?_)
      rw [if_pos (by rw [hz]; rfl)]
    · have hzb : (l.getD i 0 == 0) = false := beq_eq_false_iff_ne.2 hz
      rw [hzb, Bool.false_or]
      refine Ev.step (f := fun k => (spec_l01Inverse.f k (l.getD i 0)).bind fun t => spec_BatchInverse.l1 k l (acc ++ [t]) ((i + 1 : Nat) : Int)) (fun k => ?_) (ev_bind (f := fun k t => spec_BatchInverse.l1 k l (acc ++ [t]) ((i + 1 : Nat) : Int)) (spec_inv_ev hb.1 hb.2) (ih (acc ++ [invI (l.getD i 0)]) (i + 1) (by omega) (by rw [take_map_succ _ _ 0 _ (by omega), ha])))
      rw [spec_BatchInverse.l1, if_pos (by omega), if_pos (by omega), rd_natCast, if_neg hz, wrap_small (by omega) (by omega)]
      congr 1
      funext t
      rw [if_pos (by omega)]
      rfl
theorem spec_batch_l0 (l : List Int) (hn : l.length ≤ 4096) (d : Nat) : ∀ (i : Nat), i + d = l.length → (l.take i).all okI = true → Ev (fun k => spec_BatchInverse.l0 k l (i : Int)) (if l.all okI = false then ([], 1) else if l.any (· == 0) = true then ([], 7) else (l.map invI, 0)) := by
  induction d with
  | zero =>
    intro i hi ha
    rw [List.take_of_length_le (by omega)] at ha
    have h := spec_batch_l1 l hn ha l.length [] 0 (by omega) (by simp)
    rw [if_neg (by simp [ha])]
    exact Ev.step (fun k => by rw [spec_BatchInverse.l0, if_neg (by omega)]; rfl) h
  | succ d ih =>
    intro i hi ha
    by_cases hk : okI (l.getD i 0) = true
    · refine Ev.step (fun k => ?_) (ih (i + 1) (by omega) ?_)
      · rw [spec_BatchInverse.l0, if_pos (by omega), if_pos (by omega), rd_natCast, spec_FieldOK_f, hk]
        simp only [Option.bind_some, if_true]
        rw [wrap_small (by omega) (by omega)]
        rfl
      · rw [List.take_succ_eq_append_getElem (show i < l.length by omega), List.all_append, ha]
        rw [List.getD_eq_getElem?_getD, List.getElem?_eq_getElem (show i < l.length by omega)] at hk
        simpa using hk
    · have hf : l.all okI = false := by
        rw [Bool.eq_false_iff]
        intro h
        rw [List.getD_eq_getElem?_getD, List.getElem?_eq_getElem (show i < l.length by omega)] at hk
        exact hk (List.all_eq_true.1 h _ (List.getElem_mem _))
      refine Ev.step (f := fun _ => some (([] : List Int), 1)) (fun k => ?_) (ev_val (Ev.now _) (by rw [if_pos hf]))
      rw [spec_BatchInverse.l0, if_pos (by omega), if_pos (by omega), rd_natCast, spec_FieldOK_f]
      rw [Bool.not_eq_true] at hk; rw [hk]; rfl
theorem spec_batch_ev (l : List Int) : Ev (fun k => spec_BatchInverse.f k l) (batch l) := by
  unfold spec_BatchInverse.f batch
  by_cases h : (l.length : Int) > 4096
  · exact ev_val (ev_pos h (Ev.now _)) (by rw [if_pos h])
  · rw [if_neg h]
    exact ev_neg h (spec_batch_l0 l (by omega) l.length 0 (by omega) (by simp))
theorem idx0_l (l : List Int) (hn : l.length ≤ 4096) (d : Nat) : ∀ (i : Nat), i + d = l.length → ∃ r, Ev (fun k => slices_Index_int_int.l0 k l 0 (l.length : Int) (i : Int)) r ∧ decide (r ≥ 0) = (l.drop i).any (· == 0) := by
  induction d with
  | zero =>
    intro i hi
    exact ⟨-1, Ev.step (f := fun _ => some (-1)) (fun k => by rw [slices_Index_int_int.l0, if_neg (by omega)]) (Ev.now _), by rw [List.drop_of_length_le (by omega)]; rfl⟩
  | succ d ih =>
    intro i hi
    rw [any_drop i (by omega)]
    by_cases hz : l.getD i 0 = 0
    · exact ⟨(i : Int), Ev.step (f := fun _ => some (i : Int)) (fun k => by rw [slices_Index_int_int.l0, if_pos (by omega), if_pos (by omega), if_pos (by omega), rd_natCast, if_pos hz.symm]) (Ev.now _), by rw [hz, decide_eq_true (by omega)]; rfl⟩
    · obtain ⟨r, h1, h2⟩ := ih (i + 1) (by omega)
      refine ⟨r, Ev.step (fun k => ?_) h1, by rw [h2, beq_eq_false_iff_ne.2 hz, Bool.false_or]⟩
      rw [slices_Index_int_int.l0, if_pos (by omega), if_pos (by omega), if_pos (by omega), rd_natCast, if_neg (fun e => hz e.symm), wrap_small (by omega) (by omega)]
      rfl
theorem con0_ev (l : List Int) (hn : l.length ≤ 4096) : Ev (fun k => slices_Contains_int_int.f k l 0) (l.any (· == 0)) := by
  obtain ⟨r, h1, h2⟩ := idx0_l l hn l.length 0 (by omega)
  unfold slices_Contains_int_int.f slices_Index_int_int.f
  refine ev_bind h1 (ev_val (Ev.now _) ?_)
  rw [h2]; simp
theorem impl_batch_l (l : List Int) (hn : l.length ≤ 4096) (hok : l.all okI = true) (d : Nat) : ∀ (acc : List Int) (i : Nat), i + d = l.length → acc = (l.map invI).take i → Ev (fun k => impl_BatchInverse.l0 k acc l (l.length : Int) (i : Int)) (l.map invI, 0) := by
  induction d with
  | zero =>
    intro acc i hi ha
    refine Ev.step (f := fun _ => some (acc, 0)) (fun k => by rw [impl_BatchInverse.l0, if_neg (by omega)]) (ev_val (Ev.now _) ?_)
    rw [ha, List.take_of_length_le (by simp; omega)]
  | succ d ih =>
    intro acc i hi ha
    have hb := okI_getD hok (show i < l.length by omega)
    have hl : acc.length = i := by rw [ha]; simp; omega
    refine Ev.step (f := fun k => (impl_inverse.f k (l.getD i 0)).bind fun t => impl_BatchInverse.l0 k (acc ++ [t]) l (l.length : Int) ((i + 1 : Nat) : Int)) (fun k => ?_) (ev_bind (f := fun k t => impl_BatchInverse.l0 k (acc ++ [t]) l (l.length : Int) ((i + 1 : Nat) : Int)) (impl_inv_ev hb.1 hb.2) (ih (acc ++ [invI (l.getD i 0)]) (i + 1) (by omega) (by rw [take_map_succ _ _ 0 _ (by omega), ha])))
    rw [impl_BatchInverse.l0, if_pos (by omega), if_pos (by omega), if_pos (by omega), rd_natCast, wrap_small (by omega) (by omega)]
    congr 1
    funext t
    rw [if_pos (by omega)]
    rfl
theorem are_int_f (l : List Int) : are_int.f l = some (l.all okI) := by
  unfold are_int.f
  simp only [impl_FieldOK_f, Option.getD_some]
theorem impl_batch_ev (l : List Int) : Ev (fun k => impl_BatchInverse.f k l) (batch l) := by
  unfold impl_BatchInverse.f batch
  by_cases h : (l.length : Int) > 4096
  · exact ev_val (ev_pos h (Ev.now _)) (by rw [if_pos h])
  · rw [if_neg h]
    refine ev_neg h (ev_cbind (are_int_f l) ?_)
    by_cases ha : l.all okI = true
    · rw [if_neg (by simp [ha])]
      refine ev_pos ha (ev_bind (con0_ev l (by omega)) ?_)
      by_cases hz : l.any (· == 0) = true
      · rw [if_pos hz]
        exact ev_pos hz (Ev.now _)
      · rw [if_neg hz]
        exact ev_neg hz (impl_batch_l l (by omega) ha l.length [] 0 (by omega) (by simp))
    · rw [if_pos (by simpa using ha)]
      exact ev_neg ha (Ev.now _)
theorem batch_length (l : List Int) : (batch l).1.length ≤ 4096 := by
  unfold batch
  split
  · simp
  · split
    · simp
    · split
      · simp
      · simp; omega
end Go.Proofs.Ytnggbahcmhdjnaa.Pure
end
section
/- Fermat's theorem for the prime 2130706433, in plain numbers. -/
namespace Go.Proofs.Ytnggbahcmhdjnaa.FM

def P : Nat := 2130706433

def noDiv (n : Nat) : Nat → Nat → Bool
  | 0, lo => n % lo != 0
  | k + 1, lo => noDiv n k lo && noDiv n k (lo + 2 ^ k)

theorem noDiv_spec (n : Nat) : ∀ k lo, noDiv n k lo = true → ∀ d, lo ≤ d → d < lo + 2 ^ k → n % d ≠ 0
  | 0, lo, h, d, h1, h2 => by
    have : d = lo := by simp at h2; omega
    subst this
    simpa [noDiv] using h
  | k + 1, lo, h, d, h1, h2 => by
    simp only [noDiv, Bool.and_eq_true] at h
    by_cases hd : d < lo + 2 ^ k
    · exact noDiv_spec n k lo h.1 d h1 hd
    · exact noDiv_spec n k (lo + 2 ^ k) h.2 d (by omega) (by rw [Nat.pow_succ] at h2; omega)

theorem noDiv_P : noDiv P 16 2 = true := by decide +kernel

theorem P_prime (d : Nat) (h : d ∣ P) : d = 1 ∨ d = P := by
  have hpos : 0 < P := by decide
  obtain ⟨e, he⟩ := h
  have hd0 : 0 < d := by
    rcases Nat.eq_zero_or_pos d with h0 | h0
    · subst h0; simp at he; omega
    · exact h0
  have he0 : 0 < e := by
    rcases Nat.eq_zero_or_pos e with h0 | h0
    · subst h0; simp at he; omega
    · exact h0
  have key : ∀ x, 2 ≤ x → x < 65538 → P % x ≠ 0 := fun x h1 h2 => noDiv_spec P 16 2 noDiv_P x h1 (by omega)
  by_cases h1 : d = 1
  · exact .inl h1
  by_cases h2 : e = 1
  · right; rw [he, h2]; omega
  exfalso
  by_cases h3 : d < 65538
  · exact key d (by omega) h3 (by rw [he]; exact Nat.mul_mod_right d e)
  · by_cases h4 : e < 65538
    · exact key e (by omega) h4 (by rw [he]; exact Nat.mul_mod_left d e)
    · have : 65538 * 65538 ≤ d * e := Nat.mul_le_mul (by omega) (by omega)
      rw [← he] at this
      exact absurd this (by decide)

theorem P_coprime (a : Nat) (h : ¬ P ∣ a) : Nat.Coprime P a := by
  rcases P_prime (Nat.gcd P a) (Nat.gcd_dvd_left P a) with h1 | h1
  · exact h1
  · exact absurd (h1 ▸ Nat.gcd_dvd_right P a) h

theorem P_mul (a b : Nat) (h : P ∣ a * b) : P ∣ a ∨ P ∣ b := by
  by_cases ha : P ∣ a
  · exact .inl ha
  · exact .inr (Nat.Coprime.dvd_of_dvd_mul_left (P_coprime a ha) h)

/-! a list without repeats, below n -/
theorem nodup_le : ∀ (n : Nat) (l : List Nat), l.Nodup → (∀ x ∈ l, x < n) → l.length ≤ n
  | 0, l, _, h => by
    cases l with
    | nil => simp
    | cons a t => exact absurd (h a (by simp)) (by omega)
  | n + 1, l, hn, h => by
    by_cases hm : n ∈ l
    · have := nodup_le n (l.erase n) (hn.erase n) (fun x hx => by
        have h1 := (List.Nodup.mem_erase_iff hn).1 hx
        have := h x h1.2
        omega)
      rw [List.length_erase_of_mem hm] at this
      omega
    · have := nodup_le n l hn (fun x hx => by
        have := h x hx
        have : x ≠ n := fun e => hm (e ▸ hx)
        omega)
      omega

theorem nodup_perm : ∀ (n : Nat) (l : List Nat), l.Nodup → (∀ x ∈ l, x < n) → l.length = n → l.Perm (List.range n)
  | 0, l, _, _, h => by
    cases l with
    | nil => simp
    | cons a t => simp at h
  | n + 1, l, hn, h, hl => by
    have hm : n ∈ l := by
      refine Classical.byContradiction fun hm => ?_
      have := nodup_le n l hn (fun x hx => by
        have := h x hx
        have : x ≠ n := fun e => hm (e ▸ hx)
        omega)
      omega
    have ih := nodup_perm n (l.erase n) (hn.erase n) (fun x hx => by
        have h1 := (List.Nodup.mem_erase_iff hn).1 hx
        have := h x h1.2
        omega) (by rw [List.length_erase_of_mem hm]; omega)
    rw [List.range_succ]
    exact (List.perm_cons_erase hm).trans ((ih.cons n).trans (List.perm_append_singleton n (List.range n)).symm)

def prod (l : List Nat) : Nat := l.foldr (· * ·) 1
theorem prod_perm {l m : List Nat} (h : l.Perm m) : prod l = prod m := by
  induction h with
  | nil => rfl
  | cons x _ ih => simp only [prod, List.foldr] at *; rw [ih]
  | swap x y l => simp only [prod, List.foldr]; rw [Nat.mul_left_comm]
  | trans _ _ ih1 ih2 => exact ih1.trans ih2

theorem prod_map (p a : Nat) (l : List Nat) : prod (l.map fun x => a * x % p) % p = a ^ l.length * prod l % p := by
  induction l with
  | nil => simp [prod]
  | cons x t ih =>
    simp only [prod, List.map, List.foldr, List.length_cons] at *
    rw [Nat.mul_mod, ih, Nat.mod_mod, ← Nat.mul_mod, Nat.pow_succ]
    congr 1
    simp only [Nat.mul_comm, Nat.mul_left_comm, Nat.mul_assoc]

theorem prod_not (l : List Nat) (h : ∀ x ∈ l, ¬ P ∣ x) : ¬ P ∣ prod l := by
  induction l with
  | nil => simp only [prod, List.foldr]; decide
  | cons x t ih =>
    intro hd
    rcases P_mul _ _ hd with h1 | h1
    · exact h x (by simp) h1
    · exact ih (fun y hy => h y (by simp [hy])) h1

/-- Fermat's theorem -/
theorem fermat (a : Nat) (h : ¬ P ∣ a) : a ^ (P - 1) % P = 1 := by
  have hp2 : 2 ≤ P := by decide
  generalize hl : (List.range (P - 1)).map (· + 1) = l
  have hlen : l.length = P - 1 := by rw [← hl]; simp
  have hmem : ∀ x, x ∈ l ↔ 1 ≤ x ∧ x < P := by
    intro x
    rw [← hl, List.mem_map]
    constructor
    · rintro ⟨y, hy, rfl⟩
      have := List.mem_range.1 hy
      omega
    · intro hx
      exact ⟨x - 1, List.mem_range.2 (by omega), by omega⟩
  have hnd : l.Nodup := by
    rw [← hl]
    refine List.Pairwise.map _ (fun a b hab => ?_) List.nodup_range
    omega
  have hndv : ∀ x ∈ l, ¬ P ∣ x := fun x hx hd => by
    have := (hmem x).1 hx
    have := Nat.le_of_dvd (by omega) hd
    omega
  have hinj : ∀ x ∈ l, ∀ y ∈ l, a * x % P = a * y % P → x = y := by
    have aux : ∀ x y, x ∈ l → y ∈ l → x ≤ y → a * x % P = a * y % P → x = y := by
      intro x y hx hy hxy he
      have hd : P ∣ a * (y - x) := by
        rw [Nat.mul_sub]
        exact Nat.dvd_of_mod_eq_zero (Nat.sub_mod_eq_zero_of_mod_eq he.symm)
      rcases P_mul _ _ hd with h1 | h1
      · exact absurd h1 h
      · have hy' := (hmem y).1 hy
        have hx' := (hmem x).1 hx
        rcases Nat.eq_zero_or_pos (y - x) with h0 | h0
        · omega
        · have := Nat.le_of_dvd h0 h1
          omega
    intro x hx y hy he
    rcases Nat.le_total x y with hle | hle
    · exact aux x y hx hy hle he
    · exact (aux y x hy hx hle he.symm).symm
  -- the residues, less one, are a permutation of the range
  have hpos : ∀ x ∈ l, 1 ≤ a * x % P := by
    intro x hx
    rcases Nat.eq_zero_or_pos (a * x % P) with h0 | h0
    · rcases P_mul _ _ (Nat.dvd_of_mod_eq_zero h0) with h1 | h1
      · exact absurd h1 h
      · exact absurd h1 (hndv x hx)
    · exact h0
  have hperm : (l.map fun x => a * x % P - 1).Perm (List.range (P - 1)) := by
    refine nodup_perm (P - 1) _ ?_ ?_ (by rw [List.length_map, hlen])
    · rw [List.Nodup, List.pairwise_map]
      refine List.Pairwise.imp_of_mem (R := (· ≠ ·)) (fun {x y} hx hy hxy he => hxy (hinj x hx y hy ?_)) hnd
      have := hpos x hx
      have := hpos y hy
      omega
    · intro z hz
      obtain ⟨x, hx, rfl⟩ := List.mem_map.1 hz
      have := hpos x hx
      have := Nat.mod_lt (a * x) (show 0 < P by omega)
      omega
  have hperm2 : (l.map fun x => a * x % P).Perm l := by
    have h1 := hperm.map (· + 1)
    rw [hl, List.map_map] at h1
    refine (List.Perm.of_eq ?_).trans h1
    refine List.map_congr_left fun x hx => ?_
    have := hpos x hx
    simp only [Function.comp]
    omega
  have hprod := prod_map P a l
  rw [prod_perm hperm2, hlen] at hprod
  have h1 : 1 ≤ a ^ (P - 1) := Nat.one_le_iff_ne_zero.2 fun h0 => by
    have hpw : ¬ P ∣ a ^ (P - 1) := by
      have : ∀ n, ¬ P ∣ a ^ n := by
        intro n
        induction n with
        | zero => rw [Nat.pow_zero]; decide
        | succ n ih =>
          intro hd
          rw [Nat.pow_succ] at hd
          rcases P_mul _ _ hd with h1 | h1
          · exact ih h1
          · exact h h1
      exact this _
    exact hpw (h0 ▸ Nat.dvd_zero P)
  have hd : P ∣ prod l * (a ^ (P - 1) - 1) := by
    rw [Nat.mul_sub, Nat.mul_one, Nat.mul_comm]
    exact Nat.dvd_of_mod_eq_zero (Nat.sub_mod_eq_zero_of_mod_eq hprod.symm)
  rcases P_mul _ _ hd with h2 | h2
  · exact absurd h2 (prod_not l hndv)
  · obtain ⟨c, hc⟩ := h2
    have : a ^ (P - 1) = 1 + P * c := by omega
    rw [this, Nat.add_mul_mod_self_left]; decide


/-- The same of whole numbers below the prime. -/
theorem fermatI {a : Int} (h0 : 0 < a) (h1 : a < 2130706433) : a ^ 2130706432 % 2130706433 = 1 := by
  obtain ⟨n, rfl⟩ := Int.eq_ofNat_of_zero_le (show 0 ≤ a by omega)
  have h := fermat n (fun hd => by
    have := Nat.le_of_dvd (by omega) hd
    have e : P = 2130706433 := rfl
    omega)
  rw [show P - 1 = 2130706432 from rfl] at h
  generalize 2130706432 = k at h ⊢
  rw [show P = 2130706433 from rfl] at h
  rw [← Int.natCast_pow]
  omega
end Go.Proofs.Ytnggbahcmhdjnaa.FM
end
section
/- The law FnPowers; no conditions. -/
namespace Go.Proofs.Ytnggbahcmhdjnaa.Pure
open Go.RowKit Go.Proofs.Ytnggbahcmhdjnaa.Print Go.Proofs.YtnggbahcmhdjnaaW.PrintWords Go.Proofs.YtnggbahcmhdjnaaW.PrintLast
set_option linter.unusedSimpArgs false
set_option linter.unusedVariables false

theorem byte_range {x : Int} (h : (Lit.int .u8 x).wf = true) : 0 ≤ x ∧ x ≤ 255 := by
  simp [Lit.wf, IntKind.min, IntKind.max, IntKind.signed, IntKind.bits] at h
  omega
theorem rd_range (l : List Int) (hl : ∀ x ∈ l, 0 ≤ x ∧ x ≤ 255) (i : Int) : 0 ≤ rd l i ∧ rd l i ≤ 255 := by
  unfold rd
  rw [List.getD_eq_getElem?_getD]
  by_cases h : i.toNat < l.length
  · rw [List.getElem?_eq_getElem h]
    exact hl _ (List.getElem_mem h)
  · rw [List.getElem?_eq_none (by omega)]
    simp
/-- A choice out of n that some bytes make. -/
theorem at_f (l : List Int) (i n : Int) (hl : ∀ x ∈ l, 0 ≤ x ∧ x ≤ 255) (hn : (l.length : Int) ≤ 1048576) (h0 : 0 ≤ i) (h1 : i ≤ 1000) (h2 : 1 < n) (h3 : n ≤ 1000) : ∃ t, laws_at.f l i n = some t ∧ 0 ≤ t ∧ t < n := by
  unfold laws_at.f
  rw [if_neg (by omega)]
  by_cases hz : (l.length : Int) = 0
  · rw [if_pos hz, if_neg (by omega), show wrap64 (i * 7) = i * 7 by unfold wrap64; omega, Int.tmod_eq_emod_of_nonneg (by omega)]
    exact ⟨_, rfl, Int.emod_nonneg _ (by omega), Int.emod_lt_of_pos _ (by omega)⟩
  · rw [if_neg hz, Int.tmod_eq_emod_of_nonneg h0]
    have e1 : wrap64 (i + 1) = i + 1 := by unfold wrap64; omega
    rw [e1, Int.tmod_eq_emod_of_nonneg (show (0 : Int) ≤ i + 1 by omega)]
    have p1 := Int.emod_nonneg i hz
    have p2 := Int.emod_lt_of_pos i (show (0 : Int) < (l.length : Int) by omega)
    have p3 := Int.emod_nonneg (i + 1) hz
    have p4 := Int.emod_lt_of_pos (i + 1) (show (0 : Int) < (l.length : Int) by omega)
    rw [if_pos p1, if_pos p2, if_pos p3, if_pos p4, if_neg (by omega), Int.tdiv_eq_ediv_of_nonneg h0]
    have r1 := rd_range l hl (i % (l.length : Int))
    have r2 := rd_range l hl ((i + 1) % (l.length : Int))
    have q1 : 0 ≤ i / (l.length : Int) := Int.ediv_nonneg h0 (by omega)
    have q2 : i / (l.length : Int) ≤ i := Int.ediv_le_self _ h0
    generalize rd l (i % (l.length : Int)) = x at r1
    generalize rd l ((i + 1) % (l.length : Int)) = y at r2
    generalize i / (l.length : Int) = z at q1 q2
    have e2 : wrap64 (wrap64 (wrap64 (wrap64 x * 31) + wrap64 y) + wrap64 z) = x * 31 + y + z := by unfold wrap64; omega
    rw [e2, Int.tmod_eq_emod_of_nonneg (by omega)]
    exact ⟨_, rfl, Int.emod_nonneg _ (by omega), Int.emod_lt_of_pos _ (by omega)⟩


theorem laws_sameInts_l (x0 : List (Int)) (hn : x0.length ≤ 1000000000) (d : Nat) : ∀ (i : Nat), i + d = x0.length → Ev (fun k => laws_sameInts.l0 k x0 x0 (i : Int)) true := by
  induction d with
  | zero =>
    intro i hi
    exact Ev.step (f := fun _ => some true) (fun k => by rw [laws_sameInts.l0, if_neg (by omega)]) (Ev.now _)
  | succ d ih =>
    intro i hi
    refine Ev.step (fun k => ?_) (ih (i + 1) (by omega))
    rw [laws_sameInts.l0, if_pos (by omega), if_pos (by omega), if_pos (by omega)]
    rw [if_pos rfl, wrap_small (by omega) (by omega)]
    rfl
theorem laws_sameInts_ev (x0 : List (Int)) (hn : x0.length ≤ 1000000000) : Ev (fun k => laws_sameInts.f k x0 x0) true := by
  refine Ev.congr (fun k => ?_) (laws_sameInts_l x0 hn x0.length 0 (by omega))
  unfold laws_sameInts.f
  rw [if_pos rfl]
  rfl
theorem okI_in {a : Int} (h0 : 0 ≤ a) (h1 : a < 2130706433) : okI a = true := by
  unfold okI
  simp only [Bool.and_eq_true, decide_eq_true_eq]
  omega
theorem impl_MulF {a b : Int} (ha0 : 0 ≤ a) (ha : a < 2130706433) (hb0 : 0 ≤ b) (hb : b < 2130706433) : impl_Mul.f a b = some (a * b % 2130706433, 0) := by
  unfold impl_Mul.f two_mul.f
  rw [impl_FieldOK_f, impl_FieldOK_f, impl_mul_f ha0 ha hb0 hb, okI_in ha0 ha, okI_in hb0 hb]
  rfl
theorem FieldOf_ev (c : List Int) (hc : ∀ x ∈ c, 0 ≤ x ∧ x ≤ 255) : ∃ v, Ev (fun k => spec_FieldOf.f k c) v ∧ 0 ≤ v ∧ v < 2130706433 := by
  obtain ⟨v, h, h0, h1⟩ := FieldOf_f c hc 6 (by omega)
  exact ⟨v, Ev.of (k := 6) (spec_FieldOf.mono c) h, h0, h1⟩
theorem Pow_ev {a n : Int} (a0 : 0 ≤ a) (a1 : a < 2130706433) (n0 : 0 ≤ n) (n1 : n ≤ 9223372036854775807) : Ev (fun k => impl_Pow.f k a n) (a ^ n.toNat % 2130706433, 0) := by
  unfold impl_Pow.f
  refine ev_cbind (impl_FieldOK_f _) (ev_pos (okI_in a0 a1) (ev_neg (by omega) (ev_bind (Ev.of (k := 0 + 64) (impl_pow.mono a n) (impl_Pow 0 a0 a1 n0 n1)) (Ev.now _))))
theorem pow_pred {a : Int} (h0 : 0 ≤ a) (h1 : a < 2130706433) : a ^ (2130706432 : Int).toNat % 2130706433 = if a = 0 then 0 else 1 := by
  rw [show (2130706432 : Int).toNat = 2130706432 from rfl]
  by_cases z : a = 0
  · have hz : (2130706432 : Nat) = 2130706431 + 1 := rfl
    rw [if_pos z, z, hz, Int.pow_succ, Int.mul_zero]
    rfl
  · rw [if_neg z]
    exact FM.fermatI (by omega) h1
theorem inv_one : invI 1 = 1 := by
  unfold invI
  rw [Int.one_pow]
  rfl
theorem inv_last : invI 2130706432 = 2130706432 := by
  unfold invI
  have hz : (2130706431 : Nat) = 2 * 1065353215 + 1 := rfl
  rw [hz, Int.pow_succ, Int.pow_mul, Int.mul_emod, ← pow_mod, show (2130706432 : Int) ^ 2 % 2130706433 = 1 by decide, Int.one_pow]
  rfl
theorem FnPowers : laws_FnPowers.Pure := by
  intro l m _ _ hl _ _ hm
  refine Ev.rounds (g := fun k => laws_FnPowers.f k l m) ?_
  unfold laws_FnPowers.f
  have big : Ev (fun k => laws_FnPowers.j0 k l m true) true := Ev.step (f := fun _ => some true) (fun k => by rw [laws_FnPowers.j0, if_pos rfl]) (Ev.now _)
  by_cases g1 : (l.length : Int) > 1048576
  · exact ev_pos g1 big
  · refine ev_neg g1 ?_
    by_cases g2 : (m.length : Int) > 1048576
    · rw [decide_eq_true g2]; exact big
    · rw [decide_eq_false g2]
      refine Ev.step (fun k => by rw [laws_FnPowers.j0, if_neg (by decide)]) ?_
      obtain ⟨a, ha, a0, a1⟩ := FieldOf_ev l (fun x hx => byte_range (hl x hx))
      obtain ⟨t, ht, t0, t1⟩ := at_f m 0 60 (fun x hx => byte_range (hm x hx)) (by omega) (by omega) (by omega) (by omega) (by omega)
      obtain ⟨s, hs, s0, s1⟩ := at_f m 1 60 (fun x hx => byte_range (hm x hx)) (by omega) (by omega) (by omega) (by omega) (by omega)
      refine ev_bind ha (ev_cbind ht (ev_cbind hs ?_))
      rw [show wrap64 (t + s) = t + s by unfold wrap64; omega]
      refine ev_bind (Pow_ev a0 a1 t0 (by omega)) (ev_bind (Pow_ev a0 a1 s0 (by omega)) (ev_bind (Pow_ev a0 a1 (show 0 ≤ t + s by omega) (by omega)) ?_))
      have b1 := mod_lt (a ^ t.toNat)
      have b2 := mod_lt (a ^ s.toNat)
      have e : a ^ (t + s).toNat % 2130706433 = a ^ t.toNat % 2130706433 * (a ^ s.toNat % 2130706433) % 2130706433 := by
        rw [← Int.mul_emod, ← Int.pow_add, Int.toNat_add t0 s0]
      refine ev_cbind (impl_MulF b1.1 b1.2 b2.1 b2.2) (ev_pos rfl (ev_pos rfl (ev_pos rfl (ev_pos rfl ?_))))
      rw [← e]
      simp only [bne_self_eq_false]
      refine Ev.step (fun k => by rw [laws_FnPowers.j1, if_neg (by decide)]) ?_
      refine ev_bind (ev_val (Pow_ev a0 a1 (show (0 : Int) ≤ 2130706432 by omega) (by omega)) (by rw [pow_pred a0 a1])) (ev_pos rfl ?_)
      by_cases z : a = 0
      · simp only [if_pos z]
        refine ev_neg (by omega) (ev_pos (by first | trivial | rfl) ?_)
        exact Ev.step (f := fun _ => some true) (fun k => by rw [laws_FnPowers.j2, if_neg (by decide), if_pos z]) (Ev.now _)
      · simp only [if_neg z]
        refine ev_pos (by first | trivial | rfl) (ev_neg (by omega) ?_)
        rw [show (a == 0) = false from beq_eq_false_iff_ne.2 z]
        refine Ev.step (fun k => by rw [laws_FnPowers.j2, if_neg (by decide), if_neg z]) ?_
        have hB : batch [a, 1, 2130706432, a] = ([invI a, 1, 2130706432, invI a], 0) := by
          unfold batch
          rw [if_neg (by simp), if_neg (by simp [okI_in a0 a1, okI_in (show (0 : Int) ≤ 1 by omega) (by omega), okI_in (show (0 : Int) ≤ 2130706432 by omega) (by omega)]), if_neg (by simp [z])]
          rw [List.map_cons, List.map_cons, List.map_cons, List.map_cons, List.map_nil, inv_one, inv_last]
        refine ev_cbind rfl (ev_bind (ev_val (impl_batch_ev _) hB) (ev_bind (ev_val (spec_batch_ev _) hB) (ev_pos rfl (ev_bind (laws_sameInts_ev _ (by simp)) (ev_pos rfl ?_)))))
        exact ev_pos (by simp) (ev_pos (by simp) (ev_pos rfl (ev_pos (by simp) (ev_pos rfl (ev_pos (by simp) (Ev.now _))))))

end Go.Proofs.Ytnggbahcmhdjnaa.Pure
end
