-- Packed by a program of this session (slim.py): the plain laws that FnField needs.
import Derived.Test.YtnggbahcmhdjnaaQFnField0
import Derived.Test.YtnggbahcmhdjnaaQFnField1
import Derived.Test.YtnggbahcmhdjnaaPrint0
section
/- Plain laws on the field's functions: what sums, products and powers come to. Numbers alone. -/
namespace Go.Proofs.Ytnggbahcmhdjnaa.Pure
open Go.RowKit Go.Proofs.Ytnggbahcmhdjnaa.Print Go.Proofs.YtnggbahcmhdjnaaW.PrintWords Go.Proofs.YtnggbahcmhdjnaaW.PrintLast

theorem wf_i64 {x : Int} (h : (Lit.int .i64 x).wf = true) : -9223372036854775808 ≤ x ∧ x ≤ 9223372036854775807 := by
  have h' : IntKind.i64.min ≤ x ∧ x ≤ 9223372036854775807 := by simpa [Lit.wf] using h
  have e : IntKind.i64.min = -9223372036854775808 := by decide
  omega

def okI (a : Int) : Bool := decide (0 ≤ a ∧ a ≤ 2130706432)

theorem okI_true {a : Int} (h : okI a = true) : 0 ≤ a ∧ a < 2130706433 := by
  have := of_decide_eq_true h
  omega

theorem spec_in_f (a b c : Int) : spec_l01In.f a b c = some (decide (b ≤ a ∧ a ≤ c)) := by
  unfold spec_l01In.f
  by_cases h : b ≤ a
  · rw [if_pos h]; simp [h]
  · rw [if_neg h]; simp [h]

theorem impl_in_f (a b c : Int) : impl_in.f a b c = some (decide (b ≤ a ∧ a ≤ c)) := by
  unfold impl_in.f
  by_cases h : b ≤ a
  · rw [if_pos h]; simp [h]
  · rw [if_neg h]; simp [h]

theorem spec_FieldOK_f (a : Int) : spec_FieldOK.f a = some (okI a) := by
  unfold spec_FieldOK.f
  rw [spec_in_f]; rfl

theorem impl_FieldOK_f (a : Int) : impl_FieldOK.f a = some (okI a) := by
  unfold impl_FieldOK.f
  rw [impl_in_f]; rfl

theorem mul_bd {a b : Int} (ha0 : 0 ≤ a) (ha : a < 2130706433) (hb0 : 0 ≤ b) (hb : b < 2130706433) : 0 ≤ a * b ∧ a * b ≤ 4539909899366170624 := by
  refine ⟨Int.mul_nonneg ha0 hb0, ?_⟩
  have := Int.mul_le_mul (show a ≤ 2130706432 by omega) (show b ≤ 2130706432 by omega) hb0 (by omega)
  omega

theorem mul_mod {a b : Int} (ha0 : 0 ≤ a) (ha : a < 2130706433) (hb0 : 0 ≤ b) (hb : b < 2130706433) : Int.tmod (wrap64 (a * b)) 2130706433 = a * b % 2130706433 := by
  have h := mul_bd ha0 ha hb0 hb
  generalize a * b = c at h ⊢
  rw [show wrap64 c = c by unfold wrap64; omega]
  exact Int.tmod_eq_emod_of_nonneg h.1

theorem mod_lt (c : Int) : 0 ≤ c % 2130706433 ∧ c % 2130706433 < 2130706433 := by omega

theorem impl_mul_f {a b : Int} (ha0 : 0 ≤ a) (ha : a < 2130706433) (hb0 : 0 ≤ b) (hb : b < 2130706433) : impl_mul.f a b = some (a * b % 2130706433) := by
  unfold impl_mul.f; rw [mul_mod ha0 ha hb0 hb]
theorem spec_mul_f {a b : Int} (ha0 : 0 ≤ a) (ha : a < 2130706433) (hb0 : 0 ≤ b) (hb : b < 2130706433) : spec_l01Mul.f a b = some (a * b % 2130706433) := by
  unfold spec_l01Mul.f; rw [mul_mod ha0 ha hb0 hb]
theorem add_mod {a b : Int} (ha0 : 0 ≤ a) (ha : a < 2130706433) (hb0 : 0 ≤ b) (hb : b < 2130706433) : Int.tmod (wrap64 (a + b)) 2130706433 = (a + b) % 2130706433 := by
  rw [show wrap64 (a + b) = a + b by unfold wrap64; omega]
  exact Int.tmod_eq_emod_of_nonneg (by omega)
theorem impl_add_f {a b : Int} (ha0 : 0 ≤ a) (ha : a < 2130706433) (hb0 : 0 ≤ b) (hb : b < 2130706433) : impl_add.f a b = some ((a + b) % 2130706433) := by
  unfold impl_add.f; rw [add_mod ha0 ha hb0 hb]
theorem spec_add_f {a b : Int} (ha0 : 0 ≤ a) (ha : a < 2130706433) (hb0 : 0 ≤ b) (hb : b < 2130706433) : spec_l01Add.f a b = some ((a + b) % 2130706433) := by
  unfold spec_l01Add.f; rw [add_mod ha0 ha hb0 hb]
theorem impl_sub_f {a b : Int} (ha0 : 0 ≤ a) (ha : a < 2130706433) (hb0 : 0 ≤ b) (hb : b < 2130706433) : impl_sub.f a b = some ((a - b) % 2130706433) := by
  unfold impl_sub.f
  rw [show wrap64 (wrap64 (a - b) + 2130706433) = a - b + 2130706433 by unfold wrap64; omega, Int.tmod_eq_emod_of_nonneg (by omega)]
  congr 1; omega
theorem spec_sub_f {a b : Int} (ha0 : 0 ≤ a) (ha : a < 2130706433) (hb0 : 0 ≤ b) (hb : b < 2130706433) : spec_l01Sub.f a b = some ((a - b) % 2130706433) := by
  unfold spec_l01Sub.f
  rw [show wrap64 (wrap64 (a + 2130706433) - b) = a - b + 2130706433 by unfold wrap64; omega, Int.tmod_eq_emod_of_nonneg (by omega)]
  congr 1; omega

/-! powers -/
theorem pow_mod (a m : Int) (n : Nat) : (a % m) ^ n % m = a ^ n % m := by
  induction n with
  | zero => rw [Int.pow_zero, Int.pow_zero]
  | succ n ih => rw [Int.pow_succ, Int.pow_succ, Int.mul_emod, ih, Int.emod_emod, ← Int.mul_emod]

theorem pow_even (x r m : Int) (j : Nat) : r * (x * x % m) ^ j % m = r * x ^ (2 * j) % m := by
  rw [Int.mul_emod, pow_mod, ← Int.mul_emod, Int.pow_mul, Int.pow_succ, Int.pow_succ, Int.pow_zero, Int.one_mul]

theorem pow_odd (x r m : Int) (j : Nat) : (r * x % m) * (x * x % m) ^ j % m = r * x ^ (2 * j + 1) % m := by
  rw [pow_even, Int.mul_emod, Int.emod_emod, ← Int.mul_emod, Int.pow_succ]
  congr 1
  rw [Int.mul_assoc, Int.mul_comm x]

theorem spec_pow_f (k : Nat) : ∀ (x n r : Int), 0 ≤ x → x < 2130706433 → 0 ≤ r → r < 2130706433 → 0 ≤ n → n < 2 ^ k → n ≤ 9223372036854775807 → spec_l01Pow.l0 (k + 1) x n r = some (r * x ^ n.toNat % 2130706433) := by
  induction k with
  | zero =>
    intro x n r h0 h1 h2 h3 h4 h5 h6
    have : n = 0 := by simp at h5; omega
    subst this
    simp only [spec_l01Pow.l0]
    rw [if_neg (by omega)]
    simp
    omega
  | succ k ih =>
    intro x n r h0 h1 h2 h3 h4 h5 h6
    rw [spec_l01Pow.l0]
    by_cases hn : n > 0
    · rw [if_pos hn]
      have hd : wrap64 (Int.tdiv n 2) = n / 2 := by
        rw [Int.tdiv_eq_ediv_of_nonneg (by omega)]; unfold wrap64; omega
      have hm : Int.tmod n 2 = n % 2 := Int.tmod_eq_emod_of_nonneg (by omega)
      have hlt : n / 2 < 2 ^ k := by rw [Int.pow_succ] at h5; omega
      rw [hd, hm, spec_mul_f h2 h3 h0 h1, spec_mul_f h0 h1 h0 h1]
      simp only [Option.bind_some]
      have b1 := mod_lt (r * x)
      have b2 := mod_lt (x * x)
      by_cases ho : n % 2 = 1
      · rw [if_pos ho, ih _ _ _ b2.1 b2.2 b1.1 b1.2 (by omega) hlt (by omega), pow_odd]
        rw [show 2 * (n / 2).toNat + 1 = n.toNat by omega]
      · rw [if_neg ho, ih _ _ _ b2.1 b2.2 h2 h3 (by omega) hlt (by omega), pow_even]
        rw [show 2 * (n / 2).toNat = n.toNat by omega]
    · rw [if_neg hn]
      have : n = 0 := by omega
      subst this
      simp
      omega

theorem and_one_i64 (n : Int) (h0 : 0 ≤ n) (h1 : n ≤ 9223372036854775807) : Go.bits .and .i64 n 1 = n % 2 := by
  have h := bits_mask .i64 63 (by decide) (fun n h0 h1 => by rw [show (2 : Int) ^ 63 = 9223372036854775808 by decide] at h1; rw [IntKind.wrap_i64]; omega) 1 (by decide) n h0 (by rw [show (2 : Int) ^ 63 = 9223372036854775808 by decide]; omega)
  rw [show ((2 : Int) ^ 1 - 1) = 1 by decide, show ((2 : Int) ^ 1) = 2 by decide] at h
  exact h

theorem impl_pow_f (k : Nat) : ∀ (x n r : Int), 0 ≤ x → x < 2130706433 → 0 ≤ r → r < 2130706433 → 0 ≤ n → n < 2 ^ k → n ≤ 9223372036854775807 → impl_pow.l0 (k + 1) x n r = some (r * x ^ n.toNat % 2130706433) := by
  induction k with
  | zero =>
    intro x n r h0 h1 h2 h3 h4 h5 h6
    have : n = 0 := by simp at h5; omega
    subst this
    simp only [impl_pow.l0]
    rw [if_neg (by omega)]
    simp
    omega
  | succ k ih =>
    intro x n r h0 h1 h2 h3 h4 h5 h6
    rw [impl_pow.l0]
    by_cases hn : n > 0
    · rw [if_pos hn]
      have hlt : n / 2 < 2 ^ k := by rw [Int.pow_succ] at h5; omega
      rw [and_one_i64 n h4 h6, impl_mul_f h2 h3 h0 h1, impl_mul_f h0 h1 h0 h1]
      simp only [Option.bind_some]
      have b1 := mod_lt (r * x)
      have b2 := mod_lt (x * x)
      by_cases ho : n % 2 = 1
      · rw [if_pos ho, ih _ _ _ b2.1 b2.2 b1.1 b1.2 (by omega) hlt (by omega), pow_odd]
        rw [show 2 * (n / 2).toNat + 1 = n.toNat by omega]
      · rw [if_neg ho, ih _ _ _ b2.1 b2.2 h2 h3 (by omega) hlt (by omega), pow_even]
        rw [show 2 * (n / 2).toNat = n.toNat by omega]
    · rw [if_neg hn]
      have : n = 0 := by omega
      subst this
      simp
      omega

theorem pow63 : (2 : Int) ^ 63 = 9223372036854775808 := by decide
/-- 64 rounds and more serve every exponent. -/
theorem spec_Pow (k : Nat) {x n : Int} (h0 : 0 ≤ x) (h1 : x < 2130706433) (h4 : 0 ≤ n) (h6 : n ≤ 9223372036854775807) : spec_l01Pow.f (k + 64) x n = some (x ^ n.toNat % 2130706433) := by
  unfold spec_l01Pow.f
  have h := spec_pow_f 63 x n 1 h0 h1 (by omega) (by omega) h4 (by rw [pow63]; omega) h6
  rw [Int.one_mul] at h
  exact at_rounds (g := fun k => spec_l01Pow.f k x n) (spec_l01Pow.mono x n) (by omega) h
theorem impl_Pow (k : Nat) {x n : Int} (h0 : 0 ≤ x) (h1 : x < 2130706433) (h4 : 0 ≤ n) (h6 : n ≤ 9223372036854775807) : impl_pow.f (k + 64) x n = some (x ^ n.toNat % 2130706433) := by
  unfold impl_pow.f
  have h := impl_pow_f 63 x n 1 h0 h1 (by omega) (by omega) h4 (by rw [pow63]; omega) h6
  rw [Int.one_mul] at h
  exact at_rounds (g := fun k => impl_pow.f k x n) (impl_pow.mono x n) (by omega) h

end Go.Proofs.Ytnggbahcmhdjnaa.Pure
end
section
/- Plain lemmas on lists and rounds. -/
namespace Go.Proofs.Ytnggbahcmhdjnaa.Pure
open Go.RowKit Go.Proofs.Ytnggbahcmhdjnaa.Print Go.Proofs.YtnggbahcmhdjnaaW.PrintWords Go.Proofs.YtnggbahcmhdjnaaW.PrintLast

theorem take_set {α : Type} (l : List α) (i : Nat) (v : α) (h : i < l.length) : (l.set i v).take (i + 1) = l.take i ++ [v] := by
  rw [List.take_succ_eq_append_getElem (by simpa using h)]
  rw [List.take_set_of_le (Nat.le_refl i)]
  simp
theorem take_map_succ {α β : Type} (f : α → β) (l : List α) (z : α) (i : Nat) (h : i < l.length) : (l.map f).take (i + 1) = (l.map f).take i ++ [f (l.getD i z)] := by
  rw [List.take_succ_eq_append_getElem (by simpa using h)]
  simp [List.getD_eq_getElem?_getD, List.getElem?_eq_getElem h]
theorem wrap_small {x : Int} (h0 : -9223372036854775808 ≤ x) (h1 : x ≤ 9223372036854775807) : wrap64 x = x := by unfold wrap64; omega
theorem ev_val {α : Type} {g : Nat → Option α} {a b : α} (h : Ev g a) (e : a = b) : Ev g b := e ▸ h
theorem ev_bind {α β : Type} {g : Nat → Option α} {f : Nat → α → Option β} {a : α} {r : β} (h : Ev g a) (k : Ev (fun n => f n a) r) : Ev (fun n => (g n).bind (f n)) r := Ev.bind h k
theorem ev_const {α : Type} {o : Option α} {r : α} (h : o = some r) : Ev (fun _ => o) r := by subst h; exact Ev.now r
theorem ev_cbind {α β : Type} {o : Option α} {f : Nat → α → Option β} {a : α} {r : β} (h : o = some a) (k : Ev (fun n => f n a) r) : Ev (fun n => o.bind (f n)) r := by subst h; exact k
theorem ev_pos {α : Type} {c : Prop} [Decidable c] {g f : Nat → Option α} {r : α} (h : c) (k : Ev g r) : Ev (fun n => if c then g n else f n) r := by simpa only [if_pos h] using k
theorem ev_neg {α : Type} {c : Prop} [Decidable c] {g f : Nat → Option α} {r : α} (h : ¬ c) (k : Ev f r) : Ev (fun n => if c then g n else f n) r := by simpa only [if_neg h] using k
theorem rd_natCast (xs : List Int) (i : Nat) : rd xs (i : Int) = xs.getD i 0 := by simp [rd]
end Go.Proofs.Ytnggbahcmhdjnaa.Pure
end
section
/- Plain laws on drawn numbers: each draw ends, and lies in its range. Numbers alone. -/
namespace Go.Proofs.Ytnggbahcmhdjnaa.Pure
open Go.RowKit Go.Proofs.Ytnggbahcmhdjnaa.Print Go.Proofs.YtnggbahcmhdjnaaW.PrintWords Go.Proofs.YtnggbahcmhdjnaaW.PrintLast
set_option linter.unusedVariables false

theorem byteI_range {x : Int} (h : (Lit.int .u8 x).wf = true) : 0 ≤ x ∧ x ≤ 255 := by
  simp [Lit.wf, IntKind.min, IntKind.max, IntKind.signed, IntKind.bits] at h
  omega
theorem rdB_range (l : List Int) (hl : ∀ x ∈ l, 0 ≤ x ∧ x ≤ 255) (i : Int) : 0 ≤ rd l i ∧ rd l i ≤ 255 := by
  unfold rd
  rw [List.getD_eq_getElem?_getD]
  by_cases h : i.toNat < l.length
  · rw [List.getElem?_eq_getElem h]
    exact hl _ (List.getElem_mem h)
  · rw [List.getElem?_eq_none (by omega)]
    simp
/-- A drawn source's numbers: how many draws, at most n; the seed. -/
structure Src (n at_ seed : Int) : Prop where
  a0 : 0 ≤ at_
  a1 : at_ ≤ n
  s0 : 0 ≤ seed
  s1 : seed ≤ 2147483647
theorem Src.up {n m a s : Int} (h : Src n a s) (hn : n ≤ m) : Src m a s := ⟨h.a0, Int.le_trans h.a1 hn, h.s0, h.s1⟩
theorem byte_f (c : List Int) (hc : ∀ x ∈ c, 0 ≤ x ∧ x ≤ 255) {n a s : Int} (h : Src n a s) (hn : n ≤ 1000000) : ∃ v a' s', spec_l00Src_byte.f c a s = some (v, a', s') ∧ 0 ≤ v ∧ v ≤ 255 ∧ Src (n + 1) a' s' := by
  have h0 := h.a0; have h1 := h.a1; have h2 := h.s0; have h3 := h.s1
  unfold spec_l00Src_byte.f
  rw [if_pos (by omega)]
  by_cases hl : a < (c.length : Int)
  · have hr := rdB_range c hc a
    rw [if_pos hl, if_pos hr]
    exact ⟨_, _, _, rfl, hr.1, hr.2, by omega, by omega, by omega, by omega⟩
  · rw [if_neg hl]
    by_cases h4 : 3000 < a + 1
    · rw [if_pos h4]
      exact ⟨_, _, _, rfl, by omega, by omega, by omega, by omega, by omega, by omega⟩
    · rw [if_neg h4]
      exact ⟨_, _, _, rfl, by omega, by omega, by omega, by omega, by omega, by omega⟩
/-- One of 0 to m - 1. -/
theorem next_f (c : List Int) (hc : ∀ x ∈ c, 0 ≤ x ∧ x ≤ 255) {n a s : Int} (h : Src n a s) (hn : n ≤ 1000000) (m : Int) (h1 : 1 < m) (h2 : m ≤ 256) : ∃ v a' s', spec_l00Src_next.f c a s m = some (v, a', s') ∧ 0 ≤ v ∧ v < m ∧ Src (n + 1) a' s' := by
  obtain ⟨v, a', s', hb, h3, h4, h5⟩ := byte_f c hc h hn
  unfold spec_l00Src_next.f
  rw [if_neg (by omega), if_pos h2, hb]
  simp only [Option.bind_some]
  rw [if_neg (by omega), Int.tmod_eq_emod_of_nonneg h3]
  exact ⟨_, _, _, rfl, Int.emod_nonneg _ (by omega), Int.emod_lt_of_pos _ (by omega), h5⟩
theorem field_l (c : List Int) (hc : ∀ x ∈ c, 0 ≤ x ∧ x ≤ 255) (d : Nat) : ∀ (k : Nat) (x i n a s : Int), 0 ≤ i → i + d = 5 → d < k → 0 ≤ x → x < 2130706433 → Src n a s → n + (d : Int) ≤ 999990 → ∃ v a' s', spec_l00Src_field.l0 k x i c a s = some (v, a', s') ∧ 0 ≤ v ∧ v < 2130706433 ∧ Src (n + d) a' s' := by
  induction d with
  | zero =>
    intro k x i n a s hi hd hk hx hx1 h hn
    obtain ⟨k, rfl⟩ : ∃ m, k = m + 1 := ⟨k - 1, by omega⟩
    exact ⟨x, a, s, by rw [spec_l00Src_field.l0, if_neg (by omega)], hx, hx1, h.up (by omega)⟩
  | succ d ih =>
    intro k x i n a s hi hd hk hx hx1 h hn
    obtain ⟨k, rfl⟩ : ∃ m, k = m + 1 := ⟨k - 1, by omega⟩
    obtain ⟨v, a', s', hv, h3, h4, h5⟩ := next_f c hc h (by omega) 256 (by omega) (by omega)
    rw [spec_l00Src_field.l0, if_pos (by omega), hv]
    simp only [Option.bind_some]
    rw [show wrap64 (wrap64 (x * 256) + v) = x * 256 + v by unfold wrap64; omega, show wrap64 (i + 1) = i + 1 by unfold wrap64; omega, Int.tmod_eq_emod_of_nonneg (by omega)]
    have hb : (0 : Int) ≤ (x * 256 + v) % 2130706433 ∧ (x * 256 + v) % 2130706433 < 2130706433 := by omega
    obtain ⟨r, a2, s2, h6, h7, h8, h9⟩ := ih k _ (i + 1) (n + 1) a' s' (by omega) (by omega) (by omega) hb.1 hb.2 h5 (by omega)
    exact ⟨r, a2, s2, h6, h7, h8, h9.up (by omega)⟩
theorem field_f (c : List Int) (hc : ∀ x ∈ c, 0 ≤ x ∧ x ≤ 255) (k : Nat) (hk : 6 ≤ k) {n a s : Int} (h : Src n a s) (hn : n ≤ 900000) : ∃ v a' s', spec_l00Src_field.f k c a s = some (v, a', s') ∧ 0 ≤ v ∧ v < 2130706433 ∧ Src (n + 10) a' s' := by
  unfold spec_l00Src_field.f
  obtain ⟨v, a', s', hv, h3, h4, h5⟩ := next_f c hc h (by omega) 5 (by omega) (by omega)
  rw [hv]
  simp only [Option.bind_some]
  by_cases e0 : v = 0
  · rw [if_pos e0]
    obtain ⟨u, a2, s2, hu, h6, h7, h8⟩ := next_f c hc h5 (by omega) 4 (by omega) (by omega)
    rw [hu]
    exact ⟨u, a2, s2, rfl, by omega, by omega, h8.up (by omega)⟩
  · rw [if_neg e0]
    by_cases e1 : v = 1
    · rw [if_pos e1]
      obtain ⟨u, a2, s2, hu, h6, h7, h8⟩ := next_f c hc h5 (by omega) 3 (by omega) (by omega)
      rw [hu]
      exact ⟨_, a2, s2, rfl, by unfold wrap64; omega, by unfold wrap64; omega, h8.up (by omega)⟩
    · rw [if_neg e1]
      obtain ⟨u, a2, s2, hu, h6, h7, h8⟩ := field_l c hc 5 k 0 0 (n + 1) a' s' (by omega) (by omega) (by omega) (by omega) (by omega) h5 (by omega)
      exact ⟨u, a2, s2, hu, h6, h7, h8.up (by omega)⟩
theorem FieldOf_f (c : List Int) (hc : ∀ x ∈ c, 0 ≤ x ∧ x ≤ 255) (k : Nat) (hk : 6 ≤ k) : ∃ v, spec_FieldOf.f k c = some v ∧ 0 ≤ v ∧ v < 2130706433 := by
  unfold spec_FieldOf.f spec_l00Source.f
  simp only [Option.bind_some]
  obtain ⟨v, a', s', hv, h3, h4, _⟩ := field_f c hc k hk (n := 0) (a := 0) (s := (c.length : Int) % 1000) ⟨by omega, by omega, by omega, by omega⟩ (by omega)
  rw [hv]
  exact ⟨v, rfl, h3, h4⟩
end Go.Proofs.Ytnggbahcmhdjnaa.Pure
end
section
/- Fermat's theorem for the prime 2130706433, in plain numbers. -/
namespace Go.Proofs.Ytnggbahcmhdjnaa.FM

def P : Nat := 2130706433

def noDiv (n : Nat) : Nat → Nat → Bool
  | 0, lo => n % lo != 0
  | k + 1, lo => noDiv n k lo && noDiv n k (lo + 2 ^ k)

theorem noDiv_spec (n : Nat) : ∀ k lo, noDiv n k lo = true → ∀ d, lo ≤ d → d < lo + 2 ^ k → n % d ≠ 0
  | 0, lo, h, d, h1, h2 => by
    have : d = lo := by simp at h2; omega
    subst this
    simpa [noDiv] using h
  | k + 1, lo, h, d, h1, h2 => by
    simp only [noDiv, Bool.and_eq_true] at h
    by_cases hd : d < lo + 2 ^ k
    · exact noDiv_spec n k lo h.1 d h1 hd
    · exact noDiv_spec n k (lo + 2 ^ k) h.2 d (by omega) (by rw [Nat.pow_succ] at h2; omega)

theorem noDiv_P : noDiv P 16 2 = true := by decide +kernel

theorem P_prime (d : Nat) (h : d ∣ P) : d = 1 ∨ d = P := by
  have hpos : 0 < P := by decide
  obtain ⟨e, he⟩ := h
  have hd0 : 0 < d := by
    rcases Nat.eq_zero_or_pos d with h0 | h0
    · subst h0; simp at he; omega
    · exact h0
  have he0 : 0 < e := by
    rcases Nat.eq_zero_or_pos e with h0 | h0
    · subst h0; simp at he; omega
    · exact h0
  have key : ∀ x, 2 ≤ x → x < 65538 → P % x ≠ 0 := fun x h1 h2 => noDiv_spec P 16 2 noDiv_P x h1 (by omega)
  by_cases h1 : d = 1
  · exact .inl h1
  by_cases h2 : e = 1
  · right; rw [he, h2]; omega
  exfalso
  by_cases h3 : d < 65538
  · exact key d (by omega) h3 (by rw [he]; exact Nat.mul_mod_right d e)
  · by_cases h4 : e < 65538
    · exact key e (by omega) h4 (by rw [he]; exact Nat.mul_mod_left d e)
    · have : 65538 * 65538 ≤ d * e := Nat.mul_le_mul (by omega) (by omega)
      rw [← he] at this
      exact absurd this (by decide)

theorem P_coprime (a : Nat) (h : ¬ P ∣ a) : Nat.Coprime P a := by
  rcases P_prime (Nat.gcd P a) (Nat.gcd_dvd_left P a) with h1 | h1
  · exact h1
  · exact absurd (h1 ▸ Nat.gcd_dvd_right P a) h

theorem P_mul (a b : Nat) (h : P ∣ a * b) : P ∣ a ∨ P ∣ b := by
  by_cases ha : P ∣ a
  · exact .inl ha
  · exact .inr (Nat.Coprime.dvd_of_dvd_mul_left (P_coprime a ha) h)

/-! a list without repeats, below n -/
theorem nodup_le : ∀ (n : Nat) (l : List Nat), l.Nodup → (∀ x ∈ l, x < n) → l.length ≤ n
  | 0, l, _, h => by
    cases l with
    | nil => simp
    | cons a t => exact absurd (h a (by simp)) (by omega)
  | n + 1, l, hn, h => by
    by_cases hm : n ∈ l
    · have := nodup_le n (l.erase n) (hn.erase n) (fun x hx => by
        have h1 := (List.Nodup.mem_erase_iff hn).1 hx
        have := h x h1.2
        omega)
      rw [List.length_erase_of_mem hm] at this
      omega
    · have := nodup_le n l hn (fun x hx => by
        have := h x hx
        have : x ≠ n := fun e => hm (e ▸ hx)
        omega)
      omega

theorem nodup_perm : ∀ (n : Nat) (l : List Nat), l.Nodup → (∀ x ∈ l, x < n) → l.length = n → l.Perm (List.range n)
  | 0, l, _, _, h => by
    cases l with
    | nil => simp
    | cons a t => simp at h
  | n + 1, l, hn, h, hl => by
    have hm : n ∈ l := by
      refine Classical.byContradiction fun hm => ?_
      have := nodup_le n l hn (fun x hx => by
        have := h x hx
        have : x ≠ n := fun e => hm (e ▸ hx)
        omega)
      omega
    have ih := nodup_perm n (l.erase n) (hn.erase n) (fun x hx => by
        have h1 := (List.Nodup.mem_erase_iff hn).1 hx
        have := h x h1.2
        omega) (by rw [List.length_erase_of_mem hm]; omega)
    rw [List.range_succ]
    exact (List.perm_cons_erase hm).trans ((ih.cons n).trans (List.perm_append_singleton n (List.range n)).symm)

def prod (l : List Nat) : Nat := l.foldr (· * ·) 1
theorem prod_perm {l m : List Nat} (h : l.Perm m) : prod l = prod m := by
  induction h with
  | nil => rfl
  | cons x _ ih => simp only [prod, List.foldr] at *; rw [ih]
  | swap x y l => simp only [prod, List.foldr]; rw [Nat.mul_left_comm]
  | trans _ _ ih1 ih2 => exact ih1.trans ih2

theorem prod_map (p a : Nat) (l : List Nat) : prod (l.map fun x => a * x % p) % p = a ^ l.length * prod l % p := by
  induction l with
  | nil => simp [prod]
  | cons x t ih =>
    simp only [prod, List.map, List.foldr, List.length_cons] at *
    rw [Nat.mul_mod, ih, Nat.mod_mod, ← Nat.mul_mod, Nat.pow_succ]
    congr 1
    simp only [Nat.mul_comm, Nat.mul_left_comm, Nat.mul_assoc]

theorem prod_not (l : List Nat) (h : ∀ x ∈ l, ¬ P ∣ x) : ¬ P ∣ prod l := by
  induction l with
  | nil => simp only [prod, List.foldr]; decide
  | cons x t ih =>
    intro hd
    rcases P_mul _ _ hd with h1 | h1
    · exact h x (by simp) h1
    · exact ih (fun y hy => h y (by simp [hy])) h1

/-- Fermat's theorem -/
theorem fermat (a : Nat) (h : ¬ P ∣ a) : a ^ (P - 1) % P = 1 := by
  have hp2 : 2 ≤ P := by decide
  generalize hl : (List.range (P - 1)).map (· + 1) = l
  have hlen : l.length = P - 1 := by rw [← hl]; simp
  have hmem : ∀ x, x ∈ l ↔ 1 ≤ x ∧ x < P := by
    intro x
    rw [← hl, List.mem_map]
    constructor
    · rintro ⟨y, hy, rfl⟩
      have := List.mem_range.1 hy
      omega
    · intro hx
      exact ⟨x - 1, List.mem_range.2 (by omega), by omega⟩
  have hnd : l.Nodup := by
    rw [← hl]
    refine List.Pairwise.map _ (fun a b hab => ?_) List.nodup_range
    omega
  have hndv : ∀ x ∈ l, ¬ P ∣ x := fun x hx hd => by
    have := (hmem x).1 hx
    have := Nat.le_of_dvd (by omega) hd
    omega
  have hinj : ∀ x ∈ l, ∀ y ∈ l, a * x % P = a * y % P → x = y := by
    have aux : ∀ x y, x ∈ l → y ∈ l → x ≤ y → a * x % P = a * y % P → x = y := by
      intro x y hx hy hxy he
      have hd : P ∣ a * (y - x) := by
        rw [Nat.mul_sub]
        exact Nat.dvd_of_mod_eq_zero (Nat.sub_mod_eq_zero_of_mod_eq he.symm)
      rcases P_mul _ _ hd with h1 | h1
      · exact absurd h1 h
      · have hy' := (hmem y).1 hy
        have hx' := (hmem x).1 hx
        rcases Nat.eq_zero_or_pos (y - x) with h0 | h0
        · omega
        · have := Nat.le_of_dvd h0 h1
          omega
    intro x hx y hy he
    rcases Nat.le_total x y with hle | hle
    · exact aux x y hx hy hle he
    · exact (aux y x hy hx hle he.symm).symm
  -- the residues, less one, are a permutation of the range
  have hpos : ∀ x ∈ l, 1 ≤ a * x % P := by
    intro x hx
    rcases Nat.eq_zero_or_pos (a * x % P) with h0 | h0
    · rcases P_mul _ _ (Nat.dvd_of_mod_eq_zero h0) with h1 | h1
      · exact absurd h1 h
      · exact absurd h1 (hndv x hx)
    · exact h0
  have hperm : (l.map fun x => a * x % P - 1).Perm (List.range (P - 1)) := by
    refine nodup_perm (P - 1) _ ?_ ?_ (by rw [List.length_map, hlen])
    · rw [List.Nodup, List.pairwise_map]
      refine List.Pairwise.imp_of_mem (R := (· ≠ ·)) (fun {x y} hx hy hxy he => hxy (hinj x hx y hy ?_)) hnd
      have := hpos x hx
      have := hpos y hy
      omega
    · intro z hz
      obtain ⟨x, hx, rfl⟩ := List.mem_map.1 hz
      have := hpos x hx
      have := Nat.mod_lt (a * x) (show 0 < P by omega)
      omega
  have hperm2 : (l.map fun x => a * x % P).Perm l := by
    have h1 := hperm.map (· + 1)
    rw [hl, List.map_map] at h1
    refine (List.Perm.of_eq ?_).trans h1
    refine List.map_congr_left fun x hx => ?_
    have := hpos x hx
    simp only [Function.comp]
    omega
  have hprod := prod_map P a l
  rw [prod_perm hperm2, hlen] at hprod
  have h1 : 1 ≤ a ^ (P - 1) := Nat.one_le_iff_ne_zero.2 fun h0 => by
    have hpw : ¬ P ∣ a ^ (P - 1) := by
      have : ∀ n, ¬ P ∣ a ^ n := by
        intro n
        induction n with
        | zero => rw [Nat.pow_zero]; decide
        | succ n ih =>
          intro hd
          rw [Nat.pow_succ] at hd
          rcases P_mul _ _ hd with h1 | h1
          · exact ih h1
          · exact h h1
      exact this _
    exact hpw (h0 ▸ Nat.dvd_zero P)
  have hd : P ∣ prod l * (a ^ (P - 1) - 1) := by
    rw [Nat.mul_sub, Nat.mul_one, Nat.mul_comm]
    exact Nat.dvd_of_mod_eq_zero (Nat.sub_mod_eq_zero_of_mod_eq hprod.symm)
  rcases P_mul _ _ hd with h2 | h2
  · exact absurd h2 (prod_not l hndv)
  · obtain ⟨c, hc⟩ := h2
    have : a ^ (P - 1) = 1 + P * c := by omega
    rw [this, Nat.add_mul_mod_self_left]; decide


/-- The same of whole numbers below the prime. -/
theorem fermatI {a : Int} (h0 : 0 < a) (h1 : a < 2130706433) : a ^ 2130706432 % 2130706433 = 1 := by
  obtain ⟨n, rfl⟩ := Int.eq_ofNat_of_zero_le (show 0 ≤ a by omega)
  have h := fermat n (fun hd => by
    have := Nat.le_of_dvd (by omega) hd
    have e : P = 2130706433 := rfl
    omega)
  rw [show P - 1 = 2130706432 from rfl] at h
  generalize 2130706432 = k at h ⊢
  rw [show P = 2130706433 from rfl] at h
  rw [← Int.natCast_pow]
  omega
end Go.Proofs.Ytnggbahcmhdjnaa.FM
end
section
/- The law FnField; no conditions. -/
namespace Go.Proofs.Ytnggbahcmhdjnaa.Pure
open Go.RowKit Go.Proofs.Ytnggbahcmhdjnaa.Print Go.Proofs.YtnggbahcmhdjnaaW.PrintWords Go.Proofs.YtnggbahcmhdjnaaW.PrintLast
set_option linter.unusedSimpArgs false
set_option linter.unusedVariables false

theorem byte_wf {x : Int} (h : (Lit.int .u8 x).wf = true) : 0 ≤ x ∧ x ≤ 255 := by
  simp [Lit.wf, IntKind.min, IntKind.max, IntKind.signed, IntKind.bits] at h
  omega
theorem okI_in {a : Int} (h0 : 0 ≤ a) (h1 : a < 2130706433) : okI a = true := by
  unfold okI
  simp only [Bool.and_eq_true, decide_eq_true_eq]
  omega
section
variable {a b : Int}
theorem impl_AddF (ha0 : 0 ≤ a) (ha : a < 2130706433) (hb0 : 0 ≤ b) (hb : b < 2130706433) : impl_Add.f a b = some ((a + b) % 2130706433, 0) := by
  unfold impl_Add.f two_add.f
  rw [impl_FieldOK_f, impl_FieldOK_f, impl_add_f ha0 ha hb0 hb, okI_in ha0 ha, okI_in hb0 hb]
  rfl
theorem impl_SubF (ha0 : 0 ≤ a) (ha : a < 2130706433) (hb0 : 0 ≤ b) (hb : b < 2130706433) : impl_Sub.f a b = some ((a - b) % 2130706433, 0) := by
  unfold impl_Sub.f two_sub.f
  rw [impl_FieldOK_f, impl_FieldOK_f, impl_sub_f ha0 ha hb0 hb, okI_in ha0 ha, okI_in hb0 hb]
  rfl
theorem impl_MulF (ha0 : 0 ≤ a) (ha : a < 2130706433) (hb0 : 0 ≤ b) (hb : b < 2130706433) : impl_Mul.f a b = some (a * b % 2130706433, 0) := by
  unfold impl_Mul.f two_mul.f
  rw [impl_FieldOK_f, impl_FieldOK_f, impl_mul_f ha0 ha hb0 hb, okI_in ha0 ha, okI_in hb0 hb]
  rfl
theorem spec_MulF (ha0 : 0 ≤ a) (ha : a < 2130706433) (hb0 : 0 ≤ b) (hb : b < 2130706433) : spec_Mul.f a b = some (a * b % 2130706433, 0) := by
  unfold spec_Mul.f
  rw [spec_FieldOK_f, spec_FieldOK_f, spec_mul_f ha0 ha hb0 hb, okI_in ha0 ha, okI_in hb0 hb]
  rfl
end
theorem FieldOf_ev (c : List Int) (hc : ∀ x ∈ c, 0 ≤ x ∧ x ≤ 255) : ∃ v, Ev (fun k => spec_FieldOf.f k c) v ∧ 0 ≤ v ∧ v < 2130706433 := by
  obtain ⟨v, h, h0, h1⟩ := FieldOf_f c hc 6 (by omega)
  exact ⟨v, Ev.of (k := 6) (spec_FieldOf.mono c) h, h0, h1⟩
theorem impl_inv_ev {a : Int} (h0 : 0 ≤ a) (h1 : a < 2130706433) : Ev (fun k => impl_inverse.f k a) (a ^ 2130706431 % 2130706433) := by
  have hs := impl_Pow 0 h0 h1 (show (0 : Int) ≤ 2130706431 by omega) (by omega)
  refine Ev.of (k := 0 + 64) (impl_inverse.mono a) ?_
  unfold impl_inverse.f
  rw [hs]; rfl
theorem inv_mul {a : Int} (h0 : 0 < a) (h1 : a < 2130706433) : a ^ 2130706431 % 2130706433 * a % 2130706433 = 1 := by
  have h := FM.fermatI h0 h1
  have hz : (2130706432 : Nat) = 2130706431 + 1 := rfl
  rw [hz, Int.pow_succ] at h
  rw [Int.mul_emod, Int.emod_emod, ← Int.mul_emod]
  exact h
theorem dist (a b c : Int) : (a + b) % 2130706433 * c % 2130706433 = (a * c % 2130706433 + b * c % 2130706433) % 2130706433 := by
  rw [Int.mul_emod, Int.emod_emod, ← Int.mul_emod, Int.add_mul, Int.add_emod]
theorem FnField : laws_FnField.Pure := by
  intro l m _ _ hl _ _ hm
  refine Ev.rounds (g := fun k => laws_FnField.f k l m) ?_
  unfold laws_FnField.f
  have big : Ev (fun k => laws_FnField.j0 k l m true) true := Ev.step (f := fun _ => some true) (fun k => by rw [laws_FnField.j0, if_pos rfl]) (Ev.now _)
  by_cases g1 : (l.length : Int) > 1048576
  · exact ev_pos g1 big
  · refine ev_neg g1 ?_
    by_cases g2 : (m.length : Int) > 1048576
    · rw [decide_eq_true g2]; exact big
    · rw [decide_eq_false g2]
      refine Ev.step (fun k => by rw [laws_FnField.j0, if_neg (by decide)]) ?_
      obtain ⟨a, ha, a0, a1⟩ := FieldOf_ev l (fun x hx => byte_wf (hl x hx))
      obtain ⟨b, hb, b0, b1⟩ := FieldOf_ev m (fun x hx => byte_wf (hm x hx))
      obtain ⟨c, hc, c0, c1⟩ := FieldOf_ev ([7] ++ m) (fun x hx => by
        rcases List.mem_append.1 hx with hx | hx
        · have : x = 7 := by simpa using hx
          omega
        · exact byte_wf (hm x hx))
      refine ev_bind ha (ev_bind hb (ev_cbind rfl (ev_pos (by simp; omega) (ev_bind hc ?_))))
      have s1 := mod_lt (a + b)
      have p1 := mod_lt (a * b)
      have q1 := mod_lt (a * c)
      have q2 := mod_lt (b * c)
      refine ev_cbind (impl_AddF a0 a1 b0 b1) (ev_cbind (impl_MulF a0 a1 b0 b1) (ev_cbind (impl_SubF s1.1 s1.2 b0 b1) (ev_cbind (impl_MulF s1.1 s1.2 c0 c1) (ev_cbind (impl_MulF a0 a1 c0 c1) (ev_cbind (impl_MulF b0 b1 c0 c1) (ev_cbind (impl_AddF q1.1 q1.2 q2.1 q2.2) (ev_cbind (impl_MulF b0 b1 a0 a1) (ev_cbind (spec_MulF a0 a1 b0 b1) ?_))))))))
      refine ev_pos rfl (ev_pos rfl (ev_pos rfl (ev_pos rfl (ev_pos rfl (ev_pos rfl (ev_pos rfl (ev_pos rfl (ev_pos rfl ?_))))))))
      refine ev_pos (by show ((a + b) % 2130706433 - b) % 2130706433 = a; omega) (ev_pos (dist a b c) (ev_pos (by show b * a % 2130706433 = a * b % 2130706433; rw [Int.mul_comm]) ?_))
      refine ev_cbind (a := true) ((impl_FieldOK_f _).trans (by rw [okI_in s1.1 s1.2])) (ev_pos rfl (ev_cbind (a := true) ((impl_FieldOK_f _).trans (by rw [okI_in p1.1 p1.2])) ?_))
      refine Ev.step (fun k => by simp only [Bool.not_true]; rw [laws_FnField.j1, if_neg (by decide)]) ?_
      unfold impl_Inverse.f
      by_cases z : a = 0
      · refine ev_pos z (ev_bind (a := (0, 7)) (ev_cbind (impl_FieldOK_f _) (ev_pos (okI_in a0 a1) (ev_pos z (Ev.now _)))) (ev_val (Ev.now _) rfl))
      · have i1 := mod_lt (a ^ 2130706431)
        refine ev_neg z (ev_bind (a := (a ^ 2130706431 % 2130706433, 0)) (ev_cbind (impl_FieldOK_f _) (ev_pos (okI_in a0 a1) (ev_neg z (ev_bind (impl_inv_ev a0 a1) (Ev.now _))))) ?_)
        refine ev_cbind (impl_MulF i1.1 i1.2 a0 a1) (ev_pos rfl (ev_pos rfl (ev_val (Ev.now _) ?_)))
        rw [inv_mul (by omega) a1]
        rfl

end Go.Proofs.Ytnggbahcmhdjnaa.Pure
end
