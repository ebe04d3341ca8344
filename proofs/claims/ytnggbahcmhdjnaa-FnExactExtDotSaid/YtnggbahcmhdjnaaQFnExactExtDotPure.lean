-- Packed by a program of this session (slim.py): the plain laws that FnExactExtDot needs.
import Derived.Test.YtnggbahcmhdjnaaQFnExactExtDot0
import Derived.Test.YtnggbahcmhdjnaaQFnExactExtDot1
import Derived.Test.YtnggbahcmhdjnaaQFnExactExtDot2
import Derived.Test.YtnggbahcmhdjnaaQFnExactExtDot3
import Derived.Test.YtnggbahcmhdjnaaQFnExactExtDot4
import Derived.Test.YtnggbahcmhdjnaaPrint0
section
-- Written by a program of this session (mkrow.py); not trusted, Lean checks it.
namespace Go.Proofs.Ytnggbahcmhdjnaa.Print
open Go.RowKit Go.Proofs.YtnggbahcmhdjnaaW.PrintWords Go.Proofs.YtnggbahcmhdjnaaW.PrintLast
/-- THE ONE PURE STATEMENT of laws_FnExactExtDot. -/
def laws_FnExactExtDot.Pure : Prop := ∀ (l0 : List S23) (l1 : List S23), l0.length ≤ 9223372036854775807 → (∀ y ∈ l0, (Lit.int .i64 y.f0).wf = true ∧ (Lit.int .i64 y.f1).wf = true) → l1.length ≤ 9223372036854775807 → (∀ y ∈ l1, (Lit.int .i64 y.f0).wf = true ∧ (Lit.int .i64 y.f1).wf = true) → ∃ k, laws_FnExactExtDot.f k l0 l1 = some true
end Go.Proofs.Ytnggbahcmhdjnaa.Print
end
section
/- Plain lemmas on lists and rounds. -/
namespace Go.Proofs.Ytnggbahcmhdjnaa.Pure
open Go.RowKit Go.Proofs.Ytnggbahcmhdjnaa.Print Go.Proofs.YtnggbahcmhdjnaaW.PrintWords Go.Proofs.YtnggbahcmhdjnaaW.PrintLast

theorem take_set {α : Type} (l : List α) (i : Nat) (v : α) (h : i < l.length) : (l.set i v).take (i + 1) = l.take i ++ [v] := by
  rw [List.take_succ_eq_append_getElem (by simpa using h)]
  rw [List.take_set_of_le (Nat.le_refl i)]
  simp
theorem take_map_succ {α β : Type} (f : α → β) (l : List α) (z : α) (i : Nat) (h : i < l.length) : (l.map f).take (i + 1) = (l.map f).take i ++ [f (l.getD i z)] := by
  rw [List.take_succ_eq_append_getElem (by simpa using h)]
  simp [List.getD_eq_getElem?_getD, List.getElem?_eq_getElem h]
theorem wrap_small {x : Int} (h0 : -9223372036854775808 ≤ x) (h1 : x ≤ 9223372036854775807) : wrap64 x = x := by unfold wrap64; omega
theorem ev_val {α : Type} {g : Nat → Option α} {a b : α} (h : Ev g a) (e : a = b) : Ev g b := e ▸ h
theorem ev_bind {α β : Type} {g : Nat → Option α} {f : Nat → α → Option β} {a : α} {r : β} (h : Ev g a) (k : Ev (fun n => f n a) r) : Ev (fun n => (g n).bind (f n)) r := Ev.bind h k
theorem ev_const {α : Type} {o : Option α} {r : α} (h : o = some r) : Ev (fun _ => o) r := by subst h; exact Ev.now r
theorem ev_cbind {α β : Type} {o : Option α} {f : Nat → α → Option β} {a : α} {r : β} (h : o = some a) (k : Ev (fun n => f n a) r) : Ev (fun n => o.bind (f n)) r := by subst h; exact k
theorem ev_pos {α : Type} {c : Prop} [Decidable c] {g f : Nat → Option α} {r : α} (h : c) (k : Ev g r) : Ev (fun n => if c then g n else f n) r := by simpa only [if_pos h] using k
theorem ev_neg {α : Type} {c : Prop} [Decidable c] {g f : Nat → Option α} {r : α} (h : ¬ c) (k : Ev f r) : Ev (fun n => if c then g n else f n) r := by simpa only [if_neg h] using k
theorem rd_natCast (xs : List Int) (i : Nat) : rd xs (i : Int) = xs.getD i 0 := by simp [rd]
end Go.Proofs.Ytnggbahcmhdjnaa.Pure
end
section
/- Plain laws on the statements' helpers over slices of elements: copies, comparisons, marks. Lists alone. -/
namespace Go.Proofs.Ytnggbahcmhdjnaa.Pure
open Go.RowKit Go.Proofs.Ytnggbahcmhdjnaa.Print Go.Proofs.YtnggbahcmhdjnaaW.PrintWords Go.Proofs.YtnggbahcmhdjnaaW.PrintLast
set_option linter.unusedSimpArgs false
set_option linter.unusedVariables false

theorem laws_toExtS_l (x0 : List (S23)) (hn : x0.length ≤ 1000000000) (d : Nat) : ∀ (acc : List (S24)) (i : Nat), i + d = x0.length → acc.length = x0.length → acc.take i = (x0.map fun y => (⟨y.f0, y.f1⟩ : S24)).take i → Ev (fun k => laws_toExtS.l0 k x0 acc (i : Int)) (x0.map fun y => (⟨y.f0, y.f1⟩ : S24)) := by
  induction d with
  | zero =>
    intro acc i hi hl ht
    refine Ev.step (f := fun _ => some acc) (fun k => by rw [laws_toExtS.l0, if_neg (by omega)]) (ev_val (Ev.now _) ?_)
    have h1 : acc.take i = acc := List.take_of_length_le (by omega)
    have h2 : (x0.map fun y => (⟨y.f0, y.f1⟩ : S24)).take i = x0.map fun y => (⟨y.f0, y.f1⟩ : S24) := List.take_of_length_le (by simp; omega)
    rw [h1, h2] at ht
    exact ht
  | succ d ih =>
    intro acc i hi hl ht
    have h := ih (acc.set i (⟨(x0.getD i z23).f0, (x0.getD i z23).f1⟩ : S24)) (i + 1) (by omega) (by simpa using hl) (by rw [take_set _ _ _ (by omega), ht, take_map_succ _ _ z23 _ (by omega)])
    refine Ev.step (fun k => ?_) h
    rw [laws_toExtS.l0, if_pos (by omega), if_pos (by omega)]
    unfold laws_toExt.f
    simp only [Option.bind_some]
    rw [if_pos (by omega), wrap_small (by omega) (by omega)]
    rfl
theorem laws_toExtS_ev (x0 : List (S23)) (hn : x0.length ≤ 1000000000) : Ev (fun k => laws_toExtS.f k x0) (x0.map fun y => (⟨y.f0, y.f1⟩ : S24)) := by
  have h := laws_toExtS_l x0 hn x0.length (List.replicate x0.length z24) 0 (by omega) (by simp) (by simp)
  refine Ev.congr (fun k => ?_) h
  unfold laws_toExtS.f
  rw [if_pos (by omega), if_pos (by omega)]
  simp only [Int.toNat_natCast]
  rfl
theorem laws_eqExtS_l (x0 : List (S24)) (hn : x0.length ≤ 1000000000) (d : Nat) : ∀ (i : Nat), i + d = x0.length → Ev (fun k => laws_eqExtS.l0 k x0 x0 (i : Int)) true := by
  induction d with
  | zero =>
    intro i hi
    exact Ev.step (f := fun _ => some true) (fun k => by rw [laws_eqExtS.l0, if_neg (by omega)]) (Ev.now _)
  | succ d ih =>
    intro i hi
    refine Ev.step (fun k => ?_) (ih (i + 1) (by omega))
    rw [laws_eqExtS.l0, if_pos (by omega), if_pos (by omega), if_pos (by omega)]
    unfold laws_eqExt.f
    rw [if_pos rfl, if_pos rfl]
    simp only [Option.bind_some, if_true]
    rw [wrap_small (by omega) (by omega)]
    rfl
theorem laws_eqExtS_ev (x0 : List (S24)) (hn : x0.length ≤ 1000000000) : Ev (fun k => laws_eqExtS.f k x0 x0) true := by
  refine Ev.congr (fun k => ?_) (laws_eqExtS_l x0 hn x0.length 0 (by omega))
  unfold laws_eqExtS.f
  rw [if_pos rfl]
  rfl

end Go.Proofs.Ytnggbahcmhdjnaa.Pure
end
section
/- Plain laws on the field's functions: what sums, products and powers come to. Numbers alone. -/
namespace Go.Proofs.Ytnggbahcmhdjnaa.Pure
open Go.RowKit Go.Proofs.Ytnggbahcmhdjnaa.Print Go.Proofs.YtnggbahcmhdjnaaW.PrintWords Go.Proofs.YtnggbahcmhdjnaaW.PrintLast

theorem wf_i64 {x : Int} (h : (Lit.int .i64 x).wf = true) : -9223372036854775808 ≤ x ∧ x ≤ 9223372036854775807 := by
  have h' : IntKind.i64.min ≤ x ∧ x ≤ 9223372036854775807 := by simpa [Lit.wf] using h
  have e : IntKind.i64.min = -9223372036854775808 := by decide
  omega

def okI (a : Int) : Bool := decide (0 ≤ a ∧ a ≤ 2130706432)

theorem okI_true {a : Int} (h : okI a = true) : 0 ≤ a ∧ a < 2130706433 := by
  have := of_decide_eq_true h
  omega

theorem spec_in_f (a b c : Int) : spec_l01In.f a b c = some (decide (b ≤ a ∧ a ≤ c)) := by
  unfold spec_l01In.f
  by_cases h : b ≤ a
  · rw [if_pos h]; simp [h]
  · rw [if_neg h]; simp [h]

theorem impl_in_f (a b c : Int) : impl_in.f a b c = some (decide (b ≤ a ∧ a ≤ c)) := by
  unfold impl_in.f
  by_cases h : b ≤ a
  · rw [if_pos h]; simp [h]
  · rw [if_neg h]; simp [h]

theorem spec_FieldOK_f (a : Int) : spec_FieldOK.f a = some (okI a) := by
  unfold spec_FieldOK.f
  rw [spec_in_f]; rfl

theorem impl_FieldOK_f (a : Int) : impl_FieldOK.f a = some (okI a) := by
  unfold impl_FieldOK.f
  rw [impl_in_f]; rfl

theorem mul_bd {a b : Int} (ha0 : 0 ≤ a) (ha : a < 2130706433) (hb0 : 0 ≤ b) (hb : b < 2130706433) : 0 ≤ a * b ∧ a * b ≤ 4539909899366170624 := by
  refine ⟨Int.mul_nonneg ha0 hb0, ?_⟩
  have := Int.mul_le_mul (show a ≤ 2130706432 by omega) (show b ≤ 2130706432 by omega) hb0 (by omega)
  omega

theorem mul_mod {a b : Int} (ha0 : 0 ≤ a) (ha : a < 2130706433) (hb0 : 0 ≤ b) (hb : b < 2130706433) : Int.tmod (wrap64 (a * b)) 2130706433 = a * b % 2130706433 := by
  have h := mul_bd ha0 ha hb0 hb
  generalize a * b = c at h ⊢
  rw [show wrap64 c = c by unfold wrap64; omega]
  exact Int.tmod_eq_emod_of_nonneg h.1

theorem mod_lt (c : Int) : 0 ≤ c % 2130706433 ∧ c % 2130706433 < 2130706433 := by omega

theorem impl_mul_f {a b : Int} (ha0 : 0 ≤ a) (ha : a < 2130706433) (hb0 : 0 ≤ b) (hb : b < 2130706433) : impl_mul.f a b = some (a * b % 2130706433) := by
  unfold impl_mul.f; rw [mul_mod ha0 ha hb0 hb]
theorem spec_mul_f {a b : Int} (ha0 : 0 ≤ a) (ha : a < 2130706433) (hb0 : 0 ≤ b) (hb : b < 2130706433) : spec_l01Mul.f a b = some (a * b % 2130706433) := by
  unfold spec_l01Mul.f; rw [mul_mod ha0 ha hb0 hb]
theorem add_mod {a b : Int} (ha0 : 0 ≤ a) (ha : a < 2130706433) (hb0 : 0 ≤ b) (hb : b < 2130706433) : Int.tmod (wrap64 (a + b)) 2130706433 = (a + b) % 2130706433 := by
  rw [show wrap64 (a + b) = a + b by unfold wrap64; omega]
  exact Int.tmod_eq_emod_of_nonneg (by omega)
theorem impl_add_f {a b : Int} (ha0 : 0 ≤ a) (ha : a < 2130706433) (hb0 : 0 ≤ b) (hb : b < 2130706433) : impl_add.f a b = some ((a + b) % 2130706433) := by
  unfold impl_add.f; rw [add_mod ha0 ha hb0 hb]
theorem spec_add_f {a b : Int} (ha0 : 0 ≤ a) (ha : a < 2130706433) (hb0 : 0 ≤ b) (hb : b < 2130706433) : spec_l01Add.f a b = some ((a + b) % 2130706433) := by
  unfold spec_l01Add.f; rw [add_mod ha0 ha hb0 hb]
theorem impl_sub_f {a b : Int} (ha0 : 0 ≤ a) (ha : a < 2130706433) (hb0 : 0 ≤ b) (hb : b < 2130706433) : impl_sub.f a b = some ((a - b) % 2130706433) := by
  unfold impl_sub.f
  rw [show wrap64 (wrap64 (a - b) + 2130706433) = a - b + 2130706433 by unfold wrap64; omega, Int.tmod_eq_emod_of_nonneg (by omega)]
  congr 1; omega
theorem spec_sub_f {a b : Int} (ha0 : 0 ≤ a) (ha : a < 2130706433) (hb0 : 0 ≤ b) (hb : b < 2130706433) : spec_l01Sub.f a b = some ((a - b) % 2130706433) := by
  unfold spec_l01Sub.f
  rw [show wrap64 (wrap64 (a + 2130706433) - b) = a - b + 2130706433 by unfold wrap64; omega, Int.tmod_eq_emod_of_nonneg (by omega)]
  congr 1; omega

/-! powers -/
theorem pow_mod (a m : Int) (n : Nat) : (a % m) ^ n % m = a ^ n % m := by
  induction n with
  | zero => rw [Int.pow_zero, Int.pow_zero]
  | succ n ih => rw [Int.pow_succ, Int.pow_succ, Int.mul_emod, ih, Int.emod_emod, ← Int.mul_emod]

theorem pow_even (x r m : Int) (j : Nat) : r * (x * x % m) ^ j % m = r * x ^ (2 * j) % m := by
  rw [Int.mul_emod, pow_mod, ← Int.mul_emod, Int.pow_mul, Int.pow_succ, Int.pow_succ, Int.pow_zero, Int.one_mul]

theorem pow_odd (x r m : Int) (j : Nat) : (r * x % m) * (x * x % m) ^ j % m = r * x ^ (2 * j + 1) % m := by
  rw [pow_even, Int.mul_emod, Int.emod_emod, ← Int.mul_emod, Int.pow_succ]
  congr 1
  rw [Int.mul_assoc, Int.mul_comm x]

theorem spec_pow_f (k : Nat) : ∀ (x n r : Int), 0 ≤ x → x < 2130706433 → 0 ≤ r → r < 2130706433 → 0 ≤ n → n < 2 ^ k → n ≤ 9223372036854775807 → spec_l01Pow.l0 (k + 1) x n r = some (r * x ^ n.toNat % 2130706433) := by
  induction k with
  | zero =>
    intro x n r h0 h1 h2 h3 h4 h5 h6
    have : n = 0 := by simp at h5; omega
    subst this
    simp only [spec_l01Pow.l0]
    rw [if_neg (by omega)]
    simp
    omega
  | succ k ih =>
    intro x n r h0 h1 h2 h3 h4 h5 h6
    rw [spec_l01Pow.l0]
    by_cases hn : n > 0
    · rw [if_pos hn]
      have hd : wrap64 (Int.tdiv n 2) = n / 2 := by
        rw [Int.tdiv_eq_ediv_of_nonneg (by omega)]; unfold wrap64; omega
      have hm : Int.tmod n 2 = n % 2 := Int.tmod_eq_emod_of_nonneg (by omega)
      have hlt : n / 2 < 2 ^ k := by rw [Int.pow_succ] at h5; omega
      rw [hd, hm, spec_mul_f h2 h3 h0 h1, spec_mul_f h0 h1 h0 h1]
      simp only [Option.bind_some]
      have b1 := mod_lt (r * x)
      have b2 := mod_lt (x * x)
      by_cases ho : n % 2 = 1
      · rw [if_pos ho, ih _ _ _ b2.1 b2.2 b1.1 b1.2 (by omega) hlt (by omega), pow_odd]
        rw [show 2 * (n / 2).toNat + 1 = n.toNat by omega]
      · rw [if_neg ho, ih _ _ _ b2.1 b2.2 h2 h3 (by omega) hlt (by omega), pow_even]
        rw [show 2 * (n / 2).toNat = n.toNat by omega]
    · rw [if_neg hn]
      have : n = 0 := by omega
      subst this
      simp
      omega

theorem and_one_i64 (n : Int) (h0 : 0 ≤ n) (h1 : n ≤ 9223372036854775807) : Go.bits .and .i64 n 1 = n % 2 := by
  have h := bits_mask .i64 63 (by decide) (fun n h0 h1 => by rw [show (2 : Int) ^ 63 = 9223372036854775808 by decide] at h1; rw [IntKind.wrap_i64]; omega) 1 (by decide) n h0 (by rw [show (2 : Int) ^ 63 = 9223372036854775808 by decide]; omega)
  rw [show ((2 : Int) ^ 1 - 1) = 1 by decide, show ((2 : Int) ^ 1) = 2 by decide] at h
  exact h

theorem impl_pow_f (k : Nat) : ∀ (x n r : Int), 0 ≤ x → x < 2130706433 → 0 ≤ r → r < 2130706433 → 0 ≤ n → n < 2 ^ k → n ≤ 9223372036854775807 → impl_pow.l0 (k + 1) x n r = some (r * x ^ n.toNat % 2130706433) := by
  induction k with
  | zero =>
    intro x n r h0 h1 h2 h3 h4 h5 h6
    have : n = 0 := by simp at h5; omega
    subst this
    simp only [impl_pow.l0]
    rw [if_neg (by omega)]
    simp
    omega
  | succ k ih =>
    intro x n r h0 h1 h2 h3 h4 h5 h6
    rw [impl_pow.l0]
    by_cases hn : n > 0
    · rw [if_pos hn]
      have hlt : n / 2 < 2 ^ k := by rw [Int.pow_succ] at h5; omega
      rw [and_one_i64 n h4 h6, impl_mul_f h2 h3 h0 h1, impl_mul_f h0 h1 h0 h1]
      simp only [Option.bind_some]
      have b1 := mod_lt (r * x)
      have b2 := mod_lt (x * x)
      by_cases ho : n % 2 = 1
      · rw [if_pos ho, ih _ _ _ b2.1 b2.2 b1.1 b1.2 (by omega) hlt (by omega), pow_odd]
        rw [show 2 * (n / 2).toNat + 1 = n.toNat by omega]
      · rw [if_neg ho, ih _ _ _ b2.1 b2.2 h2 h3 (by omega) hlt (by omega), pow_even]
        rw [show 2 * (n / 2).toNat = n.toNat by omega]
    · rw [if_neg hn]
      have : n = 0 := by omega
      subst this
      simp
      omega

theorem pow63 : (2 : Int) ^ 63 = 9223372036854775808 := by decide
/-- 64 rounds and more serve every exponent. -/
theorem spec_Pow (k : Nat) {x n : Int} (h0 : 0 ≤ x) (h1 : x < 2130706433) (h4 : 0 ≤ n) (h6 : n ≤ 9223372036854775807) : spec_l01Pow.f (k + 64) x n = some (x ^ n.toNat % 2130706433) := by
  unfold spec_l01Pow.f
  have h := spec_pow_f 63 x n 1 h0 h1 (by omega) (by omega) h4 (by rw [pow63]; omega) h6
  rw [Int.one_mul] at h
  exact at_rounds (g := fun k => spec_l01Pow.f k x n) (spec_l01Pow.mono x n) (by omega) h
theorem impl_Pow (k : Nat) {x n : Int} (h0 : 0 ≤ x) (h1 : x < 2130706433) (h4 : 0 ≤ n) (h6 : n ≤ 9223372036854775807) : impl_pow.f (k + 64) x n = some (x ^ n.toNat % 2130706433) := by
  unfold impl_pow.f
  have h := impl_pow_f 63 x n 1 h0 h1 (by omega) (by omega) h4 (by rw [pow63]; omega) h6
  rw [Int.one_mul] at h
  exact at_rounds (g := fun k => impl_pow.f k x n) (impl_pow.mono x n) (by omega) h

end Go.Proofs.Ytnggbahcmhdjnaa.Pure
end
section
/- Plain laws on the greater field's functions: what they come to. Numbers alone. -/
namespace Go.Proofs.Ytnggbahcmhdjnaa.Pure
open Go.RowKit Go.Proofs.Ytnggbahcmhdjnaa.Print Go.Proofs.YtnggbahcmhdjnaaW.PrintWords Go.Proofs.YtnggbahcmhdjnaaW.PrintLast

def okE (a b : Int) : Bool := okI a && okI b
/-- An element of the greater field: both numbers below the prime. -/
structure InE (a b : Int) : Prop where
  a0 : 0 ≤ a
  a1 : a < 2130706433
  b0 : 0 ≤ b
  b1 : b < 2130706433
theorem okE_true {a b : Int} (h : okE a b = true) : InE a b := by
  unfold okE at h
  rw [Bool.and_eq_true] at h
  have h1 := okI_true h.1
  have h2 := okI_true h.2
  exact ⟨h1.1, h1.2, h2.1, h2.2⟩
theorem spec_ExtOK_f (a b : Int) : spec_ExtOK.f a b = some (okE a b) := by
  unfold spec_ExtOK.f okE
  rw [spec_FieldOK_f, spec_FieldOK_f]
  cases okI a <;> simp
theorem impl_ExtOK_f (a b : Int) : impl_ExtOK.f a b = some (okE a b) := by
  unfold impl_ExtOK.f okE
  rw [impl_FieldOK_f, impl_FieldOK_f]
  cases okI a <;> simp
theorem three_mod {c : Int} (h0 : 0 ≤ c) (h1 : c < 2130706433) : Int.tmod (wrap64 (3 * c)) 2130706433 = 3 * c % 2130706433 := mul_mod (by omega) (by omega) h0 h1
/-- The norm of an element. -/
def normE (a b : Int) : Int := (a * a - 3 * (b * b)) % 2130706433
theorem normE_lt (a b : Int) : 0 ≤ normE a b ∧ normE a b < 2130706433 := mod_lt _
theorem norm_mod (x y : Int) : (x % 2130706433 - 3 * (y % 2130706433) % 2130706433) % 2130706433 = (x - 3 * y) % 2130706433 := by omega
theorem spec_norm_f {a b : Int} (h : InE a b) : spec_l02Norm.f a b = some (normE a b) := by
  unfold spec_l02Norm.f
  have h1 := mod_lt (a * a)
  have h2 := mod_lt (b * b)
  rw [spec_mul_f h.a0 h.a1 h.a0 h.a1, spec_mul_f h.b0 h.b1 h.b0 h.b1]
  simp only [Option.bind_some]
  rw [three_mod h2.1 h2.2]
  have h3 := mod_lt (3 * (b * b % 2130706433))
  rw [spec_sub_f h1.1 h1.2 h3.1 h3.2]
  simp only [Option.bind_some, normE, norm_mod]
theorem impl_norm_f {a b : Int} (h : InE a b) : impl_Ext_norm.f a b = some (normE a b) := by
  unfold impl_Ext_norm.f
  have h1 := mod_lt (a * a)
  have h2 := mod_lt (b * b)
  rw [impl_mul_f h.a0 h.a1 h.a0 h.a1, impl_mul_f h.b0 h.b1 h.b0 h.b1]
  simp only [Option.bind_some]
  rw [impl_mul_f (by omega) (by omega) h2.1 h2.2]
  simp only [Option.bind_some]
  have h3 := mod_lt (3 * (b * b % 2130706433))
  rw [impl_sub_f h1.1 h1.2 h3.1 h3.2]
  simp only [Option.bind_some, normE, norm_mod]
end Go.Proofs.Ytnggbahcmhdjnaa.Pure
end
section
/- Plain laws on the greater field's sums, products and powers. Numbers alone. -/
namespace Go.Proofs.Ytnggbahcmhdjnaa.Pure
open Go.RowKit Go.Proofs.Ytnggbahcmhdjnaa.Print Go.Proofs.YtnggbahcmhdjnaaW.PrintWords Go.Proofs.YtnggbahcmhdjnaaW.PrintLast

def plusE (a b c d : Int) : Int × Int := ((a + c) % 2130706433, (b + d) % 2130706433)
def minusE (a b c d : Int) : Int × Int := ((a - c) % 2130706433, (b - d) % 2130706433)
def timesE (a b c d : Int) : Int × Int := ((a * c + 3 * (b * d)) % 2130706433, (a * d + b * c) % 2130706433)
theorem plusE_in (a b c d : Int) : InE (plusE a b c d).1 (plusE a b c d).2 := ⟨(mod_lt _).1, (mod_lt _).2, (mod_lt _).1, (mod_lt _).2⟩
theorem minusE_in (a b c d : Int) : InE (minusE a b c d).1 (minusE a b c d).2 := ⟨(mod_lt _).1, (mod_lt _).2, (mod_lt _).1, (mod_lt _).2⟩
theorem timesE_in (a b c d : Int) : InE (timesE a b c d).1 (timesE a b c d).2 := ⟨(mod_lt _).1, (mod_lt _).2, (mod_lt _).1, (mod_lt _).2⟩
theorem InE.ok {a b : Int} (h : InE a b) : okE a b = true := by
  have h1 := h.a0; have h2 := h.a1; have h3 := h.b0; have h4 := h.b1
  unfold okE okI
  simp only [Bool.and_eq_true, decide_eq_true_eq]
  omega
section
variable {a b c d : Int}
theorem impl_plus_f (h : InE a b) (g : InE c d) : impl_Ext_plus.f a b c d = some (plusE a b c d) := by
  unfold impl_Ext_plus.f
  rw [impl_add_f h.a0 h.a1 g.a0 g.a1, impl_add_f h.b0 h.b1 g.b0 g.b1]; rfl
theorem spec_plus_f (h : InE a b) (g : InE c d) : spec_l02Add.f a b c d = some (plusE a b c d) := by
  unfold spec_l02Add.f
  rw [spec_add_f h.a0 h.a1 g.a0 g.a1, spec_add_f h.b0 h.b1 g.b0 g.b1]; rfl
theorem impl_minus_f (h : InE a b) (g : InE c d) : impl_Ext_minus.f a b c d = some (minusE a b c d) := by
  unfold impl_Ext_minus.f
  rw [impl_sub_f h.a0 h.a1 g.a0 g.a1, impl_sub_f h.b0 h.b1 g.b0 g.b1]; rfl
theorem spec_minus_f (h : InE a b) (g : InE c d) : spec_l02Sub.f a b c d = some (minusE a b c d) := by
  unfold spec_l02Sub.f
  rw [spec_sub_f h.a0 h.a1 g.a0 g.a1, spec_sub_f h.b0 h.b1 g.b0 g.b1]; rfl
theorem times_a (x y : Int) : (x % 2130706433 + 3 * (y % 2130706433) % 2130706433) % 2130706433 = (x + 3 * y) % 2130706433 := by omega
theorem times_b (x y : Int) : (x % 2130706433 + y % 2130706433) % 2130706433 = (x + y) % 2130706433 := by omega
theorem impl_times_f (h : InE a b) (g : InE c d) : impl_Ext_times.f a b c d = some (timesE a b c d) := by
  unfold impl_Ext_times.f
  have h1 := mod_lt (a * c)
  have h2 := mod_lt (b * d)
  have h3 := mod_lt (3 * (b * d % 2130706433))
  have h4 := mod_lt (a * d)
  have h5 := mod_lt (b * c)
  rw [impl_mul_f h.a0 h.a1 g.a0 g.a1, impl_mul_f h.b0 h.b1 g.b0 g.b1, impl_mul_f h.a0 h.a1 g.b0 g.b1, impl_mul_f h.b0 h.b1 g.a0 g.a1]
  simp only [Option.bind_some]
  rw [impl_mul_f (by omega) (by omega) h2.1 h2.2]
  simp only [Option.bind_some]
  rw [impl_add_f h1.1 h1.2 h3.1 h3.2, impl_add_f h4.1 h4.2 h5.1 h5.2]
  simp only [Option.bind_some]
  rw [times_a, times_b]
  rfl
theorem spec_times_f (h : InE a b) (g : InE c d) : spec_l02Mul.f a b c d = some (timesE a b c d) := by
  unfold spec_l02Mul.f
  have h1 := mod_lt (a * c)
  have h2 := mod_lt (b * d)
  have h3 := mod_lt (3 * (b * d % 2130706433))
  have h4 := mod_lt (a * d)
  have h5 := mod_lt (b * c)
  rw [spec_mul_f h.a0 h.a1 g.a0 g.a1, spec_mul_f h.b0 h.b1 g.b0 g.b1, spec_mul_f h.a0 h.a1 g.b0 g.b1, spec_mul_f h.b0 h.b1 g.a0 g.a1]
  simp only [Option.bind_some]
  rw [three_mod h2.1 h2.2, spec_add_f h1.1 h1.2 h3.1 h3.2]
  simp only [Option.bind_some]
  rw [spec_add_f h4.1 h4.2 h5.1 h5.2]
  simp only [Option.bind_some]
  rw [times_a, times_b]
  rfl
end
end Go.Proofs.Ytnggbahcmhdjnaa.Pure
end
section
/- Plain laws on lists of the greater field's elements: are they all in it. Lists alone. -/
namespace Go.Proofs.Ytnggbahcmhdjnaa.Pure
open Go Go.RowKit Go.Proofs.Ytnggbahcmhdjnaa.Print Go.Proofs.YtnggbahcmhdjnaaW.PrintWords Go.Proofs.YtnggbahcmhdjnaaW.PrintLast
set_option linter.unusedSimpArgs false
set_option linter.unusedVariables false

def okX (x : S24) : Bool := okE x.f0 x.f1
theorem rdX (l : List S24) (i : Nat) : rd_T24 l (i : Int) = l.getD i z24 := by simp [rd_T24]
theorem are_Ext_f (l : List S24) : are_Ext.f l = some (l.all okX) := by
  unfold are_Ext.f
  simp only [impl_ExtOK_f, Option.getD_some]
  rfl
theorem okX_getD {l : List S24} (h : l.all okX = true) {i : Nat} (hi : i < l.length) : InE (l.getD i z24).f0 (l.getD i z24).f1 := by
  rw [List.getD_eq_getElem?_getD, List.getElem?_eq_getElem hi]
  exact okE_true (List.all_eq_true.1 h _ (List.getElem_mem hi))
theorem allX_drop {l : List S24} {p : S24 → Bool} (i : Nat) (h : i < l.length) : (l.drop i).all p = (p (l.getD i z24) && (l.drop (i + 1)).all p) := by
  rw [List.drop_eq_getElem_cons h, List.all_cons, List.getD_eq_getElem?_getD, List.getElem?_eq_getElem h]; rfl
theorem spec_list_l (l : List S24) (hn : l.length ≤ 1000000000) (d : Nat) : ∀ (i : Nat), i + d = l.length → Ev (fun k => spec_l02List.l0 k l (i : Int)) ((l.drop i).all okX) := by
  induction d with
  | zero =>
    intro i hi
    refine Ev.step (f := fun _ => some true) (fun k => by rw [spec_l02List.l0, if_neg (by omega)]) (ev_val (Ev.now _) ?_)
    rw [List.drop_of_length_le (by omega)]; rfl
  | succ d ih =>
    intro i hi
    rw [allX_drop i (by omega)]
    by_cases hk : okX (l.getD i z24) = true
    · rw [hk, Bool.true_and]
      refine Ev.step (fun k => ?_) (ih (i + 1) (by omega))
      rw [spec_l02List.l0, if_pos (by omega), if_pos (by omega), rdX, spec_ExtOK_f]
      simp only [Option.bind_some]
      unfold okX at hk
      rw [hk, if_pos rfl, wrap_small (by omega) (by omega)]
      rfl
    · rw [Bool.not_eq_true] at hk
      rw [hk, Bool.false_and]
      refine Ev.step (f := fun _ => some false) (fun k => ?_) (Ev.now _)
      rw [spec_l02List.l0, if_pos (by omega), if_pos (by omega), rdX, spec_ExtOK_f]
      simp only [Option.bind_some]
      rw [if_neg (by unfold okX at hk; rw [hk]; decide)]
theorem spec_list_ev (l : List S24) (hn : l.length ≤ 1000000000) : Ev (fun k => spec_l02List.f k l) (l.all okX) := by
  have h := spec_list_l l hn l.length 0 (by omega)
  exact h
end Go.Proofs.Ytnggbahcmhdjnaa.Pure
end
section
/- Plain laws on the dot product of two lists of elements. Lists alone. -/
namespace Go.Proofs.Ytnggbahcmhdjnaa.Pure
open Go Go.RowKit Go.Proofs.Ytnggbahcmhdjnaa.Print Go.Proofs.YtnggbahcmhdjnaaW.PrintWords Go.Proofs.YtnggbahcmhdjnaaW.PrintLast
set_option linter.unusedSimpArgs false
set_option linter.unusedVariables false

theorem dot_l (l m : List S24) (hl : l.all okX = true) (hm : m.all okX = true) (hlm : l.length = m.length) (hn : l.length ≤ 4096) (d : Nat) : ∀ (i : Nat) (a b : Int), i + d = l.length → InE a b → ∃ u v, Ev (fun k => spec_ExtDot.l0 k l m (i : Int) a b) (u, v, 0) ∧ Ev (fun k => impl_dot.l0 k m l (l.length : Int) (i : Int) a b) (u, v) := by
  induction d with
  | zero =>
    intro i a b hi h
    exact ⟨a, b, Ev.step (f := fun _ => some (a, b, 0)) (fun k => by rw [spec_ExtDot.l0, if_neg (by omega)]) (Ev.now _), Ev.step (f := fun _ => some (a, b)) (fun k => by rw [impl_dot.l0, if_neg (by omega)]) (Ev.now _)⟩
  | succ d ih =>
    intro i a b hi h
    have h1 := okX_getD hl (show i < l.length by omega)
    have h2 := okX_getD hm (show i < m.length by omega)
    have h3 := timesE_in (l.getD i z24).f0 (l.getD i z24).f1 (m.getD i z24).f0 (m.getD i z24).f1
    obtain ⟨u, v, hu, hv⟩ := ih (i + 1) _ _ (by omega) (plusE_in a b (timesE (l.getD i z24).f0 (l.getD i z24).f1 (m.getD i z24).f0 (m.getD i z24).f1).1 (timesE (l.getD i z24).f0 (l.getD i z24).f1 (m.getD i z24).f0 (m.getD i z24).f1).2)
    refine ⟨u, v, Ev.step (fun k => ?_) hu, Ev.step (fun k => ?_) hv⟩
    · rw [spec_ExtDot.l0, if_pos (by omega), if_pos (by omega), if_pos (by omega), rdX, rdX, spec_times_f h1 h2]
      simp only [Option.bind_some]
      rw [spec_plus_f h h3, wrap_small (by omega) (by omega)]
      rfl
    · rw [impl_dot.l0, if_pos (by omega), if_pos (by omega), if_pos (by omega), if_pos (by omega), rdX, rdX, impl_times_f h1 h2]
      simp only [Option.bind_some]
      rw [impl_plus_f h h3, wrap_small (by omega) (by omega)]
      rfl
/-- The two answer alike. -/
theorem dot_ev (l m : List S24) : ∃ u v e, Ev (fun k => spec_ExtDot.f k l m) (u, v, e) ∧ Ev (fun k => impl_ExtDot.f k l m) (u, v, e) := by
  unfold spec_ExtDot.f impl_ExtDot.f impl_areLists.f
  by_cases h : (l.length : Int) > 4096 ∨ (m.length : Int) > 4096
  · have hs : Ev (fun k => spec_ExtDot.j0 k l m true) (0, 0, 2) := Ev.step (f := fun _ => some (0, 0, 2)) (fun k => by rw [spec_ExtDot.j0, if_pos rfl]) (Ev.now _)
    have hi : Ev (fun k => impl_areLists.j0 k l m true) 2 := Ev.step (f := fun _ => some 2) (fun k => by rw [impl_areLists.j0, if_pos rfl]) (Ev.now _)
    refine ⟨0, 0, 2, ?_, ?_⟩
    · by_cases h1 : (l.length : Int) > 4096
      · exact ev_pos h1 hs
      · refine ev_neg h1 ?_
        rw [decide_eq_true (by omega)]
        exact hs
    · refine ev_bind (a := 2) ?_ (ev_neg (by omega) (Ev.now _))
      by_cases h1 : (l.length : Int) > 4096
      · exact ev_pos h1 hi
      · refine ev_neg h1 ?_
        rw [decide_eq_true (by omega)]
        exact hi
  · have n1 : ¬ (l.length : Int) > 4096 := by omega
    have n2 : ¬ (m.length : Int) > 4096 := by omega
    by_cases hl : l.all okX = true
    · by_cases hm : m.all okX = true
      · have hi : Ev (fun k => impl_areLists.j0 k l m false) 0 := Ev.step (f := fun _ => some 0) (fun k => by rw [impl_areLists.j0, if_neg (by decide), are_Ext_f, are_Ext_f, hl, hm]; rfl) (Ev.now _)
        by_cases hlm : (l.length : Int) = (m.length : Int)
        · obtain ⟨u, v, hu, hv⟩ := dot_l l m hl hm (by omega) (by omega) l.length 0 0 0 (by omega) ⟨by omega, by omega, by omega, by omega⟩
          refine ⟨u, v, 0, ?_, ?_⟩
          · refine ev_neg n1 ?_
            rw [decide_eq_false n2]
            refine Ev.step (fun k => by rw [spec_ExtDot.j0, if_neg (by decide)]) ?_
            refine ev_bind (ev_val (spec_list_ev l (by omega)) hl) (ev_pos rfl (ev_bind (ev_val (spec_list_ev m (by omega)) hm) ?_))
            exact Ev.step (f := fun k => spec_ExtDot.l0 k l m 0 0 0) (fun k => by simp only [Bool.not_true]; rw [spec_ExtDot.j1, if_neg (by decide), if_pos hlm]) hu
          · refine ev_bind (a := 0) ?_ (ev_pos rfl (ev_pos hlm (ev_bind (a := (u, v)) hv (Ev.now _))))
            refine ev_neg n1 ?_
            rw [decide_eq_false n2]
            exact hi
        · refine ⟨0, 0, 8, ?_, ?_⟩
          · refine ev_neg n1 ?_
            rw [decide_eq_false n2]
            refine Ev.step (fun k => by rw [spec_ExtDot.j0, if_neg (by decide)]) ?_
            refine ev_bind (ev_val (spec_list_ev l (by omega)) hl) (ev_pos rfl (ev_bind (ev_val (spec_list_ev m (by omega)) hm) ?_))
            exact Ev.step (f := fun k => some (0, 0, 8)) (fun k => by simp only [Bool.not_true]; rw [spec_ExtDot.j1, if_neg (by decide), if_neg hlm]) (Ev.now _)
          · refine ev_bind (a := 0) ?_ (ev_pos rfl (ev_neg hlm (Ev.now _)))
            refine ev_neg n1 ?_
            rw [decide_eq_false n2]
            exact hi
      · rw [Bool.not_eq_true] at hm
        have hi : Ev (fun k => impl_areLists.j0 k l m false) 1 := Ev.step (f := fun _ => some 1) (fun k => by rw [impl_areLists.j0, if_neg (by decide), are_Ext_f, are_Ext_f, hl, hm]; rfl) (Ev.now _)
        refine ⟨0, 0, 1, ?_, ?_⟩
        · refine ev_neg n1 ?_
          rw [decide_eq_false n2]
          refine Ev.step (fun k => by rw [spec_ExtDot.j0, if_neg (by decide)]) ?_
          refine ev_bind (ev_val (spec_list_ev l (by omega)) hl) (ev_pos rfl (ev_bind (ev_val (spec_list_ev m (by omega)) hm) ?_))
          exact Ev.step (f := fun k => some (0, 0, 1)) (fun k => by simp only [Bool.not_false]; rw [spec_ExtDot.j1, if_pos rfl]) (Ev.now _)
        · refine ev_bind (a := 1) ?_ (ev_neg (by omega) (Ev.now _))
          refine ev_neg n1 ?_
          rw [decide_eq_false n2]
          exact hi
    · rw [Bool.not_eq_true] at hl
      have hi : Ev (fun k => impl_areLists.j0 k l m false) 1 := Ev.step (f := fun _ => some 1) (fun k => by rw [impl_areLists.j0, if_neg (by decide), are_Ext_f, hl]; rfl) (Ev.now _)
      refine ⟨0, 0, 1, ?_, ?_⟩
      · refine ev_neg n1 ?_
        rw [decide_eq_false n2]
        refine Ev.step (fun k => by rw [spec_ExtDot.j0, if_neg (by decide)]) ?_
        refine ev_bind (ev_val (spec_list_ev l (by omega)) hl) (ev_neg (by decide) ?_)
        exact Ev.step (f := fun k => some (0, 0, 1)) (fun k => by rw [spec_ExtDot.j1, if_pos rfl]) (Ev.now _)
      · refine ev_bind (a := 1) ?_ (ev_neg (by omega) (Ev.now _))
        refine ev_neg n1 ?_
        rw [decide_eq_false n2]
        exact hi
end Go.Proofs.Ytnggbahcmhdjnaa.Pure
end
section
/- Plain laws on the weights of lists of elements. Lists alone. -/
namespace Go.Proofs.Ytnggbahcmhdjnaa.Pure
open Go Go.RowKit Go.Proofs.Ytnggbahcmhdjnaa.Print Go.Proofs.YtnggbahcmhdjnaaW.PrintWords Go.Proofs.YtnggbahcmhdjnaaW.PrintLast
set_option linter.unusedSimpArgs false
set_option linter.unusedVariables false

theorem szExtS_f {a : Int} (l : List S23) (h0 : 0 ≤ a) (h1 : a ≤ 1048576) (hl : l.length ≤ 9223372036854775807) : laws_szExtS.f l a = some (if (l.length : Int) ≤ a then a - (l.length : Int) else -1) := by
  unfold laws_szExtS.f
  rw [wrap_small (by omega) (by omega)]
  by_cases h : (l.length : Int) ≤ a
  · rw [if_neg (by omega), if_pos h]
  · rw [if_pos (by omega), if_neg h]
end Go.Proofs.Ytnggbahcmhdjnaa.Pure
end
section
/- The law FnExactExtDot: ExtDot answers as the reference does; no conditions. -/
namespace Go.Proofs.Ytnggbahcmhdjnaa.Pure
open Go.RowKit Go.Proofs.Ytnggbahcmhdjnaa.Print Go.Proofs.YtnggbahcmhdjnaaW.PrintWords Go.Proofs.YtnggbahcmhdjnaaW.PrintLast
set_option linter.unusedSimpArgs false
set_option linter.unusedVariables false


theorem FnExactExtDot : laws_FnExactExtDot.Pure := by
  intro l m hl _ hm _
  refine Ev.rounds (g := fun k => laws_FnExactExtDot.f k l m) ?_
  unfold laws_FnExactExtDot.f
  refine ev_cbind (szExtS_f l (by omega) (by omega) hl) ?_
  by_cases h : (l.length : Int) ≤ 1048576
  case neg =>
    rw [if_neg h]
    exact ev_pos (by omega) (Ev.now _)
  case pos =>
    rw [if_pos h]
    refine ev_neg (by omega) (ev_cbind (szExtS_f m (by omega) (by omega) hm) ?_)
    by_cases g : (m.length : Int) ≤ 1048576 - (l.length : Int)
    case neg =>
      rw [if_neg g]
      exact ev_pos (by omega) (Ev.now _)
    case pos =>
      rw [if_pos g]
      have h1 := laws_toExtS_ev l (by omega)
      have h2 := laws_toExtS_ev m (by omega)
      obtain ⟨u, v, e, hs, hi⟩ := dot_ev (l.map fun y => (⟨y.f0, y.f1⟩ : S24)) (m.map fun y => (⟨y.f0, y.f1⟩ : S24))
      refine ev_neg (by omega) (ev_bind h1 (ev_bind h2 (ev_bind hs (ev_bind h1 (ev_bind h2 (ev_bind hi ?_))))))
      refine ev_cbind (o := laws_eqExt.f u v u v) (a := true) (by unfold laws_eqExt.f; rw [if_pos rfl, if_pos rfl]) (ev_pos rfl ?_)
      simp only [bne_self_eq_false]
      refine Ev.step (fun k => by rw [laws_FnExactExtDot.j0, if_neg (by decide)]) ?_
      exact ev_bind h1 (ev_bind (laws_eqExtS_ev _ (by rw [List.length_map]; omega)) (ev_pos rfl (ev_bind h2 (ev_bind (laws_eqExtS_ev _ (by rw [List.length_map]; omega)) (ev_pos rfl (Ev.now _))))))

end Go.Proofs.Ytnggbahcmhdjnaa.Pure
end
