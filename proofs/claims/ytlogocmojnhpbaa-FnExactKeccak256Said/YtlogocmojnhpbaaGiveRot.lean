/- Contracts: a lane turned, as the program and as the reference write it. -/
import Derived.Test.YtlogocmojnhpbaaGiveArr
import Derived.Test.YtlogocmojnhpbaaWMore
import Derived.Shelf.Abstract
import Derived.WalkKit
namespace Go.Proofs.Ytlogocmojnhpbaa.Print
open Go.RowKit Go.Proofs.YtlogocmojnhpbaaW.PrintWords
set_option linter.unusedVariables false
set_option linter.unusedSimpArgs false
/-- A lane turned left by n, n from 0 to 63. -/
def rotL (x n : Int) : Int := Go.bits .or .u64 (IntKind.u64.wrap (x * 2 ^ n.toNat)) (x / 2 ^ (64 - n).toNat)
theorem and_63 (n : Int) (h0 : 0 ≤ n) (h1 : n < 64) : Go.bits .and .u64 n 63 = n := by
  have e6 : (2 : Int) ^ 6 = 64 := by decide
  have h := bits_mask .u64 6 (by decide) (fun n h0 h1 => by rw [e6] at h1; simp only [IntKind.wrap, IntKind.bits, IntKind.signed]; simp; omega) 6 (by decide) n h0 (by rw [e6]; omega)
  rw [e6] at h
  rw [show (63 : Int) = 64 - 1 by decide, h]
  omega
set_option maxHeartbeats 4000000 in
theorem rot.calls (x n : Int) (w : World) (h0 : 0 ≤ n) (h1 : n < 64) :
    Calls Try.prog 141 #[.int .u64 x, .int .i64 n] w fun e w' => e = .returned (.int .u64 (rotL x n)) ∧ Drawn0 w w' := by
  have e0 : IntKind.u64.wrap n = n := by simp only [IntKind.wrap, IntKind.bits, IntKind.signed]; simp; omega
  have e1 := and_63 n h0 h1
  have e2 : IntKind.u64.wrap (64 - n) = 64 - n := by simp only [IntKind.wrap, IntKind.bits, IntKind.signed]; simp; omega
  have c0 : decide (0 ≤ n) = true := decide_eq_true h0
  have c1 : decide (0 ≤ 64 - n) = true := decide_eq_true (by omega)
  go_enter Try.func141, Try.ntmps141
  go_wp2
  go_ret
  exact ⟨rfl, Drawn0.refl _⟩
/-- A lane turned left by n as the reference writes it: by 0 it is itself. -/
def turnL (x n : Int) : Int := if n = 0 then x else rotL x n
set_option maxHeartbeats 4000000 in
theorem turn.calls (x n : Int) (w : World) (h0 : 0 ≤ n) (h1 : n < 64) :
    Calls Try.prog 140 #[.int .u64 x, .int .u64 n] w fun e w' => e = .returned (.int .u64 (turnL x n)) ∧ Drawn0 w w' := by
  unfold turnL
  by_cases hn : n = 0
  · rw [if_pos hn]
    subst hn
    go_enter Try.func140, Try.ntmps140
    go_wp2
    go_ret
    exact ⟨rfl, Drawn0.refl _⟩
  · rw [if_neg hn]
    have d0 : (n == 0) = false := beq_eq_false_iff_ne.2 hn
    have d1 : decide (n = 0) = false := decide_eq_false hn
    have e2 : IntKind.u64.wrap (64 - n) = 64 - n := by simp only [IntKind.wrap, IntKind.bits, IntKind.signed]; simp; omega
    have c0 : decide (0 ≤ n) = true := decide_eq_true h0
    have c1 : decide (0 ≤ 64 - n) = true := decide_eq_true (by omega)
    clear hn
    go_enter Try.func140, Try.ntmps140
    go_wp2
    go_ret
    exact ⟨rfl, Drawn0.refl _⟩
end Go.Proofs.Ytlogocmojnhpbaa.Print
