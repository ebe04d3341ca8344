/- The reference's permutation as a plain function of lists. -/
import Derived.Test.YtlogocmojnhpbaaGivePermD
namespace Go.Proofs.Ytlogocmojnhpbaa.Print
open Go.RowKit Go.Proofs.YtlogocmojnhpbaaW.PrintWords
set_option linter.unusedVariables false
set_option linter.unusedSimpArgs false
theorem turn.still (x n : Int) (w : World) (h0 : 0 ≤ n) (h1 : n < 64) :
    Calls Try.prog 140 #[.int .u64 x, .int .u64 n] w fun e w' => e = .returned (.int .u64 (turnL x n)) ∧ w' = w := by
  unfold turnL
  by_cases hn : n = 0
  · rw [if_pos hn]
    subst hn
    go_enter Try.func140, Try.ntmps140
    go_wp2
    go_ret
    exact ⟨rfl, rfl⟩
  · rw [if_neg hn]
    have d0 : (n == 0) = false := beq_eq_false_iff_ne.2 hn
    have d1 : decide (n = 0) = false := decide_eq_false hn
    have e2 : IntKind.u64.wrap (64 - n) = 64 - n := by simp only [IntKind.wrap, IntKind.bits, IntKind.signed]; simp; omega
    have c0 : decide (0 ≤ n) = true := decide_eq_true h0
    have c1 : decide (0 ≤ 64 - n) = true := decide_eq_true (by omega)
    clear hn
    go_enter Try.func140, Try.ntmps140
    go_wp2
    go_ret
    exact ⟨rfl, rfl⟩
def andU (a b : Int) : Int := Go.bits .and .u64 a b
def flipU (a : Int) : Int := Go.bits .xor .u64 IntKind.u64.max a
def sSums (a : List Int) : Nat → List Int
  | 0 => List.replicate 5 0
  | k + 1 => (sSums a k).set k (xorU (xorU (xorU (xorU (a.getD k 0) (a.getD (k + 5) 0)) (a.getD (k + 10) 0)) (a.getD (k + 15) 0)) (a.getD (k + 20) 0))
theorem sSums_length (a : List Int) (k : Nat) : (sSums a k).length = 5 := by
  induction k with
  | zero => rfl
  | succ k ih => simp [sSums, ih]
def sTheta (c a : List Int) : Nat → List Int
  | 0 => a
  | k + 1 => (sTheta c a k).set k (xorU ((sTheta c a k).getD k 0) (xorU (c.getD ((k + 4) % 5) 0) (turnL (c.getD ((k + 1) % 5) 0) 1)))
theorem sTheta_length (c a : List Int) (k : Nat) : (sTheta c a k).length = a.length := by
  induction k with
  | zero => rfl
  | succ k ih => simp [sTheta, ih]
def sMoveIn (a b : List Int) (x : Nat) : Nat → List Int
  | 0 => b
  | y + 1 => (sMoveIn a b x y).set (y + 5 * ((2 * x + 3 * y) % 5)) (turnL (a.getD (x + 5 * y) 0) (kShifts.getD (x + 5 * y) 0))
theorem sMoveIn_length (a b : List Int) (x k : Nat) : (sMoveIn a b x k).length = b.length := by
  induction k with
  | zero => rfl
  | succ k ih => simp [sMoveIn, ih]
def sMoved (a : List Int) : Nat → List Int
  | 0 => List.replicate 25 0
  | x + 1 => sMoveIn a (sMoved a x) x 5
theorem sMoved_length (a : List Int) (k : Nat) : (sMoved a k).length = 25 := by
  induction k with
  | zero => rfl
  | succ k ih => simp [sMoved, sMoveIn_length, ih]
def sChiIn (b a : List Int) (x : Nat) : Nat → List Int
  | 0 => a
  | y + 1 => (sChiIn b a x y).set (x + 5 * y) (xorU (b.getD (x + 5 * y) 0) (andU (flipU (b.getD ((x + 1) % 5 + 5 * y) 0)) (b.getD ((x + 2) % 5 + 5 * y) 0)))
theorem sChiIn_length (b a : List Int) (x k : Nat) : (sChiIn b a x k).length = a.length := by
  induction k with
  | zero => rfl
  | succ k ih => simp [sChiIn, ih]
def sChi (b a : List Int) : Nat → List Int
  | 0 => a
  | x + 1 => sChiIn b (sChi b a x) x 5
theorem sChi_length (b a : List Int) (k : Nat) : (sChi b a k).length = a.length := by
  induction k with
  | zero => rfl
  | succ k ih => simp [sChi, sChiIn_length, ih]
def sMix (a : List Int) : List Int := sChi (sMoved (sTheta (sSums a 5) a 25) 5) (sTheta (sSums a 5) a 25) 5
def sRound (a : List Int) (c : Int) : List Int := (sMix a).set 0 (xorU ((sMix a).getD 0 0) c)
def sPerm (a : List Int) : Nat → List Int
  | 0 => a
  | r + 1 => sRound (sPerm a r) (kConsts.getD r 0)
theorem sMix_length (a : List Int) : (sMix a).length = a.length := by simp [sMix, sChi_length, sTheta_length]
theorem sPerm_length (a : List Int) (r : Nat) : (sPerm a r).length = a.length := by
  induction r with
  | zero => rfl
  | succ r ih => simp [sPerm, sRound, sMix_length, ih]
end Go.Proofs.Ytlogocmojnhpbaa.Print
