/- The permutation as a plain function of lists; a function's loops taken out of its text. -/
import Derived.Test.YtlogocmojnhpbaaGiveRot
import Derived.StillTailTactics
import Derived.BigQuiet
namespace Go.Proofs.Ytlogocmojnhpbaa.Print
open Go.RowKit Go.Proofs.YtlogocmojnhpbaaW.PrintWords
set_option linter.unusedVariables false
set_option linter.unusedSimpArgs false
def xorU (a b : Int) : Int := Go.bits .xor .u64 a b
def notU (a b : Int) : Int := Go.bits .andNot .u64 a b
def kShifts : List Int := [0, 1, 62, 28, 27, 36, 44, 6, 55, 20, 3, 10, 43, 25, 39, 41, 45, 15, 21, 8, 18, 2, 61, 56, 14]
def kConsts : List Int := [1, 32898, 9223372036854808714, 9223372039002292224, 32907, 2147483649, 9223372039002292353, 9223372036854808585, 138, 136, 2147516425, 2147483658, 2147516555, 9223372036854775947, 9223372036854808713, 9223372036854808579, 9223372036854808578, 9223372036854775936, 32778, 9223372039002259466, 9223372039002292353, 9223372036854808704, 2147483649, 9223372039002292232]
/-- The columns' sums, k lanes in. -/
def kSums (s : List Int) : Nat → List Int
  | 0 => List.replicate 5 0
  | k + 1 => (kSums s k).set (k % 5) (xorU ((kSums s k).getD (k % 5) 0) (s.getD k 0))
theorem kSums_length (s : List Int) (k : Nat) : (kSums s k).length = 5 := by
  induction k with
  | zero => rfl
  | succ k ih => simp [kSums, ih]
def kLane (s c : List Int) (k : Nat) : Int := xorU (s.getD k 0) (xorU (c.getD ((k + 4) % 5) 0) (rotL (c.getD ((k + 1) % 5) 0) 1))
/-- The lanes turned and moved, k of them. -/
def kMoved (s c : List Int) : Nat → List Int
  | 0 => List.replicate 25 0
  | k + 1 => (kMoved s c k).set (k / 5 + 5 * ((2 * (k % 5) + 3 * (k / 5)) % 5)) (rotL (kLane s c k) (kShifts.getD k 0))
theorem kMoved_length (s c : List Int) (k : Nat) : (kMoved s c k).length = 25 := by
  induction k with
  | zero => rfl
  | succ k ih => simp [kMoved, ih]
/-- The rows mixed, k lanes of them. -/
def kChi (m s : List Int) : Nat → List Int
  | 0 => s
  | k + 1 => (kChi m s k).set k (xorU (m.getD k 0) (notU (m.getD (k - k % 5 + (k + 2) % 5) 0) (m.getD (k - k % 5 + (k + 1) % 5) 0)))
theorem kChi_length (m s : List Int) (k : Nat) : (kChi m s k).length = s.length := by
  induction k with
  | zero => rfl
  | succ k ih => simp [kChi, ih]
def kMix (s : List Int) : List Int := kChi (kMoved s (kSums s 25) 25) s 25
def kRound (s : List Int) (c : Int) : List Int := (kMix s).set 0 (xorU ((kMix s).getD 0 0) c)
/-- The state behind r rounds. -/
def kPerm (s : List Int) : Nat → List Int
  | 0 => s
  | r + 1 => kRound (kPerm s r) (kConsts.getD r 0)
theorem kPerm_length (s : List Int) (r : Nat) : (kPerm s r).length = s.length := by
  induction r with
  | zero => rfl
  | succ r ih => simp [kPerm, kRound, kMix, kChi_length, ih]
/-- Only block g of the old ones has turned. -/
def Only (w w' : World) (g : Nat) : Prop := KeepBut w w' g none ∧ ∀ w0 : World, Below w0.heap.size w0 w → w0.heap.size ≤ g → Below w0.heap.size w0 w'
theorem kShifts_all : kShifts.all (fun x => decide (0 ≤ x) && decide (x < 64)) = true := by decide +kernel
theorem kShifts_bd (k : Nat) : 0 ≤ kShifts.getD k 0 ∧ kShifts.getD k 0 < 64 := by
  rw [List.getD_eq_getElem?_getD]
  by_cases h : k < kShifts.length
  · rw [List.getElem?_eq_getElem h]
    have := List.all_eq_true.1 kShifts_all _ (List.getElem_mem h)
    simpa using this
  · rw [List.getElem?_eq_none (by omega)]
    simp
/-- A function's loops, the outer ones first. -/
def codeLoops : Code → List Code
  | .loop c => .loop c :: codeLoops c
  | .seq a b => codeLoops a ++ codeLoops b
  | .block _ c => codeLoops c
  | .scope c => codeLoops c
  | .cond _ a b => codeLoops a ++ codeLoops b
  | _ => []
noncomputable def nthLoop (c : Option Code) (n : Nat) : Code := (codeLoops (c.getD .skip)).getD n .skip
end Go.Proofs.Ytlogocmojnhpbaa.Print
