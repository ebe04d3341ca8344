/- Plain words on an array by value: its element. -/
import Derived.Test.YtlogocmojnhpbaaGiveRot
import Derived.Laws.PanicsMore
namespace Go.Proofs.Ytlogocmojnhpbaa.Print
open Go.RowKit Go.Proofs.YtlogocmojnhpbaaW.PrintWords
theorem idx_arr {P : Program} {t e : TypeId} {n : Nat} (h : P.underlying t = some (.array n e)) (hs : ∀ w, (sizeOf e).run P w = .ok 1 w) (ha : ∀ w, (isAgg e).run P w = .ok false w) (k : IntKind) (xs : List Int) (hl : xs.length = n) (j : Nat) (w : World) (hj : j < n) :
    (Instr.index t (.agg (nums k xs).toArray) (.int .i64 (j : Int))).run P w = .ok (.int k (xs.getD j 0)) w := by
  have h1 : (0 : Int) ≤ (j : Int) ∧ (j : Int) < (n : Int) := by omega
  simp [Instr.index, run_underlying h, asIntOf, h1, go_sem]
  rw [if_pos hj, hs]
  simp only [Result.andThen_ok]
  rw [ha]
  simp [nums, List.getElem?_eq_getElem (show j < xs.length by omega)]
theorem size92 (w : World) : (sizeOf 92).run Try.prog w = .ok 1 w := by
  simp [sizeOf, go_sem]
  rfl
theorem agg92 (w : World) : (isAgg 92).run Try.prog w = .ok false w := by
  simp [isAgg, go_sem]
end Go.Proofs.Ytlogocmojnhpbaa.Print
