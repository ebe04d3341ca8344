/- The program's Permute and the reference's answer alike, at every text. -/
import Derived.Test.YtlogocmojnhpbaaGivePmuI
import Derived.Test.YtlogocmojnhpbaaGivePmuS
import Derived.Test.YtlogocmojnhpbaaGivePermP
namespace Go.Proofs.Ytlogocmojnhpbaa.Print
open Go.RowKit Go.Proofs.YtlogocmojnhpbaaW.PrintWords Go.Proofs.YtlogocmojnhpbaaW.PrintLast
theorem kLanes_in (xs : List Int) (i : Nat) : AllU (kLanes xs i) := by
  induction i with
  | zero =>
    intro x hx
    obtain rfl := List.eq_of_mem_replicate hx
    exact ⟨by decide, by decide⟩
  | succ i ih => exact ih.set (i / 8) (bitsU_in _ _ _)
theorem permute_eq (s : ByteArray) : iPermute s = sPermute s := by
  unfold iPermute sPermute
  rw [perm_eq (kLanes_length _ _) (kLanes_in _ _)]
end Go.Proofs.Ytlogocmojnhpbaa.Print
