-- Packed by a program of this session (slim.py): the plain laws that FnExactPermute needs.
import Derived.Test.YtlogocmojnhpbaaQFnExactPermute0
import Derived.Test.YtlogocmojnhpbaaQFnExactPermute1
section
/- The law FnExactPermute: Permute answers as the reference does; no conditions. -/
namespace Go.Proofs.Ytlogocmojnhpbaa.Pure
open Go.RowKit Go.Proofs.Ytlogocmojnhpbaa.Print Go.Proofs.YtlogocmojnhpbaaW.PrintWords Go.Proofs.YtlogocmojnhpbaaW.PrintLast

/-- YOURS: ∀ (a0 : ByteArray), a0.size ≤ 140737488351232 → laws_FnExactPermute.f a0 = some true
What it reaches (each with k first where it has rounds; `.mono`: more rounds tell the same; `.l0`, ..: its loops, with `.mono_l`): laws_FnExactPermute.f -/
theorem FnExactPermute : laws_FnExactPermute.Pure := by
  unfold laws_FnExactPermute.Pure laws_FnExactPermute.f spec_Permute.f impl_Permute.f
  intros
  first
  | (simp; done)
  | (split <;> simp)
  | (refine ⟨0, ?_⟩; split <;> simp)

end Go.Proofs.Ytlogocmojnhpbaa.Pure
end
