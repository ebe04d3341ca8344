/- The contract of strings.Trim at an ASCII cutset. -/
import Derived.Test.YtnggbahcmhdjnaaDoorPrint0
import Derived.Test.YtnggbahcmhdjnaaDoorTrim
namespace Go.Proofs.YtnggbahcmhdjnaaDoor.Print
open Go.RowKit Go.Proofs.YtnggbahcmhdjnaaDoorW.PrintWords
set_option linter.unusedVariables false
def strings_Trim.f (a0 a1 : ByteArray) : Option ByteArray :=
  if a0.size ≤ 9223372036854775807 ∧ a1.size < 4294967281 ∧ a1.data.toList.all (fun b => decide (b.toNat < 128)) = true then some ⟨(Lib.trimS a0.data.toList a1.data.toList).toArray⟩ else none
theorem strings_Trim.calls (a0 a1 : ByteArray) (r : ByteArray) (w : World) (h : strings_Trim.f a0 a1 = some r) :
    Calls Tryd.prog 8 #[.string a0, .string a1] w fun e w' => e = .returned (.string r) ∧ Below w.heap.size w w' := by
  unfold strings_Trim.f at h
  split at h
  · next hs =>
    obtain rfl := Option.some.inj h
    have hcon := Any.strings_Trim_laid Tryd.lays160 (by kernel_rfl) a0 a1 w hs.1 hs.2.1 (ascii_of_all hs.2.2)
    exact hcon
  · cases h
end Go.Proofs.YtnggbahcmhdjnaaDoor.Print
