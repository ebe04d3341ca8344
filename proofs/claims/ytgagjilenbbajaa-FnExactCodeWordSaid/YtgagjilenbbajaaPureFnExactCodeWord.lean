/- The law FnExactCodeWord: CodeWord answers as the reference does; no conditions. -/
import Derived.Test.YtgagjilenbbajaaPrint1
import Derived.Test.YtgagjilenbbajaaPureF
namespace Go.Proofs.Ytgagjilenbbajaa.Pure
open Go.RowKit Go.Proofs.Ytgagjilenbbajaa.Print Go.Proofs.YtgagjilenbbajaaW.PrintWords Go.Proofs.YtgagjilenbbajaaW.PrintLast
set_option linter.unusedSimpArgs false


def codes' : List ByteArray := (impl_codeWords.f).getD []
theorem codeWords_f' : impl_codeWords.f = some codes' := rfl
theorem spec_code_f' (i : Int) (h0 : 0 ≤ i) (h1 : i < 20) : spec_CodeWord.f i = some (rdOf ByteArray.empty codes' i) := by
  unfold spec_CodeWord.f
  simp only [Option.bind_some]
  show (if i < 0 then _ else if i ≥ (((20 : Nat) : Int)) then _ else if 0 ≤ i then (if i < (((20 : Nat) : Int)) then _ else none) else none) = _
  rw [if_neg (by omega), if_neg (by omega), if_pos h0, if_pos (by omega)]
  rfl
theorem if_neg_code (i : Int) (h : ¬ (0 ≤ i ∧ i ≤ 19)) : spec_CodeWord.f i = some (⟨#[]⟩ : ByteArray) := by
  unfold spec_CodeWord.f
  simp only [Option.bind_some]
  show (if i < 0 then _ else if i ≥ (((20 : Nat) : Int)) then _ else if 0 ≤ i then (if i < (((20 : Nat) : Int)) then _ else none) else none) = _
  by_cases h0 : i < 0
  · rw [if_pos h0]
  · rw [if_neg h0, if_pos (by omega)]

theorem FnExactCodeWord : laws_FnExactCodeWord.Pure := by
  intro a _
  unfold laws_FnExactCodeWord.f impl_CodeWord.f
  rw [impl_in_f, codeWords_f']
  have e : ((codes'.length : Nat) : Int) = 20 := rfl
  by_cases h : 0 ≤ a ∧ a ≤ 19
  · rw [spec_code_f' a h.1 (by omega)]
    simp only [Option.bind_some, e]
    rw [if_pos (decide_eq_true h), if_pos h.1, if_pos (by omega)]
    simp
  · rw [if_neg_code a h]
    simp [h]

end Go.Proofs.Ytgagjilenbbajaa.Pure
