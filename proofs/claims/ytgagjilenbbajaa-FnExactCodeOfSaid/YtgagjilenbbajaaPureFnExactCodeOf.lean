/- The law FnExactCodeOf: CodeOf answers as the reference does; no conditions. -/
import Derived.Test.YtgagjilenbbajaaPrint2
import Derived.Test.YtgagjilenbbajaaPureF
namespace Go.Proofs.Ytgagjilenbbajaa.Pure
open Go.RowKit Go.Proofs.Ytgagjilenbbajaa.Print Go.Proofs.YtgagjilenbbajaaW.PrintWords Go.Proofs.YtgagjilenbbajaaW.PrintLast
set_option linter.unusedSimpArgs false


def codes : List ByteArray := (impl_codeWords.f).getD []
theorem codeWords_f : impl_codeWords.f = some codes := rfl
theorem spec_code_f (i : Int) (h0 : 0 ≤ i) (h1 : i < 20) : spec_CodeWord.f i = some (rdOf ByteArray.empty codes i) := by
  unfold spec_CodeWord.f
  simp only [Option.bind_some]
  show (if i < 0 then _ else if i ≥ (((20 : Nat) : Int)) then _ else if 0 ≤ i then (if i < (((20 : Nat) : Int)) then _ else none) else none) = _
  rw [if_neg (by omega), if_neg (by omega), if_pos h0, if_pos (by omega)]
  rfl
theorem codes_alike (s : ByteArray) (d : Nat) : ∀ (k : Nat) (i : Int), 0 ≤ i → i + d = 20 → d < k → ∃ r, spec_CodeOf.l0 k s i = some r ∧ slices_Index_string_string.l0 k codes s 20 i = some r := by
  induction d with
  | zero =>
    intro k i h0 h1 hk
    obtain ⟨k, rfl⟩ : ∃ m, k = m + 1 := ⟨k - 1, by omega⟩
    refine ⟨-1, ?_, ?_⟩
    · rw [spec_CodeOf.l0, if_neg (by omega)]
    · rw [slices_Index_string_string.l0, if_neg (by omega)]
  | succ d ih =>
    intro k i h0 h1 hk
    obtain ⟨k, rfl⟩ : ∃ m, k = m + 1 := ⟨k - 1, by omega⟩
    rw [spec_CodeOf.l0, if_pos (by omega), spec_code_f i h0 (by omega), slices_Index_string_string.l0, if_pos (by omega), if_pos h0, if_pos (show i < ((codes.length : Nat) : Int) from (show i < 20 by omega))]
    simp only [Option.bind_some]
    have hw : wrap64 (i + 1) = i + 1 := by unfold wrap64; omega
    rw [hw]
    by_cases e : (rdOf ByteArray.empty codes i).toList = s.toList
    · exact ⟨i, by rw [if_pos e], by rw [if_pos e.symm]⟩
    · obtain ⟨r, h2, h3⟩ := ih k (i + 1) (by omega) (by omega) (by omega)
      exact ⟨r, by rw [if_neg e, h2], by rw [if_neg (fun q => e q.symm), h3]⟩

theorem FnExactCodeOf : laws_FnExactCodeOf.Pure := by
  intro s _
  refine ⟨30, ?_⟩
  unfold laws_FnExactCodeOf.f
  by_cases h : (s.size : Int) > 1048576
  · rw [if_pos h]
  · rw [if_neg h]
    unfold spec_CodeOf.f impl_CodeOf.f slices_Index_string_string.f
    rw [codeWords_f]
    obtain ⟨r, h1, h2⟩ := codes_alike s 20 30 0 (by omega) (by omega) (by omega)
    have e : ((codes.length : Nat) : Int) = 20 := rfl
    simp only [Option.bind_some, e, h1, h2, if_true]

end Go.Proofs.Ytgagjilenbbajaa.Pure
