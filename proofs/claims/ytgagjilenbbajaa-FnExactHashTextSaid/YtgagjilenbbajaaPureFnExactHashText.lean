/- The law FnExactHashText: HashText answers as the reference does; no conditions. -/
import Derived.Test.YtgagjilenbbajaaPrint2
import Derived.Test.YtgagjilenbbajaaPureF
namespace Go.Proofs.Ytgagjilenbbajaa.Pure
open Go.RowKit Go.Proofs.Ytgagjilenbbajaa.Print Go.Proofs.YtgagjilenbbajaaW.PrintWords Go.Proofs.YtgagjilenbbajaaW.PrintLast
set_option linter.unusedSimpArgs false


theorem hash_text_l (s : ByteArray) (hs : (s.size : Int) ≤ 1048576) : ∀ (k : Nat) (xs : List Int) (i : Int), 0 ≤ i → impl_HashText.l0 k s xs (s.size : Int) i = spec_HashText.l0 k s xs i := by
  intro k
  induction k with
  | zero => intro xs i _; rfl
  | succ k ih =>
    intro xs i hi
    rw [impl_HashText.l0, spec_HashText.l0]
    by_cases h : i < (s.size : Int)
    · simp only [if_pos h, if_pos hi]
      have hx : ∀ ys, (0 : Int) ≤ wrap64 (i + 1) → impl_HashText.l0 k s ys (s.size : Int) (wrap64 (i + 1)) = spec_HashText.l0 k s ys (wrap64 (i + 1)) := fun ys h0 => ih ys _ h0
      have h1 : (0 : Int) ≤ wrap64 (i + 1) := by unfold wrap64; omega
      simp only [hx _ h1]
    · simp only [if_neg h]

theorem impl_hash_text (k : Nat) (s : ByteArray) (hs : (s.size : Int) ≤ 1048576) : impl_HashText.f k s = spec_HashText.f k s := by
  unfold impl_HashText.f spec_HashText.f impl_isLong.f impl_isHash.f
  simp only [Option.bind_some, decide_eq_true_eq, beq_iff_eq]
  rw [hash_text_l s hs k [] 0 (by omega)]

theorem and15_range (b : Int) (h0 : 0 ≤ b) (h1 : b ≤ 255) : 0 ≤ Go.bits .and .u8 b 15 ∧ Go.bits .and .u8 b 15 < 16 := by
  have h := bits_mask .u8 8 (by decide) (fun n h0 h1 => by rw [show (2 : Int) ^ 8 = 256 by decide] at h1; rw [IntKind.wrap_u8]; omega) 4 (by decide) b h0 (by rw [show (2 : Int) ^ 8 = 256 by decide]; omega)
  rw [show ((2 : Int) ^ 4 - 1) = 15 by decide, show ((2 : Int) ^ 4) = 16 by decide] at h
  rw [h]
  omega

theorem hash_text_some (s : ByteArray) (hs : (s.size : Int) = 32) (d : Nat) : ∀ (k : Nat) (xs : List Int) (i : Int), 0 ≤ i → i + d = 32 → d < k → (xs.length : Int) = 2 * i → ∃ r, spec_HashText.l0 k s xs i = some r := by
  induction d with
  | zero =>
    intro k xs i h0 h1 hk hl
    obtain ⟨k, rfl⟩ : ∃ m, k = m + 1 := ⟨k - 1, by omega⟩
    exact ⟨_, by rw [spec_HashText.l0, if_neg (by omega)]⟩
  | succ d ih =>
    intro k xs i h0 h1 hk hl
    obtain ⟨k, rfl⟩ : ∃ m, k = m + 1 := ⟨k - 1, by omega⟩
    have hb := bt_range s i
    have ha := and15_range (bt s i) hb.1 hb.2
    rw [spec_HashText.l0, if_pos (by omega), if_pos h0, if_pos (by omega), if_pos (by omega), if_pos ha.1, if_pos ha.2]
    simp only [Option.bind_some]
    rw [if_pos (by simp; omega), show wrap64 (i + 1) = i + 1 by unfold wrap64; omega]
    exact ih k _ (i + 1) (by omega) (by omega) (by omega) (by simp; omega)

theorem FnExactHashText : laws_FnExactHashText.Pure := by
  intro s _
  refine ⟨40, ?_⟩
  unfold laws_FnExactHashText.f
  by_cases h : (s.size : Int) > 1048576
  · rw [if_pos h]
  · rw [if_neg h, impl_hash_text _ _ (by omega)]
    obtain ⟨r, hr⟩ : ∃ r, spec_HashText.f 40 s = some r := by
      unfold spec_HashText.f
      by_cases h1 : (s.size : Int) > 65536
      · exact ⟨_, by rw [if_pos h1]⟩
      · rw [if_neg h1]
        by_cases h2 : (s.size : Int) = 32
        · rw [if_pos h2]
          exact hash_text_some s h2 32 40 [] 0 (by omega) (by omega) (by omega) (by simp)
        · exact ⟨_, by rw [if_neg h2]⟩
    rw [hr]
    simp

end Go.Proofs.Ytgagjilenbbajaa.Pure
