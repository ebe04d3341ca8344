/- The law FnExactNameOK, plainly: NameOK answers as the reference does. -/
import Derived.Test.YtnggbahcmhdjnaaDoorPrint2
import Derived.Lib.Strings
namespace Go.Proofs.YtnggbahcmhdjnaaDoor.Pure
open Go.RowKit Go.Proofs.YtnggbahcmhdjnaaDoor.Print Go.Proofs.YtnggbahcmhdjnaaDoorW.PrintWords Go.Proofs.YtnggbahcmhdjnaaDoorW.PrintLast
set_option linter.unusedVariables false
set_option linter.unusedSimpArgs false
def lettersL : List UInt8 := [97, 98, 99, 100, 101, 102, 103, 104, 105, 106, 107, 108, 109, 110, 111, 112, 113, 114, 115, 116, 117, 118, 119, 120, 121, 122, 65, 66, 67, 68, 69, 70, 71, 72, 73, 74, 75, 76, 77, 78, 79, 80, 81, 82, 83, 84, 85, 86, 87, 88, 89, 90, 95]
def signsL : List UInt8 := [97, 98, 99, 100, 101, 102, 103, 104, 105, 106, 107, 108, 109, 110, 111, 112, 113, 114, 115, 116, 117, 118, 119, 120, 121, 122, 65, 66, 67, 68, 69, 70, 71, 72, 73, 74, 75, 76, 77, 78, 79, 80, 81, 82, 83, 84, 85, 86, 87, 88, 89, 90, 95, 48, 49, 50, 51, 52, 53, 54, 55, 56, 57]
theorem letter_n : ∀ n : Nat, n < 256 → spec_l00Letter.f (n : Int) = some (lettersL.contains (UInt8.ofNat n)) := by decide +kernel
theorem sign_n : ∀ n : Nat, n < 256 → signsL.contains (UInt8.ofNat n) = (lettersL.contains (UInt8.ofNat n) || (decide ((n : Int) ≥ 48) && decide ((n : Int) ≤ 57))) := by decide +kernel
theorem letter_b (b : UInt8) : spec_l00Letter.f (b.toNat : Int) = some (lettersL.contains b) := by
  have := letter_n b.toNat (by have := b.toNat_lt; omega)
  rwa [UInt8.ofNat_toNat] at this
theorem digit_b (b : UInt8) : spec_l00Digit.f (b.toNat : Int) = some (decide ((b.toNat : Int) ≥ 48) && decide ((b.toNat : Int) ≤ 57)) := by
  unfold spec_l00Digit.f
  by_cases h : (b.toNat : Int) ≥ 48
  · rw [if_pos h, decide_eq_true h, Bool.true_and]
  · rw [if_neg h, decide_eq_false h, Bool.false_and]
theorem sign_b (b : UInt8) : signsL.contains b = (lettersL.contains b || (decide ((b.toNat : Int) ≥ 48) && decide ((b.toNat : Int) ≤ 57))) := by
  have := sign_n b.toNat (by have := b.toNat_lt; omega)
  rwa [UInt8.ofNat_toNat] at this
theorem letter_sign (b : UInt8) (h : lettersL.contains b = true) : signsL.contains b = true := by rw [sign_b, h]; rfl
theorem size_data (s : ByteArray) : s.data.toList.length = s.size := by rw [Array.length_toList]; rfl
theorem bt_nat (s : ByteArray) (i : Nat) (h : i < s.data.toList.length) : bt s (i : Int) = ((s.data.toList[i]).toNat : Int) := by
  have h' : ((i : Int)).toNat < s.size := by rw [size_data] at h; simpa using h
  rw [← bt_at s (i : Int) h']
  simp only [Int.toNat_natCast]
  rfl
theorem wrap_nat (i : Nat) (h : i ≤ 1000000) : wrap64 ((i : Int) + 1) = ((i + 1 : Nat) : Int) := by unfold wrap64; omega
theorem word_l (s : ByteArray) (hs : s.size ≤ 40) (d : Nat) : ∀ (i : Nat), i + d = s.data.toList.length → spec_l00Word.l0 (d + 1) s (i : Int) = some ((s.data.toList.drop i).all fun b => signsL.contains b) := by
  have hz := size_data s
  induction d with
  | zero =>
    intro i hi
    rw [spec_l00Word.l0, if_neg (by omega), List.drop_of_length_le (by omega)]
    rfl
  | succ d ih =>
    intro i hi
    have h := ih (i + 1) (by omega)
    have hlt : i < s.data.toList.length := by omega
    have c1 : (i : Int) < (s.size : Int) := by omega
    have c0 : (0 : Int) ≤ (i : Int) := by omega
    rw [spec_l00Word.l0, if_pos c1, if_pos c0, bt_nat s i hlt, letter_b, digit_b, wrap_nat i (by omega), h, List.drop_eq_getElem_cons hlt, List.all_cons, sign_b]
    simp only [Option.bind_some]
    generalize s.data.toList[i] = b
    cases lettersL.contains b <;> cases hd : (decide ((b.toNat : Int) ≥ 48) && decide ((b.toNat : Int) ≤ 57)) <;> simp
/-- What NameOK answers. -/
def nameB (s : ByteArray) : Bool := decide (1 ≤ s.size ∧ s.size ≤ 40) && ((s.data.toList.take 1).all fun b => lettersL.contains b) && (s.data.toList.all fun b => signsL.contains b)
theorem spec_f (s : ByteArray) : spec_NameOK.f (s.data.toList.length + 1) s = some (nameB s) := by
  have hz := size_data s
  unfold spec_NameOK.f spec_l00Word.f nameB
  by_cases h1 : (s.size : Int) < 1
  · rw [if_pos h1, spec_l00Word.j0, if_pos rfl, decide_eq_false (by omega)]
    rfl
  · rw [if_neg h1]
    by_cases h2 : (s.size : Int) > 40
    · rw [if_pos h2, spec_l00Word.j0, if_pos rfl, decide_eq_false (by omega)]
      rfl
    · have h0 : 0 < s.data.toList.length := by omega
      have hb := bt_nat s 0 h0
      rw [if_neg h2, if_pos (by omega), show (0 : Int) = ((0 : Nat) : Int) from rfl, hb, letter_b, decide_eq_true (by omega)]
      simp only [Option.bind_some, Bool.true_and]
      have hw := word_l s (by omega) (s.data.toList.length - 1) 1 (by omega)
      rw [show s.data.toList.length - 1 + 1 = s.data.toList.length by omega] at hw
      obtain ⟨b, t, e⟩ : ∃ b t, s.data.toList = b :: t := by
        cases e : s.data.toList with
        | nil => rw [e] at h0; simp at h0
        | cons b t => exact ⟨b, t, rfl⟩
      rw [spec_l00Word.j0]
      simp only [e] at hw ⊢
      simp only [List.getElem_cons_zero, List.take_succ_cons, List.take_zero, List.all_cons, List.all_nil, Bool.and_true]
      have hw1 : spec_l00Word.l0 (b :: t).length s 1 = some (t.all fun b => signsL.contains b) := hw
      rw [hw1]
      have hls := letter_sign b
      by_cases hx : lettersL.contains b = true
      · rw [if_neg (by rw [hx]; decide), Option.bind_some, hx, hls hx, Bool.true_and, Bool.true_and]
      · have hx' : lettersL.contains b = false := Bool.eq_false_iff.2 hx
        rw [if_pos (by rw [hx']; rfl), hx']
        rfl
theorem all_dropWhile {p : UInt8 → Bool} (m : List UInt8) : (m.dropWhile p).all p = m.all p := by
  induction m with
  | nil => rfl
  | cons x m ih =>
    by_cases h : p x = true
    · rw [List.dropWhile_cons_of_pos h, ih, List.all_cons, h, Bool.true_and]
    · rw [List.dropWhile_cons_of_neg h]
theorem dropWhile_nil {p : UInt8 → Bool} (m : List UInt8) : (m.dropWhile p = []) ↔ m.all p = true := by
  induction m with
  | nil => simp
  | cons x m ih =>
    by_cases h : p x = true
    · rw [List.dropWhile_cons_of_pos h, ih, List.all_cons, h, Bool.true_and]
    · rw [List.dropWhile_cons_of_neg h]
      simp [h]
theorem trimS_nil (l cs : List UInt8) : (Lib.trimS l cs = []) ↔ (l.all fun b => cs.contains b) = true := by
  unfold Lib.trimS Lib.trimLeftS Lib.trimRightS
  rw [dropWhile_nil, List.all_reverse, all_dropWhile, List.all_reverse]
theorem toList_mk (l : List UInt8) : ((⟨l.toArray⟩ : ByteArray).toList = ([] : List UInt8)) ↔ l = [] := by
  rw [Lib.toList_data]
theorem impl_f (s : ByteArray) : impl_NameOK.f s = some (nameB s) := by
  have hz := size_data s
  unfold impl_NameOK.f impl_in.f nameB
  by_cases h1 : (1 : Int) ≤ (s.size : Int)
  · rw [if_pos h1]
    simp only [Option.bind_some, decide_eq_true_eq]
    by_cases h2 : (s.size : Int) ≤ 40
    · rw [if_pos h2, if_pos (by decide), if_pos h1, decide_eq_true (by omega), Bool.true_and]
      have t1 : strings_Trim.f (s.extract 0 1) ⟨lettersL.toArray⟩ = some ⟨(Lib.trimS (s.data.toList.take 1) lettersL).toArray⟩ := by
        unfold strings_Trim.f
        rw [if_pos ⟨by rw [ByteArray.size_extract]; omega, by decide, by decide +kernel⟩]
        rw [Lib.extract_data, List.drop_zero]
      have t2 : strings_Trim.f s ⟨signsL.toArray⟩ = some ⟨(Lib.trimS s.data.toList signsL).toArray⟩ := by
        unfold strings_Trim.f
        rw [if_pos ⟨by omega, by decide, by decide +kernel⟩]
      show ((strings_Trim.f (s.extract 0 1) ⟨lettersL.toArray⟩).bind fun t106 => if t106.toList = ([] : List UInt8) then (strings_Trim.f s ⟨signsL.toArray⟩).bind fun t107 => some (t107.toList == ([] : List UInt8)) else some false) = _
      rw [t1, t2]
      simp only [Option.bind_some]
      have e2 : ((⟨(Lib.trimS s.data.toList signsL).toArray⟩ : ByteArray).toList == ([] : List UInt8)) = s.data.toList.all fun b => signsL.contains b := by
        have q := (toList_mk (Lib.trimS s.data.toList signsL)).trans (trimS_nil s.data.toList signsL)
        cases ha : s.data.toList.all fun b => signsL.contains b with
        | true => exact beq_iff_eq.2 (q.2 ha)
        | false => exact beq_eq_false_iff_ne.2 fun x => by have := q.1 x; rw [ha] at this; cases this
      rw [e2]
      have q := (toList_mk (Lib.trimS (s.data.toList.take 1) lettersL)).trans (trimS_nil (s.data.toList.take 1) lettersL)
      cases ha : (s.data.toList.take 1).all fun b => lettersL.contains b with
      | true => rw [if_pos (q.2 ha), Bool.true_and]
      | false => rw [if_neg fun x => by have := q.1 x; rw [ha] at this; cases this]; rfl
    · rw [if_neg h2, decide_eq_false (by omega)]
      rfl
  · rw [if_neg h1, decide_eq_false (by omega)]
    rfl
theorem nameOK_true (a0 : ByteArray) : ∃ k, laws_FnExactNameOK.f k a0 = some true := by
  refine ⟨a0.data.toList.length + 1, ?_⟩
  unfold laws_FnExactNameOK.f
  by_cases h : (a0.size : Int) > 1048576
  · rw [if_pos h]
  · rw [if_neg h, spec_f, impl_f]
    simp
end Go.Proofs.YtnggbahcmhdjnaaDoor.Pure
