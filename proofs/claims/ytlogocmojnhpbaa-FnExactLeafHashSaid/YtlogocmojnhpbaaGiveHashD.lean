/- Plain words: a message's padding, its blocks, the hash. -/
import Derived.Test.YtlogocmojnhpbaaGivePmuE
namespace Go.Proofs.Ytlogocmojnhpbaa.Print
open Go.RowKit Go.Proofs.YtlogocmojnhpbaaW.PrintWords Go.Proofs.YtlogocmojnhpbaaW.PrintLast
/-- How many noughts stand behind a message of n bytes (the byte 1 counted). -/
def kGap (n : Nat) : Nat := (136 - n % 136) % 136
theorem kGap_whole (n : Nat) : (n + kGap n) % 136 = 0 := by unfold kGap; omega
theorem kGap_lt (n : Nat) : kGap n < 136 := by unfold kGap; omega
theorem kGap_part {n k : Nat} (h : k < kGap n) : (n + k) % 136 ≠ 0 := by unfold kGap at h; omega
/-- A message and k noughts. -/
def kFill (m : List Int) (k : Nat) : List Int := m ++ List.replicate k 0
theorem kFill_length (m : List Int) (k : Nat) : (kFill m k).length = m.length + k := by simp [kFill]
theorem kFill_succ (m : List Int) (k : Nat) : kFill m k ++ [0] = kFill m (k + 1) := by simp [kFill, List.replicate_succ']
theorem kFill_zero (m : List Int) : kFill m 0 = m := by simp [kFill]
/-- The highest bit of the last byte. -/
def kMark (m : List Int) : List Int := m.set (m.length - 1) (Go.bits .or .u8 (m.getD (m.length - 1) 0) 128)
theorem kMark_length (m : List Int) : (kMark m).length = m.length := by simp [kMark]
def kPad (xs : List Int) : List Int := kMark (kFill (xs ++ [1]) (kGap (xs.length + 1)))
theorem kPad_length (xs : List Int) : (kPad xs).length = xs.length + 1 + kGap (xs.length + 1) := by simp [kPad, kMark_length, kFill_length]
theorem kPad_whole (xs : List Int) : (kPad xs).length % 136 = 0 := by rw [kPad_length]; exact kGap_whole _
/-- Lanes of another state taken in, the first i. -/
def kXor (a x : List Int) : Nat → List Int
  | 0 => a
  | i + 1 => (kXor a x i).set i (xorU ((kXor a x i).getD i 0) (x.getD i 0))
theorem kXor_length (a x : List Int) (i : Nat) : (kXor a x i).length = a.length := by
  induction i with
  | zero => rfl
  | succ i ih => simp [kXor, ih]
theorem kXor_in {a x : List Int} (h : AllU a) (i : Nat) : AllU (kXor a x i) := by
  induction i with
  | zero => exact h
  | succ i ih => exact ih.set i (bitsU_in _ _ _)
def kBlock (m : List Int) (i : Nat) : List Int := (m.drop (136 * i)).take 136
theorem kBlock_length {m : List Int} {i n : Nat} (h : m.length = 136 * n) (hi : i < n) : (kBlock m i).length = 136 := by
  simp [kBlock, h]
  omega
/-- The state behind i blocks. -/
def kSp (m : List Int) : Nat → List Int
  | 0 => List.replicate 25 0
  | i + 1 => kPerm (kXor (kSp m i) (kLanes (kBlock m i) 136) 25) 24
theorem kSp_length (m : List Int) (i : Nat) : (kSp m i).length = 25 := by
  induction i with
  | zero => simp [kSp]
  | succ i ih => rw [kSp, kPerm_length, kXor_length, ih]
theorem all_zero25 : AllU (List.replicate 25 0) := by
  intro x hx
  obtain rfl := List.eq_of_mem_replicate hx
  exact ⟨by decide, by decide⟩
theorem kSp_in (m : List Int) (i : Nat) : AllU (kSp m i) := by
  induction i with
  | zero => exact all_zero25
  | succ i ih => exact kPerm_in (kXor_in ih 25) 24
theorem kSp_spec (m : List Int) (i : Nat) : kSp m (i + 1) = sPerm (kXor (kSp m i) (kLanes (kBlock m i) 136) 25) 24 := by
  rw [kSp, perm_eq (by rw [kXor_length, kSp_length]) (kXor_in (kSp_in m i) 25)]
/-- The hash of a message's bytes. -/
def kHash (xs : List Int) : List Int := kText (kSp (kPad xs) ((kPad xs).length / 136)) 32
theorem kHash_length (xs : List Int) : (kHash xs).length = 32 := kText_length _ _
theorem kText_take (s : List Int) {i n : Nat} (h : i ≤ n) : (kText s n).take i = kText s i := by
  induction n with
  | zero =>
    obtain rfl : i = 0 := by omega
    rfl
  | succ n ih =>
    by_cases e : i = n + 1
    · subst e
      rw [List.take_of_length_le (by rw [kText_length]; omega)]
    · rw [kText, List.take_append_of_le_length (by rw [kText_length]; omega), ih (by omega)]
end Go.Proofs.Ytlogocmojnhpbaa.Print
