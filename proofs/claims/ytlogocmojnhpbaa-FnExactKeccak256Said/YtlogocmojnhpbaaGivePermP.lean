/- The program's permutation and the reference's are one, at every state of 25 lanes. Numbers alone. -/
import Derived.Test.YtlogocmojnhpbaaGivePermE
namespace Go.Proofs.Ytlogocmojnhpbaa.Print
open Go.RowKit Go.Proofs.YtlogocmojnhpbaaW.PrintWords
set_option linter.unusedVariables false
set_option linter.unusedSimpArgs false
def InU (x : Int) : Prop := 0 ≤ x ∧ x < 18446744073709551616
theorem wrapU_in (n : Int) : InU (IntKind.u64.wrap n) := by
  unfold InU
  have e : IntKind.u64.wrap n = n % 18446744073709551616 := by simp [IntKind.wrap, IntKind.bits, IntKind.signed]
  rw [e]; omega
theorem wrapU_id {n : Int} (h : InU n) : IntKind.u64.wrap n = n := by
  have e : IntKind.u64.wrap n = n % 18446744073709551616 := by simp [IntKind.wrap, IntKind.bits, IntKind.signed]
  unfold InU at h
  rw [e]; omega
theorem bitsU_in (op : BinOp) (a b : Int) : InU (Go.bits op .u64 a b) := by
  unfold Go.bits
  exact wrapU_in _
theorem bvU (x : BitVec 64) : IntKind.u64.wrap (x.toNat : Int) = (x.toNat : Int) := wrapU_id ⟨by omega, by have := x.isLt; omega⟩
theorem ofInt_toNat (x : BitVec 64) : BitVec.ofInt 64 (x.toNat : Int) = x := by
  rw [BitVec.ofInt_natCast, BitVec.ofNat_toNat]; simp
theorem toNat_ofInt {a : Int} (h : InU a) : ((BitVec.ofInt 64 a).toNat : Int) = a := by
  unfold InU at h
  rw [BitVec.toNat_ofInt]
  omega
theorem xor_zero {a : Int} (h : InU a) : xorU 0 a = a := by
  unfold xorU Go.bits
  show IntKind.u64.wrap (((BitVec.ofInt 64 0 ^^^ BitVec.ofInt 64 a).toNat : Nat) : Int) = a
  rw [show BitVec.ofInt 64 0 = 0#64 by decide, BitVec.zero_xor, bvU, toNat_ofInt h]
theorem not_and {a b : Int} : notU a b = andU (flipU b) a := by
  unfold notU andU flipU Go.bits
  show IntKind.u64.wrap (((BitVec.ofInt 64 a &&& ~~~ BitVec.ofInt 64 b).toNat : Nat) : Int) = IntKind.u64.wrap (((BitVec.ofInt 64 (IntKind.u64.wrap (((BitVec.ofInt 64 IntKind.u64.max ^^^ BitVec.ofInt 64 b).toNat : Nat) : Int)) &&& BitVec.ofInt 64 a).toNat : Nat) : Int)
  rw [bvU (BitVec.ofInt 64 IntKind.u64.max ^^^ BitVec.ofInt 64 b), ofInt_toNat, show BitVec.ofInt 64 IntKind.u64.max = BitVec.allOnes 64 by decide, BitVec.allOnes_xor, BitVec.and_comm]
theorem rot_zero {x : Int} (h : InU x) : rotL x 0 = x := by
  unfold rotL Go.bits
  have e1 : x / 2 ^ (64 - (0 : Int)).toNat = 0 := by
    have : (2 : Int) ^ (64 - (0 : Int)).toNat = 18446744073709551616 := by decide
    rw [this]; unfold InU at h; omega
  have e2 : IntKind.u64.wrap (x * 2 ^ (0 : Int).toNat) = x := by rw [show (2 : Int) ^ (0 : Int).toNat = 1 by decide, Int.mul_one]; exact wrapU_id h
  rw [e1, e2]
  show IntKind.u64.wrap (((BitVec.ofInt 64 x ||| BitVec.ofInt 64 0).toNat : Nat) : Int) = x
  rw [show BitVec.ofInt 64 0 = 0#64 by decide, BitVec.or_zero, bvU, toNat_ofInt h]
theorem turn_rot {x n : Int} (h : InU x) : turnL x n = rotL x n := by
  unfold turnL
  split
  · next e => rw [e, rot_zero h]
  · rfl
theorem uncons {s : List Int} {n : Nat} (h : s.length = n + 1) : ∃ a t, s = a :: t ∧ t.length = n := by
  cases s with
  | nil => simp at h
  | cons a t => exact ⟨a, t, rfl, by simpa using h⟩
theorem list25 (s : List Int) (h : s.length = 25) : ∃ a0 a1 a2 a3 a4 a5 a6 a7 a8 a9 a10 a11 a12 a13 a14 a15 a16 a17 a18 a19 a20 a21 a22 a23 a24, s = [a0, a1, a2, a3, a4, a5, a6, a7, a8, a9, a10, a11, a12, a13, a14, a15, a16, a17, a18, a19, a20, a21, a22, a23, a24] := by
  obtain ⟨a0, s1, rfl, h1⟩ := uncons (n := 24) h
  obtain ⟨a1, s2, rfl, h2⟩ := uncons (n := 23) h1
  obtain ⟨a2, s3, rfl, h3⟩ := uncons (n := 22) h2
  obtain ⟨a3, s4, rfl, h4⟩ := uncons (n := 21) h3
  obtain ⟨a4, s5, rfl, h5⟩ := uncons (n := 20) h4
  obtain ⟨a5, s6, rfl, h6⟩ := uncons (n := 19) h5
  obtain ⟨a6, s7, rfl, h7⟩ := uncons (n := 18) h6
  obtain ⟨a7, s8, rfl, h8⟩ := uncons (n := 17) h7
  obtain ⟨a8, s9, rfl, h9⟩ := uncons (n := 16) h8
  obtain ⟨a9, s10, rfl, h10⟩ := uncons (n := 15) h9
  obtain ⟨a10, s11, rfl, h11⟩ := uncons (n := 14) h10
  obtain ⟨a11, s12, rfl, h12⟩ := uncons (n := 13) h11
  obtain ⟨a12, s13, rfl, h13⟩ := uncons (n := 12) h12
  obtain ⟨a13, s14, rfl, h14⟩ := uncons (n := 11) h13
  obtain ⟨a14, s15, rfl, h15⟩ := uncons (n := 10) h14
  obtain ⟨a15, s16, rfl, h16⟩ := uncons (n := 9) h15
  obtain ⟨a16, s17, rfl, h17⟩ := uncons (n := 8) h16
  obtain ⟨a17, s18, rfl, h18⟩ := uncons (n := 7) h17
  obtain ⟨a18, s19, rfl, h19⟩ := uncons (n := 6) h18
  obtain ⟨a19, s20, rfl, h20⟩ := uncons (n := 5) h19
  obtain ⟨a20, s21, rfl, h21⟩ := uncons (n := 4) h20
  obtain ⟨a21, s22, rfl, h22⟩ := uncons (n := 3) h21
  obtain ⟨a22, s23, rfl, h23⟩ := uncons (n := 2) h22
  obtain ⟨a23, s24, rfl, h24⟩ := uncons (n := 1) h23
  obtain ⟨a24, s25, rfl, h25⟩ := uncons (n := 0) h24
  obtain rfl := List.eq_nil_of_length_eq_zero h25
  exact ⟨a0, a1, a2, a3, a4, a5, a6, a7, a8, a9, a10, a11, a12, a13, a14, a15, a16, a17, a18, a19, a20, a21, a22, a23, a24, rfl⟩
set_option maxHeartbeats 4000000 in
theorem sums_eq {s : List Int} (hs : s.length = 25) (h : ∀ x ∈ s, InU x) : kSums s 25 = sSums s 5 := by
  obtain ⟨a0, a1, a2, a3, a4, a5, a6, a7, a8, a9, a10, a11, a12, a13, a14, a15, a16, a17, a18, a19, a20, a21, a22, a23, a24, rfl⟩ := list25 s hs
  have z0 := xor_zero (h a0 (by simp))
  have z1 := xor_zero (h a1 (by simp))
  have z2 := xor_zero (h a2 (by simp))
  have z3 := xor_zero (h a3 (by simp))
  have z4 := xor_zero (h a4 (by simp))
  have e1 : kSums [a0, a1, a2, a3, a4, a5, a6, a7, a8, a9, a10, a11, a12, a13, a14, a15, a16, a17, a18, a19, a20, a21, a22, a23, a24] 25 = [xorU (xorU (xorU (xorU (xorU 0 a0) a5) a10) a15) a20, xorU (xorU (xorU (xorU (xorU 0 a1) a6) a11) a16) a21, xorU (xorU (xorU (xorU (xorU 0 a2) a7) a12) a17) a22, xorU (xorU (xorU (xorU (xorU 0 a3) a8) a13) a18) a23, xorU (xorU (xorU (xorU (xorU 0 a4) a9) a14) a19) a24] := by kernel_rfl
  have e2 : sSums [a0, a1, a2, a3, a4, a5, a6, a7, a8, a9, a10, a11, a12, a13, a14, a15, a16, a17, a18, a19, a20, a21, a22, a23, a24] 5 = [xorU (xorU (xorU (xorU a0 a5) a10) a15) a20, xorU (xorU (xorU (xorU a1 a6) a11) a16) a21, xorU (xorU (xorU (xorU a2 a7) a12) a17) a22, xorU (xorU (xorU (xorU a3 a8) a13) a18) a23, xorU (xorU (xorU (xorU a4 a9) a14) a19) a24] := by kernel_rfl
  rw [e1, e2, z0, z1, z2, z3, z4]
/-- Every entry of a list that a program laid is a lane. -/
def AllU (l : List Int) : Prop := ∀ x ∈ l, InU x
theorem AllU.set {l : List Int} (h : AllU l) (i : Nat) {v : Int} (hv : InU v) : AllU (l.set i v) := by
  intro x hx
  rcases List.mem_or_eq_of_mem_set hx with h1 | h1
  · exact h x h1
  · rw [h1]; exact hv
theorem AllU.getD {l : List Int} (h : AllU l) (i : Nat) : InU (l.getD i 0) := by
  rw [List.getD_eq_getElem?_getD]
  by_cases hi : i < l.length
  · rw [List.getElem?_eq_getElem hi]; exact h _ (List.getElem_mem hi)
  · rw [List.getElem?_eq_none (by omega)]; exact ⟨by decide, by decide⟩
theorem sTheta_in {c a : List Int} (h : AllU a) (k : Nat) : AllU (sTheta c a k) := by
  induction k with
  | zero => exact h
  | succ k ih => exact ih.set k (bitsU_in _ _ _)
theorem kChi_in {m s : List Int} (h : AllU s) (k : Nat) : AllU (kChi m s k) := by
  induction k with
  | zero => exact h
  | succ k ih => exact ih.set k (bitsU_in _ _ _)
theorem kMix_in {s : List Int} (h : AllU s) : AllU (kMix s) := kChi_in h 25
theorem kPerm_in {s : List Int} (h : AllU s) (r : Nat) : AllU (kPerm s r) := by
  induction r with
  | zero => exact h
  | succ r ih =>
    unfold kPerm kRound
    exact (kMix_in ih).set 0 (bitsU_in _ _ _)
theorem list5 (s : List Int) (h : s.length = 5) : ∃ c0 c1 c2 c3 c4, s = [c0, c1, c2, c3, c4] := by
  obtain ⟨c0, s1, rfl, h1⟩ := uncons (n := 4) h
  obtain ⟨c1, s2, rfl, h2⟩ := uncons (n := 3) h1
  obtain ⟨c2, s3, rfl, h3⟩ := uncons (n := 2) h2
  obtain ⟨c3, s4, rfl, h4⟩ := uncons (n := 1) h3
  obtain ⟨c4, s5, rfl, h5⟩ := uncons (n := 0) h4
  obtain rfl := List.eq_nil_of_length_eq_zero h5
  exact ⟨c0, c1, c2, c3, c4, rfl⟩
set_option maxHeartbeats 4000000 in
set_option maxRecDepth 100000 in
theorem moved_eq {s c : List Int} (hs : s.length = 25) (hc : c.length = 5) : kMoved s c 25 = sMoved (sTheta c s 25) 5 := by
  obtain ⟨a0, a1, a2, a3, a4, a5, a6, a7, a8, a9, a10, a11, a12, a13, a14, a15, a16, a17, a18, a19, a20, a21, a22, a23, a24, rfl⟩ := list25 s hs
  obtain ⟨c0, c1, c2, c3, c4, rfl⟩ := list5 c hc
  have t1 : ∀ x, turnL x 1 = rotL x 1 := fun x => if_neg (by decide)
  have t2 : ∀ a b n, turnL (xorU a b) n = rotL (xorU a b) n := fun a b n => turn_rot (bitsU_in _ _ _)
  have e1 : kMoved [a0, a1, a2, a3, a4, a5, a6, a7, a8, a9, a10, a11, a12, a13, a14, a15, a16, a17, a18, a19, a20, a21, a22, a23, a24] [c0, c1, c2, c3, c4] 25 = [rotL (xorU a0 (xorU c4 (rotL c1 1))) 0, rotL (xorU a6 (xorU c0 (rotL c2 1))) 44, rotL (xorU a12 (xorU c1 (rotL c3 1))) 43, rotL (xorU a18 (xorU c2 (rotL c4 1))) 21, rotL (xorU a24 (xorU c3 (rotL c0 1))) 14, rotL (xorU a3 (xorU c2 (rotL c4 1))) 28, rotL (xorU a9 (xorU c3 (rotL c0 1))) 20, rotL (xorU a10 (xorU c4 (rotL c1 1))) 3, rotL (xorU a16 (xorU c0 (rotL c2 1))) 45, rotL (xorU a22 (xorU c1 (rotL c3 1))) 61, rotL (xorU a1 (xorU c0 (rotL c2 1))) 1, rotL (xorU a7 (xorU c1 (rotL c3 1))) 6, rotL (xorU a13 (xorU c2 (rotL c4 1))) 25, rotL (xorU a19 (xorU c3 (rotL c0 1))) 8, rotL (xorU a20 (xorU c4 (rotL c1 1))) 18, rotL (xorU a4 (xorU c3 (rotL c0 1))) 27, rotL (xorU a5 (xorU c4 (rotL c1 1))) 36, rotL (xorU a11 (xorU c0 (rotL c2 1))) 10, rotL (xorU a17 (xorU c1 (rotL c3 1))) 15, rotL (xorU a23 (xorU c2 (rotL c4 1))) 56, rotL (xorU a2 (xorU c1 (rotL c3 1))) 62, rotL (xorU a8 (xorU c2 (rotL c4 1))) 55, rotL (xorU a14 (xorU c3 (rotL c0 1))) 39, rotL (xorU a15 (xorU c4 (rotL c1 1))) 41, rotL (xorU a21 (xorU c0 (rotL c2 1))) 2] := by kernel_rfl
  have e2 : sMoved (sTheta [c0, c1, c2, c3, c4] [a0, a1, a2, a3, a4, a5, a6, a7, a8, a9, a10, a11, a12, a13, a14, a15, a16, a17, a18, a19, a20, a21, a22, a23, a24] 25) 5 = [turnL (xorU a0 (xorU c4 (turnL c1 1))) 0, turnL (xorU a6 (xorU c0 (turnL c2 1))) 44, turnL (xorU a12 (xorU c1 (turnL c3 1))) 43, turnL (xorU a18 (xorU c2 (turnL c4 1))) 21, turnL (xorU a24 (xorU c3 (turnL c0 1))) 14, turnL (xorU a3 (xorU c2 (turnL c4 1))) 28, turnL (xorU a9 (xorU c3 (turnL c0 1))) 20, turnL (xorU a10 (xorU c4 (turnL c1 1))) 3, turnL (xorU a16 (xorU c0 (turnL c2 1))) 45, turnL (xorU a22 (xorU c1 (turnL c3 1))) 61, turnL (xorU a1 (xorU c0 (turnL c2 1))) 1, turnL (xorU a7 (xorU c1 (turnL c3 1))) 6, turnL (xorU a13 (xorU c2 (turnL c4 1))) 25, turnL (xorU a19 (xorU c3 (turnL c0 1))) 8, turnL (xorU a20 (xorU c4 (turnL c1 1))) 18, turnL (xorU a4 (xorU c3 (turnL c0 1))) 27, turnL (xorU a5 (xorU c4 (turnL c1 1))) 36, turnL (xorU a11 (xorU c0 (turnL c2 1))) 10, turnL (xorU a17 (xorU c1 (turnL c3 1))) 15, turnL (xorU a23 (xorU c2 (turnL c4 1))) 56, turnL (xorU a2 (xorU c1 (turnL c3 1))) 62, turnL (xorU a8 (xorU c2 (turnL c4 1))) 55, turnL (xorU a14 (xorU c3 (turnL c0 1))) 39, turnL (xorU a15 (xorU c4 (turnL c1 1))) 41, turnL (xorU a21 (xorU c0 (turnL c2 1))) 2] := by kernel_rfl
  rw [e1, e2]
  simp only [t1, t2]
set_option maxHeartbeats 4000000 in
set_option maxRecDepth 100000 in
theorem chi_eq {m s t : List Int} (hm : m.length = 25) (hs : s.length = 25) (ht : t.length = 25) : kChi m s 25 = sChi m t 5 := by
  obtain ⟨m0, m1, m2, m3, m4, m5, m6, m7, m8, m9, m10, m11, m12, m13, m14, m15, m16, m17, m18, m19, m20, m21, m22, m23, m24, rfl⟩ := list25 m hm
  obtain ⟨a0, a1, a2, a3, a4, a5, a6, a7, a8, a9, a10, a11, a12, a13, a14, a15, a16, a17, a18, a19, a20, a21, a22, a23, a24, rfl⟩ := list25 s hs
  obtain ⟨b0, b1, b2, b3, b4, b5, b6, b7, b8, b9, b10, b11, b12, b13, b14, b15, b16, b17, b18, b19, b20, b21, b22, b23, b24, rfl⟩ := list25 t ht
  have e1 : kChi [m0, m1, m2, m3, m4, m5, m6, m7, m8, m9, m10, m11, m12, m13, m14, m15, m16, m17, m18, m19, m20, m21, m22, m23, m24] [a0, a1, a2, a3, a4, a5, a6, a7, a8, a9, a10, a11, a12, a13, a14, a15, a16, a17, a18, a19, a20, a21, a22, a23, a24] 25 = [xorU m0 (notU m2 m1), xorU m1 (notU m3 m2), xorU m2 (notU m4 m3), xorU m3 (notU m0 m4), xorU m4 (notU m1 m0), xorU m5 (notU m7 m6), xorU m6 (notU m8 m7), xorU m7 (notU m9 m8), xorU m8 (notU m5 m9), xorU m9 (notU m6 m5), xorU m10 (notU m12 m11), xorU m11 (notU m13 m12), xorU m12 (notU m14 m13), xorU m13 (notU m10 m14), xorU m14 (notU m11 m10), xorU m15 (notU m17 m16), xorU m16 (notU m18 m17), xorU m17 (notU m19 m18), xorU m18 (notU m15 m19), xorU m19 (notU m16 m15), xorU m20 (notU m22 m21), xorU m21 (notU m23 m22), xorU m22 (notU m24 m23), xorU m23 (notU m20 m24), xorU m24 (notU m21 m20)] := by kernel_rfl
  have e2 : sChi [m0, m1, m2, m3, m4, m5, m6, m7, m8, m9, m10, m11, m12, m13, m14, m15, m16, m17, m18, m19, m20, m21, m22, m23, m24] [b0, b1, b2, b3, b4, b5, b6, b7, b8, b9, b10, b11, b12, b13, b14, b15, b16, b17, b18, b19, b20, b21, b22, b23, b24] 5 = [xorU m0 (andU (flipU m1) m2), xorU m1 (andU (flipU m2) m3), xorU m2 (andU (flipU m3) m4), xorU m3 (andU (flipU m4) m0), xorU m4 (andU (flipU m0) m1), xorU m5 (andU (flipU m6) m7), xorU m6 (andU (flipU m7) m8), xorU m7 (andU (flipU m8) m9), xorU m8 (andU (flipU m9) m5), xorU m9 (andU (flipU m5) m6), xorU m10 (andU (flipU m11) m12), xorU m11 (andU (flipU m12) m13), xorU m12 (andU (flipU m13) m14), xorU m13 (andU (flipU m14) m10), xorU m14 (andU (flipU m10) m11), xorU m15 (andU (flipU m16) m17), xorU m16 (andU (flipU m17) m18), xorU m17 (andU (flipU m18) m19), xorU m18 (andU (flipU m19) m15), xorU m19 (andU (flipU m15) m16), xorU m20 (andU (flipU m21) m22), xorU m21 (andU (flipU m22) m23), xorU m22 (andU (flipU m23) m24), xorU m23 (andU (flipU m24) m20), xorU m24 (andU (flipU m20) m21)] := by kernel_rfl
  rw [e1, e2]
  simp only [not_and]
theorem mix_eq {s : List Int} (hs : s.length = 25) (h : AllU s) : kMix s = sMix s := by
  unfold kMix sMix
  rw [moved_eq hs (kSums_length _ _), sums_eq hs h]
  exact chi_eq (sMoved_length _ _) hs (by rw [sTheta_length]; exact hs)
/-- The two permutations are one. -/
theorem perm_eq {s : List Int} (hs : s.length = 25) (h : AllU s) (r : Nat) : kPerm s r = sPerm s r := by
  induction r with
  | zero => rfl
  | succ r ih =>
    unfold kPerm sPerm kRound sRound
    rw [mix_eq (by rw [kPerm_length]; exact hs) (kPerm_in h r), ih]
end Go.Proofs.Ytlogocmojnhpbaa.Print
