/- Plain laws on bits: bytes taken into a state's text are lanes taken into the state. -/
import Derived.Test.YtlogocmojnhpbaaGiveHashD
namespace Go.Proofs.Ytlogocmojnhpbaa.Print
open Go.RowKit Go.Proofs.YtlogocmojnhpbaaW.PrintWords Go.Proofs.YtlogocmojnhpbaaW.PrintLast
def InB (x : Int) : Prop := 0 ≤ x ∧ x < 256
def AllB (l : List Int) : Prop := ∀ x ∈ l, InB x
theorem AllB.getD {l : List Int} (h : AllB l) (i : Nat) : InB (l.getD i 0) := by
  rw [List.getD_eq_getElem?_getD]
  cases e : l[i]? with
  | none => exact ⟨by decide, by decide⟩
  | some v => exact h v (List.mem_of_getElem? e)
theorem AllB.set {l : List Int} (h : AllB l) (i : Nat) {v : Int} (hv : InB v) : AllB (l.set i v) := by
  intro x hx
  rcases List.mem_or_eq_of_mem_set hx with hx | rfl
  · exact h x hx
  · exact hv
def bit (x : Int) (p : Nat) : Bool := x.toNat.testBit p
theorem bit_ext {a b : Int} (ha : 0 ≤ a) (hb : 0 ≤ b) (h : ∀ p, bit a p = bit b p) : a = b := by
  have : a.toNat = b.toNat := Nat.eq_of_testBit_eq h
  omega
theorem bit_high {a : Int} (ha : InU a) {p : Nat} (hp : 64 ≤ p) : bit a p = false := by
  unfold bit
  refine Nat.testBit_lt_two_pow (Nat.lt_of_lt_of_le (m := 2 ^ 64) ?_ (Nat.pow_le_pow_right (by decide) hp))
  unfold InU at ha
  omega
theorem bit_highB {a : Int} (ha : InB a) {p : Nat} (hp : 8 ≤ p) : bit a p = false := by
  unfold bit
  refine Nat.testBit_lt_two_pow (Nat.lt_of_lt_of_le (m := 2 ^ 8) ?_ (Nat.pow_le_pow_right (by decide) hp))
  unfold InB at ha
  omega
theorem nat_ofInt {a : Int} (h : InU a) : (BitVec.ofInt 64 a).toNat = a.toNat := by
  have := toNat_ofInt h
  omega
theorem or_nat {a b : Int} (ha : InU a) (hb : InU b) : Go.bits .or .u64 a b = ((a.toNat ||| b.toNat : Nat) : Int) := by
  unfold Go.bits
  show IntKind.u64.wrap (((BitVec.ofInt 64 a ||| BitVec.ofInt 64 b).toNat : Nat) : Int) = _
  rw [bvU, BitVec.toNat_or, nat_ofInt ha, nat_ofInt hb]
theorem xor_nat {a b : Int} (ha : InU a) (hb : InU b) : xorU a b = ((a.toNat ^^^ b.toNat : Nat) : Int) := by
  unfold xorU Go.bits
  show IntKind.u64.wrap (((BitVec.ofInt 64 a ^^^ BitVec.ofInt 64 b).toNat : Nat) : Int) = _
  rw [bvU, BitVec.toNat_xor, nat_ofInt ha, nat_ofInt hb]
theorem bit_or {a b : Int} (ha : InU a) (hb : InU b) (p : Nat) : bit (Go.bits .or .u64 a b) p = (bit a p || bit b p) := by
  rw [or_nat ha hb]
  simp [bit, Nat.testBit_or]
theorem bit_xor {a b : Int} (ha : InU a) (hb : InU b) (p : Nat) : bit (xorU a b) p = (bit a p ^^ bit b p) := by
  rw [xor_nat ha hb]
  simp [bit, Nat.testBit_xor]
/-- A byte at its place in a lane. -/
theorem bit_up {x : Int} (hx : InB x) (k p : Nat) (hk : k < 8) : bit (IntKind.u64.wrap (IntKind.u64.wrap x * 2 ^ (8 * k))) p = (decide (p / 8 = k) && bit x (p % 8)) := by
  have h0 : IntKind.u64.wrap x = x := wrapU_id (by unfold InB at hx; unfold InU; omega)
  obtain ⟨n, rfl⟩ := Int.eq_ofNat_of_zero_le hx.1
  have hn : n < 256 := by have := hx.2; omega
  have hpow : (2 : Nat) ^ (8 * k) ≤ 2 ^ 56 := Nat.pow_le_pow_right (by decide) (by omega)
  have hlt : n * 2 ^ (8 * k) < 18446744073709551616 := by
    have h1 : n * 2 ^ (8 * k) ≤ 255 * 2 ^ 56 := Nat.mul_le_mul (by omega) hpow
    omega
  have e1 : ((n : Int) * 2 ^ (8 * k)) = ((n * 2 ^ (8 * k) : Nat) : Int) := by simp
  rw [h0, e1, wrapU_id ⟨by omega, by omega⟩]
  unfold bit
  rw [Int.toNat_natCast, Int.toNat_natCast, Nat.testBit_mul_two_pow]
  by_cases h8 : p / 8 = k
  · have h9 : 8 * k ≤ p := by omega
    have h10 : p - 8 * k = p % 8 := by omega
    simp [h8, h9, h10]
  · by_cases h9 : 8 * k ≤ p
    · have h10 : n.testBit (p - 8 * k) = false := Nat.testBit_lt_two_pow (Nat.lt_of_lt_of_le (m := 2 ^ 8) (by omega) (Nat.pow_le_pow_right (by decide) (by omega)))
      simp [h8, h9, h10]
    · simp [h8, h9]
theorem lane_in (xs : List Int) (i l : Nat) : InU ((kLanes xs i).getD l 0) := (kLanes_in xs i).getD l
/-- A lane's bits are its bytes' bits. -/
theorem lane_bit {xs : List Int} (h : AllB xs) (i l p : Nat) (hi : i ≤ 200) (hl : l < 25) (hp : p < 64) : bit ((kLanes xs i).getD l 0) p = (decide (8 * l + p / 8 < i) && bit (xs.getD (8 * l + p / 8) 0) (p % 8)) := by
  induction i with
  | zero =>
    have e0 : (kLanes xs 0).getD l 0 = 0 := by
      show (List.replicate 25 (0 : Int)).getD l 0 = 0
      rw [List.getD_eq_getElem?_getD, List.getElem?_replicate, if_pos hl]
      rfl
    rw [e0]
    simp [bit]
  | succ i ih =>
    have ih := ih (by omega)
    have hlen := kLanes_length xs i
    rw [kLanes]
    by_cases e : l = i / 8
    · subst e
      rw [List.getD_eq_getElem?_getD, List.getElem?_set_self (by omega), Option.getD_some, bit_or (lane_in _ _ _) (wrapU_in _), ih, bit_up (h.getD i) _ _ (by omega)]
      by_cases e2 : p / 8 = i % 8
      · have e3 : 8 * (i / 8) + p / 8 = i := by omega
        simp [e2]
        have e4 : 8 * (i / 8) + i % 8 = i := by omega
        simp [e4]
      · have e5 : (8 * (i / 8) + p / 8 < i + 1) ↔ (8 * (i / 8) + p / 8 < i) := by omega
        simp [e2, e5]
    · rw [List.getD_eq_getElem?_getD, List.getElem?_set_ne (by omega), ← List.getD_eq_getElem?_getD, ih]
      have e5 : (8 * l + p / 8 < i + 1) ↔ (8 * l + p / 8 < i) := by omega
      simp [e5]
theorem text_get (s : List Int) (n j : Nat) (hj : j < n) : (kText s n).getD j 0 = s.getD (j / 8) 0 / 2 ^ (8 * (j % 8)) % 256 := by
  induction n with
  | zero => omega
  | succ n ih =>
    rw [kText, List.getD_eq_getElem?_getD]
    by_cases e : j = n
    · subst e
      rw [List.getElem?_append_right (by rw [kText_length]; omega), kText_length, Nat.sub_self]
      rfl
    · rw [List.getElem?_append_left (by rw [kText_length]; omega), ← List.getD_eq_getElem?_getD, ih (by omega)]
theorem text_in (s : List Int) (n : Nat) : AllB (kText s n) := by
  induction n with
  | zero => intro x hx; cases hx
  | succ n ih =>
    intro x hx
    rw [kText] at hx
    rcases List.mem_append.1 hx with hx | hx
    · exact ih x hx
    · rw [List.mem_singleton.1 hx]
      unfold InB
      omega
theorem text_bit {s : List Int} (h : AllU s) (n j p : Nat) (hj : j < n) (hp : p < 8) : bit ((kText s n).getD j 0) p = bit (s.getD (j / 8) 0) (8 * (j % 8) + p) := by
  rw [text_get s n j hj]
  have hs := h.getD (j / 8)
  generalize s.getD (j / 8) 0 = x at hs ⊢
  obtain ⟨m, rfl⟩ := Int.eq_ofNat_of_zero_le hs.1
  have e1 : ((m : Int) / 2 ^ (8 * (j % 8)) % 256) = ((m / 2 ^ (8 * (j % 8)) % 2 ^ 8 : Nat) : Int) := by simp
  rw [e1]
  unfold bit
  rw [Int.toNat_natCast, Int.toNat_natCast, Nat.testBit_mod_two_pow, Nat.testBit_div_two_pow]
  simp [hp, Nat.add_comm]
/-- Bytes taken in, the first k. -/
def kXor8 (a x : List Int) : Nat → List Int
  | 0 => a
  | i + 1 => (kXor8 a x i).set i (Go.bits .xor .u8 ((kXor8 a x i).getD i 0) (x.getD i 0))
theorem kXor8_length (a x : List Int) (i : Nat) : (kXor8 a x i).length = a.length := by
  induction i with
  | zero => rfl
  | succ i ih => simp [kXor8, ih]
theorem xor8_nat {a b : Int} (ha : InB a) (hb : InB b) : Go.bits .xor .u8 a b = ((a.toNat ^^^ b.toNat : Nat) : Int) ∧ InB (Go.bits .xor .u8 a b) := by
  have hn : ∀ {a : Int}, InB a → (BitVec.ofInt 8 a).toNat = a.toNat := by
    intro a h
    unfold InB at h
    rw [BitVec.toNat_ofInt]
    omega
  have hw : ∀ x : BitVec 8, IntKind.u8.wrap (x.toNat : Int) = (x.toNat : Int) := by
    intro x
    have e : IntKind.u8.wrap (x.toNat : Int) = (x.toNat : Int) % 256 := by simp [IntKind.wrap, IntKind.bits, IntKind.signed]
    have := x.isLt
    rw [e]; omega
  have e : Go.bits .xor .u8 a b = (((BitVec.ofInt 8 a ^^^ BitVec.ofInt 8 b).toNat : Nat) : Int) := by
    unfold Go.bits
    show IntKind.u8.wrap (((BitVec.ofInt 8 a ^^^ BitVec.ofInt 8 b).toNat : Nat) : Int) = _
    rw [hw]
  refine ⟨by rw [e, BitVec.toNat_xor, hn ha, hn hb], ?_⟩
  rw [e]
  have := (BitVec.ofInt 8 a ^^^ BitVec.ofInt 8 b).isLt
  unfold InB
  omega
theorem kXor8_in {a x : List Int} (h : AllB a) (hx : AllB x) (i : Nat) : AllB (kXor8 a x i) := by
  induction i with
  | zero => exact h
  | succ i ih => exact ih.set i (xor8_nat (ih.getD i) (hx.getD i)).2
theorem kXor8_get {a x : List Int} (h : AllB a) (hx : AllB x) (k : Nat) (hk : k ≤ a.length) (j p : Nat) : bit ((kXor8 a x k).getD j 0) p = (bit (a.getD j 0) p ^^ (decide (j < k) && bit (x.getD j 0) p)) := by
  induction k with
  | zero => simp [kXor8]
  | succ k ih =>
    have ih := ih (by omega)
    rw [kXor8]
    by_cases e : j = k
    · subst e
      have hlen := kXor8_length a x j
      rw [List.getD_eq_getElem?_getD, List.getElem?_set_self (by omega), Option.getD_some, (xor8_nat ((kXor8_in h hx j).getD j) (hx.getD j)).1]
      have : bit ((((kXor8 a x j).getD j 0).toNat ^^^ (x.getD j 0).toNat : Nat) : Int) p = (bit ((kXor8 a x j).getD j 0) p ^^ bit (x.getD j 0) p) := by simp [bit, Nat.testBit_xor]
      rw [this, ih]
      simp
    · rw [List.getD_eq_getElem?_getD, List.getElem?_set_ne (by omega), ← List.getD_eq_getElem?_getD, ih]
      have e5 : (j < k + 1) ↔ (j < k) := by omega
      simp [e5]
theorem kXor_get {a x : List Int} (h : AllU a) (hx : AllU x) (k : Nat) (hk : k ≤ a.length) (j p : Nat) : bit ((kXor a x k).getD j 0) p = (bit (a.getD j 0) p ^^ (decide (j < k) && bit (x.getD j 0) p)) := by
  induction k with
  | zero => simp [kXor]
  | succ k ih =>
    have ih := ih (by omega)
    rw [kXor]
    by_cases e : j = k
    · subst e
      have hlen := kXor_length a x j
      rw [List.getD_eq_getElem?_getD, List.getElem?_set_self (by omega), Option.getD_some, bit_xor ((kXor_in h j).getD j) (hx.getD j), ih]
      simp
    · rw [List.getD_eq_getElem?_getD, List.getElem?_set_ne (by omega), ← List.getD_eq_getElem?_getD, ih]
      have e5 : (j < k + 1) ↔ (j < k) := by omega
      simp [e5]
theorem get_getD (l : List Int) (i : Nat) (h : i < l.length) : l[i] = l.getD i 0 := by simp [List.getD_eq_getElem?_getD, h]
/-- A block's bytes taken into a state's text: the text's lanes. -/
theorem lanes_xor {s B : List Int} (hs : s.length = 25) (h : AllU s) (hB : AllB B) : kLanes (kXor8 (kText s 200) B 136) 200 = kXor s (kLanes B 136) 25 := by
  apply List.ext_getElem
  · rw [kLanes_length, kXor_length, hs]
  · intro l h1 h2
    have hl : l < 25 := by rw [kLanes_length] at h1; exact h1
    rw [get_getD _ _ h1, get_getD _ _ h2]
    have hT := text_in s 200
    have i1 := lane_in (kXor8 (kText s 200) B 136) 200 l
    have i2 := (kXor_in (x := kLanes B 136) h 25).getD l
    refine bit_ext i1.1 i2.1 fun p => ?_
    by_cases hp : p < 64
    · rw [lane_bit (kXor8_in hT hB 136) 200 l p (by omega) hl hp, kXor8_get hT hB 136 (by rw [kText_length]; omega), text_bit h 200 _ _ (by omega) (by omega), kXor_get h (kLanes_in _ _) 25 (by omega), lane_bit hB 136 l p (by omega) hl hp]
      have e3 : (8 * l + p / 8) / 8 = l := by omega
      have e4 : 8 * ((8 * l + p / 8) % 8) + p % 8 = p := by omega
      have e5 : 8 * l + p / 8 < 200 := by omega
      rw [e3, e4]
      simp [e5, hl]
    · rw [bit_high i1 (by omega), bit_high i2 (by omega)]
end Go.Proofs.Ytlogocmojnhpbaa.Print
