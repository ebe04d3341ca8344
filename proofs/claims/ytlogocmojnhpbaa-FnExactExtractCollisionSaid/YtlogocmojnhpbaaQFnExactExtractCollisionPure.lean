-- Packed by a program of this session (slim.py): the plain laws that FnExactExtractCollision needs.
import Derived.Test.YtlogocmojnhpbaaK0
import Derived.Test.YtlogocmojnhpbaaK1
import Derived.Test.YtlogocmojnhpbaaK2
import Derived.Test.YtlogocmojnhpbaaK3
import Derived.Test.YtlogocmojnhpbaaK4
import Derived.Test.YtlogocmojnhpbaaQFnExactExtractCollision0
import Derived.Test.YtlogocmojnhpbaaQFnExactExtractCollision1
import Derived.Test.YtlogocmojnhpbaaQFnExactExtractCollision2
import Derived.Test.YtlogocmojnhpbaaQFnExactExtractCollision3
import Derived.Test.YtlogocmojnhpbaaQFnExactExtractCollision4
import Derived.Test.YtlogocmojnhpbaaPrint0
section
-- Written by a program of this session (mkrow.py); not trusted, Lean checks it.
namespace Go.Proofs.Ytlogocmojnhpbaa.Print
open Go.RowKit Go.Proofs.YtlogocmojnhpbaaW.PrintWords Go.Proofs.YtlogocmojnhpbaaW.PrintLast
/-- THE ONE PURE STATEMENT of laws_FnExactExtractCollision. -/
def laws_FnExactExtractCollision.Pure : Prop := ∀ (a0 : ByteArray) (a1 : Int) (a2 : Int) (a3 : ByteArray) (l4 : List ByteArray) (a5 : ByteArray) (l6 : List ByteArray), a0.size ≤ 9223372036854775807 → (Lit.int .i64 a1).wf = true → (Lit.int .i64 a2).wf = true → a3.size ≤ 9223372036854775807 → l4.length ≤ 9223372036854775807 → (∀ s ∈ l4, s.size ≤ 9223372036854775807) → a5.size ≤ 9223372036854775807 → l6.length ≤ 9223372036854775807 → (∀ s ∈ l6, s.size ≤ 9223372036854775807) → ∃ k, laws_FnExactExtractCollision.f k a0 a1 a2 a3 l4 a5 l6 = some true
end Go.Proofs.Ytlogocmojnhpbaa.Print
end
section
/- Plain lemmas on lists and rounds. -/
namespace Go.Proofs.Ytlogocmojnhpbaa.Pure
open Go.RowKit Go.Proofs.Ytlogocmojnhpbaa.Print Go.Proofs.YtlogocmojnhpbaaW.PrintWords Go.Proofs.YtlogocmojnhpbaaW.PrintLast

theorem take_set {α : Type} (l : List α) (i : Nat) (v : α) (h : i < l.length) : (l.set i v).take (i + 1) = l.take i ++ [v] := by
  rw [List.take_succ_eq_append_getElem (by simpa using h)]
  rw [List.take_set_of_le (Nat.le_refl i)]
  simp
theorem take_map_succ {α β : Type} (f : α → β) (l : List α) (z : α) (i : Nat) (h : i < l.length) : (l.map f).take (i + 1) = (l.map f).take i ++ [f (l.getD i z)] := by
  rw [List.take_succ_eq_append_getElem (by simpa using h)]
  simp [List.getD_eq_getElem?_getD, List.getElem?_eq_getElem h]
theorem wrap_small {x : Int} (h0 : -9223372036854775808 ≤ x) (h1 : x ≤ 9223372036854775807) : wrap64 x = x := by unfold wrap64; omega
theorem ev_val {α : Type} {g : Nat → Option α} {a b : α} (h : Ev g a) (e : a = b) : Ev g b := e ▸ h
theorem ev_bind {α β : Type} {g : Nat → Option α} {f : Nat → α → Option β} {a : α} {r : β} (h : Ev g a) (k : Ev (fun n => f n a) r) : Ev (fun n => (g n).bind (f n)) r := Ev.bind h k
theorem ev_const {α : Type} {o : Option α} {r : α} (h : o = some r) : Ev (fun _ => o) r := by subst h; exact Ev.now r
theorem ev_cbind {α β : Type} {o : Option α} {f : Nat → α → Option β} {a : α} {r : β} (h : o = some a) (k : Ev (fun n => f n a) r) : Ev (fun n => o.bind (f n)) r := by subst h; exact k
theorem ev_pos {α : Type} {c : Prop} [Decidable c] {g f : Nat → Option α} {r : α} (h : c) (k : Ev g r) : Ev (fun n => if c then g n else f n) r := by simpa only [if_pos h] using k
theorem ev_neg {α : Type} {c : Prop} [Decidable c] {g f : Nat → Option α} {r : α} (h : ¬ c) (k : Ev f r) : Ev (fun n => if c then g n else f n) r := by simpa only [if_neg h] using k
theorem rd_natCast (xs : List Int) (i : Nat) : rd xs (i : Int) = xs.getD i 0 := by simp [rd]
end Go.Proofs.Ytlogocmojnhpbaa.Pure
end
section
/- Plain laws on slices of texts: how a statement copies, compares and weighs them. -/
namespace Go.Proofs.Ytlogocmojnhpbaa.Pure
open Go Go.RowKit Go.Proofs.Ytlogocmojnhpbaa.Print Go.Proofs.YtlogocmojnhpbaaW.PrintWords Go.Proofs.YtlogocmojnhpbaaW.PrintLast
set_option linter.unusedSimpArgs false
set_option linter.unusedVariables false
theorem rdT (l : List ByteArray) (i : Nat) : rdOf ByteArray.empty l (i : Int) = l.getD i ByteArray.empty := by simp [rdOf]
theorem toStringS_l (x0 : List ByteArray) (hn : x0.length ≤ 1000000000) (d : Nat) : ∀ (acc : List ByteArray) (i : Nat), i + d = x0.length → acc.length = x0.length → acc.take i = x0.take i → Ev (fun k => laws_toStringS.l0 k x0 acc (i : Int)) x0 := by
  induction d with
  | zero =>
    intro acc i hi hl ht
    refine Ev.step (f := fun _ => some acc) (fun k => by rw [laws_toStringS.l0, if_neg (by omega)]) (ev_val (Ev.now _) ?_)
    rw [List.take_of_length_le (by omega), List.take_of_length_le (by omega)] at ht
    exact ht
  | succ d ih =>
    intro acc i hi hl ht
    have h := ih (acc.set i (x0.getD i ByteArray.empty)) (i + 1) (by omega) (by simpa using hl) (by
      rw [take_set _ _ _ (by omega), ht, List.take_succ_eq_append_getElem (show i < x0.length by omega)]
      simp [List.getD_eq_getElem?_getD, List.getElem?_eq_getElem (show i < x0.length by omega)])
    refine Ev.step (fun k => ?_) h
    rw [laws_toStringS.l0, if_pos (by omega), if_pos (by omega), if_pos (by omega), wrap_small (by omega) (by omega), rdT]
    rfl
theorem toStringS_ev (x0 : List ByteArray) (hn : x0.length ≤ 1000000000) : Ev (fun k => laws_toStringS.f k x0) x0 := by
  have h := toStringS_l x0 hn x0.length (List.replicate x0.length (⟨#[]⟩ : ByteArray)) 0 (by omega) (by simp) (by simp)
  refine Ev.congr (fun k => ?_) h
  unfold laws_toStringS.f
  rw [if_pos (by omega), if_pos (by omega)]
  simp only [Int.toNat_natCast]
  rfl
theorem eqStringS_l (x0 : List ByteArray) (hn : x0.length ≤ 1000000000) (d : Nat) : ∀ (i : Nat), i + d = x0.length → Ev (fun k => laws_eqStringS.l0 k x0 x0 (i : Int)) true := by
  induction d with
  | zero =>
    intro i hi
    exact Ev.step (f := fun _ => some true) (fun k => by rw [laws_eqStringS.l0, if_neg (by omega)]) (Ev.now _)
  | succ d ih =>
    intro i hi
    refine Ev.step (fun k => ?_) (ih (i + 1) (by omega))
    rw [laws_eqStringS.l0, if_pos (by omega), if_pos (by omega), if_pos (by omega), if_pos rfl, wrap_small (by omega) (by omega)]
    rfl
theorem eqStringS_ev (x0 : List ByteArray) (hn : x0.length ≤ 1000000000) : Ev (fun k => laws_eqStringS.f k x0 x0) true := by
  refine Ev.congr (fun k => ?_) (eqStringS_l x0 hn x0.length 0 (by omega))
  unfold laws_eqStringS.f
  rw [if_pos rfl]
  rfl
theorem szStringS_l (x0 : List ByteArray) (hn : x0.length ≤ 1000000000) (hs : ∀ s ∈ x0, s.size ≤ 9223372036854775807) (d : Nat) : ∀ (i : Nat) (a : Int), i + d = x0.length → 0 ≤ a → a ≤ 1048576 → ∃ z, Ev (fun k => laws_szStringS.l0 k x0 a (i : Int)) z ∧ z ≤ 1048576 := by
  induction d with
  | zero =>
    intro i a hi h0 h1
    exact ⟨a, Ev.step (f := fun _ => some a) (fun k => by rw [laws_szStringS.l0, if_neg (by omega)]) (Ev.now _), h1⟩
  | succ d ih =>
    intro i a hi h0 h1
    have hz : (x0.getD i ByteArray.empty).size ≤ 9223372036854775807 := by
      rw [List.getD_eq_getElem?_getD, List.getElem?_eq_getElem (show i < x0.length by omega)]
      exact hs _ (List.getElem_mem _)
    have hw : wrap64 (a - ((x0.getD i ByteArray.empty).size : Int)) = a - ((x0.getD i ByteArray.empty).size : Int) := wrap_small (by omega) (by omega)
    by_cases g : a - ((x0.getD i ByteArray.empty).size : Int) < 0
    · refine ⟨-1, Ev.step (f := fun _ => some (-1)) (fun k => ?_) (Ev.now _), by omega⟩
      rw [laws_szStringS.l0, if_pos (by omega), if_pos (by omega), rdT, hw, if_pos g]
    · obtain ⟨z, hz1, hz2⟩ := ih (i + 1) (a - ((x0.getD i ByteArray.empty).size : Int)) (by omega) (by omega) (by omega)
      refine ⟨z, Ev.step (fun k => ?_) hz1, hz2⟩
      rw [laws_szStringS.l0, if_pos (by omega), if_pos (by omega), rdT, hw, if_neg g, wrap_small (by omega) (by omega)]
      rfl
/-- The weight of a slice of texts: a number is come to; where it is not below nought, the slice is short. -/
theorem szStringS_ev {x0 : List ByteArray} {a : Int} (h0 : 0 ≤ a) (h1 : a ≤ 1048576) (hl : x0.length ≤ 9223372036854775807) (hs : ∀ s ∈ x0, s.size ≤ 9223372036854775807) : ∃ z, Ev (fun k => laws_szStringS.f k x0 a) z ∧ (0 ≤ z → x0.length ≤ 1048576) ∧ z ≤ 1048576 := by
  unfold laws_szStringS.f
  rw [wrap_small (by omega) (by omega)]
  by_cases g : a - (x0.length : Int) < 0
  · exact ⟨-1, ev_pos g (Ev.now _), fun h => absurd h (by decide), by omega⟩
  · obtain ⟨z, hz, hz2⟩ := szStringS_l x0 (by omega) hs x0.length 0 (a - (x0.length : Int)) (by omega) (by omega) (by omega)
    exact ⟨z, ev_neg g hz, fun _ => by omega, hz2⟩
end Go.Proofs.Ytlogocmojnhpbaa.Pure
end
section
/- Plain laws on the texts that are hashed. -/
namespace Go.Proofs.Ytlogocmojnhpbaa.Pure
open Go.RowKit Go.Proofs.Ytlogocmojnhpbaa.Print Go.Proofs.YtlogocmojnhpbaaW.PrintWords Go.Proofs.YtlogocmojnhpbaaW.PrintLast
set_option linter.unusedSimpArgs false
set_option linter.unusedVariables false
theorem size_one (b : UInt8) : (⟨#[b]⟩ : ByteArray).size = 1 := rfl
theorem spec_hash_f {s : ByteArray} (h : s.size ≤ 140737488350000) : spec_l03Hash.f s = some (hashT s) := by unfold spec_l03Hash.f; rw [if_pos h]
theorem impl_hash_f {s : ByteArray} (h : s.size ≤ 140737488350000) : impl_hashOf.f s = some (hashT s) := by unfold impl_hashOf.f; rw [if_pos h]
def leafT (s : ByteArray) : ByteArray := (⟨#[0]⟩ : ByteArray) ++ s
def nodeT (a b : ByteArray) : ByteArray := ((⟨#[1]⟩ : ByteArray) ++ a) ++ b
theorem leafT_size (s : ByteArray) : (leafT s).size = 1 + s.size := by unfold leafT; rw [ByteArray.size_append]; rfl
theorem nodeT_size (a b : ByteArray) : (nodeT a b).size = 1 + a.size + b.size := by unfold nodeT; rw [ByteArray.size_append, ByteArray.size_append]; rfl
theorem spec_leaf_f {s : ByteArray} (h : s.size ≤ 140737488340000) : spec_l04Leaf.f s = some (hashT (leafT s)) := by
  unfold spec_l04Leaf.f
  rw [if_pos (by omega)]
  show (spec_l03Hash.f (leafT s)).bind _ = _
  rw [spec_hash_f (by rw [leafT_size]; omega)]
  rfl
theorem impl_leafText_f {s : ByteArray} (h : s.size ≤ 140737488340000) : impl_leafText.f s = some (leafT s) := by
  unfold impl_leafText.f
  rw [if_pos (by omega)]
  rfl
theorem node_one (a b : ByteArray) (ha : a.size ≤ 70368744170000) (hb : b.size ≤ 70368744170000) : ((⟨#[1]⟩ : ByteArray) ++ a).size + b.size ≤ 9223372036854775807 := by
  rw [ByteArray.size_append, size_one]
  omega
theorem spec_node_f {a b : ByteArray} (ha : a.size ≤ 70368744170000) (hb : b.size ≤ 70368744170000) : spec_l04Node.f a b = some (hashT (nodeT a b)) := by
  unfold spec_l04Node.f
  rw [if_pos (by omega), if_pos (node_one a b ha hb)]
  show (spec_l03Hash.f (nodeT a b)).bind _ = _
  rw [spec_hash_f (by rw [nodeT_size]; omega)]
  rfl
theorem impl_nodeText_f {a b : ByteArray} (ha : a.size ≤ 70368744170000) (hb : b.size ≤ 70368744170000) : impl_nodeText.f a b = some (nodeT a b) := by
  unfold impl_nodeText.f
  rw [if_pos (by omega), if_pos (node_one a b ha hb)]
  rfl
end Go.Proofs.Ytlogocmojnhpbaa.Pure
end
section
/- Plain laws on the field's ranges. Numbers alone. -/
namespace Go.Proofs.Ytlogocmojnhpbaa.Pure
open Go.RowKit Go.Proofs.Ytlogocmojnhpbaa.Print Go.Proofs.YtlogocmojnhpbaaW.PrintWords Go.Proofs.YtlogocmojnhpbaaW.PrintLast

theorem wf_i64 {x : Int} (h : (Lit.int .i64 x).wf = true) : -9223372036854775808 ≤ x ∧ x ≤ 9223372036854775807 := by
  have h' : IntKind.i64.min ≤ x ∧ x ≤ 9223372036854775807 := by simpa [Lit.wf] using h
  have e : IntKind.i64.min = -9223372036854775808 := by decide
  omega

def okI (a : Int) : Bool := decide (0 ≤ a ∧ a ≤ 2130706432)

theorem okI_true {a : Int} (h : okI a = true) : 0 ≤ a ∧ a < 2130706433 := by
  have := of_decide_eq_true h
  omega

theorem spec_in_f (a b c : Int) : spec_l01In.f a b c = some (decide (b ≤ a ∧ a ≤ c)) := by
  unfold spec_l01In.f
  by_cases h : b ≤ a
  · rw [if_pos h]; simp [h]
  · rw [if_neg h]; simp [h]

theorem impl_in_f (a b c : Int) : impl_in.f a b c = some (decide (b ≤ a ∧ a ≤ c)) := by
  unfold impl_in.f
  by_cases h : b ≤ a
  · rw [if_pos h]; simp [h]
  · rw [if_neg h]; simp [h]

theorem spec_FieldOK_f (a : Int) : spec_FieldOK.f a = some (okI a) := by
  unfold spec_FieldOK.f
  rw [spec_in_f]; rfl

theorem impl_FieldOK_f (a : Int) : impl_FieldOK.f a = some (okI a) := by
  unfold impl_FieldOK.f
  rw [impl_in_f]; rfl

end Go.Proofs.Ytlogocmojnhpbaa.Pure
end
section
/- Plain laws on the way up a tree: powers of 2, the texts that are hashed, whether a leaf leads to a root. -/
namespace Go.Proofs.Ytlogocmojnhpbaa.Pure
open Go Go.RowKit Go.Proofs.Ytlogocmojnhpbaa.Print Go.Proofs.YtlogocmojnhpbaaW.PrintWords Go.Proofs.YtlogocmojnhpbaaW.PrintLast Go.Proofs.YtlogocmojnhpbaaW.PrintMore
set_option linter.unusedSimpArgs false
set_option linter.unusedVariables false

/-- 1, 2, 4 to 256. -/
def powB (n : Int) : Bool := decide (n = 1 ∨ n = 2 ∨ n = 4 ∨ n = 8 ∨ n = 16 ∨ n = 32 ∨ n = 64 ∨ n = 128 ∨ n = 256)
theorem powB_exp {n : Int} (h : powB n = true) : ∃ j : Fin 9, n = 2 ^ j.val := by
  rcases of_decide_eq_true h with rfl | rfl | rfl | rfl | rfl | rfl | rfl | rfl | rfl
  · exact ⟨⟨0, by decide⟩, rfl⟩
  · exact ⟨⟨1, by decide⟩, rfl⟩
  · exact ⟨⟨2, by decide⟩, rfl⟩
  · exact ⟨⟨3, by decide⟩, rfl⟩
  · exact ⟨⟨4, by decide⟩, rfl⟩
  · exact ⟨⟨5, by decide⟩, rfl⟩
  · exact ⟨⟨6, by decide⟩, rfl⟩
  · exact ⟨⟨7, by decide⟩, rfl⟩
  · exact ⟨⟨8, by decide⟩, rfl⟩
theorem powB_le {n : Int} (h : powB n = true) : 1 ≤ n ∧ n ≤ 256 := by have := of_decide_eq_true h; omega
theorem power_step {n c : Int} {k : Nat} (hc : c ≤ 256) (hn : n ≠ c) (hw : wrap64 (c * 2) = c * 2) : spec_l04Power.l0 (k + 1) n 256 c = spec_l04Power.l0 k n 256 (c * 2) := by
  rw [spec_l04Power.l0, if_pos hc, if_neg hn, hw]
theorem power_hit {n c : Int} (hc : c ≤ 256) (hn : n = c) : Ev (fun k => spec_l04Power.l0 k n 256 c) true :=
  Ev.step (f := fun _ => some true) (fun k => by rw [spec_l04Power.l0, if_pos hc, if_pos hn]) (Ev.now _)
theorem spec_power_ev (n : Int) : Ev (fun k => spec_l04Power.f k n 256) (powB n) := by
  unfold spec_l04Power.f powB
  by_cases h0 : n = 1
  · exact ev_val (power_hit (by decide) h0) (by subst h0; rfl)
  refine Ev.step (fun k => power_step (by decide) h0 (by decide +kernel)) ?_
  by_cases h1 : n = 2
  · exact ev_val (power_hit (by decide) h1) (by subst h1; rfl)
  refine Ev.step (fun k => power_step (by decide) h1 (by decide +kernel)) ?_
  by_cases h2 : n = 4
  · exact ev_val (power_hit (by decide) h2) (by subst h2; rfl)
  refine Ev.step (fun k => power_step (by decide) h2 (by decide +kernel)) ?_
  by_cases h3 : n = 8
  · exact ev_val (power_hit (by decide) h3) (by subst h3; rfl)
  refine Ev.step (fun k => power_step (by decide) h3 (by decide +kernel)) ?_
  by_cases h4 : n = 16
  · exact ev_val (power_hit (by decide) h4) (by subst h4; rfl)
  refine Ev.step (fun k => power_step (by decide) h4 (by decide +kernel)) ?_
  by_cases h5 : n = 32
  · exact ev_val (power_hit (by decide) h5) (by subst h5; rfl)
  refine Ev.step (fun k => power_step (by decide) h5 (by decide +kernel)) ?_
  by_cases h6 : n = 64
  · exact ev_val (power_hit (by decide) h6) (by subst h6; rfl)
  refine Ev.step (fun k => power_step (by decide) h6 (by decide +kernel)) ?_
  by_cases h7 : n = 128
  · exact ev_val (power_hit (by decide) h7) (by subst h7; rfl)
  refine Ev.step (fun k => power_step (by decide) h7 (by decide +kernel)) ?_
  by_cases h8 : n = 256
  · exact ev_val (power_hit (by decide) h8) (by subst h8; rfl)
  refine Ev.step (fun k => power_step (by decide) h8 (by decide +kernel)) ?_
  refine ev_val (Ev.step (f := fun _ => some false) (fun k => by rw [spec_l04Power.l0, if_neg (by decide)]) (Ev.now _)) ?_
  simp [h0, h1, h2, h3, h4, h5, h6, h7, h8]
theorem power_bits : ∀ x : Fin 257, 1 ≤ x.val → ((Go.bits .and .i64 (x.val : Int) (wrap64 ((x.val : Int) - 1)) == 0) : Bool) = powB (x.val : Int) := by decide +kernel
theorem impl_power_f (n : Int) : impl_isPower.f n 256 = some (powB n) := by
  unfold impl_isPower.f
  simp only [impl_in_f, Option.bind_some, decide_eq_true_eq]
  by_cases h : 1 ≤ n ∧ n ≤ 256
  · rw [if_pos h]
    have := power_bits ⟨n.toNat, by omega⟩ (by show 1 ≤ n.toNat; omega)
    rw [show ((n.toNat : Nat) : Int) = n by omega] at this
    rw [this]
  · rw [if_neg h]
    exact congrArg some (decide_eq_false (by omega)).symm
theorem low_bit : ∀ x : Fin 256, Go.bits .and .i64 (x.val : Int) 1 = (x.val : Int) % 2 := by decide +kernel
theorem and_one {x : Int} (h0 : 0 ≤ x) (h1 : x ≤ 255) : Go.bits .and .i64 x 1 = x % 2 := by
  have := low_bit ⟨x.toNat, by omega⟩
  rw [show ((x.toNat : Nat) : Int) = x by omega] at this
  exact this
theorem log_bits : ∀ j : Fin 9, impl_logOf.f (2 ^ j.val) = some (j.val : Int) := by decide +kernel
theorem log_pow : ∀ (m : Fin 21) (j : Fin 9), (((2 : Int) ^ j.val != wrap64 (2 ^ m.val)) : Bool) = !(decide ((m.val : Int) = (j.val : Int))) := by decide +kernel
theorem mn_len (n : Nat) (j : Fin 9) : (((2 : Int) ^ j.val != wrap64 (2 ^ (mn 20 (n : Int)).toNat)) : Bool) = !(decide ((n : Int) = (j.val : Int))) := by
  by_cases h : n ≤ 20
  · have := log_pow ⟨n, by omega⟩ j
    rw [show (mn 20 (n : Int)).toNat = n by unfold mn; split <;> omega]
    exact this
  · have := log_pow ⟨20, by omega⟩ j
    rw [show (mn 20 (n : Int)).toNat = 20 by unfold mn; split <;> omega]
    refine this.trans ?_
    rw [decide_eq_false (show ¬ ((20 : Nat) : Int) = (j.val : Int) by omega), decide_eq_false (show ¬ (n : Int) = (j.val : Int) by omega)]

/-- The texts on the way up and what comes of the last one. -/
def stepT (i : Int) (h p : ByteArray) : ByteArray := if i % 2 = 1 then nodeT p h else nodeT h p
def upL : Int → List ByteArray → List ByteArray → ByteArray → List ByteArray × ByteArray
  | _, [], acc, h => (acc, h)
  | i, p :: ps, acc, h => upL (i / 2) ps (acc ++ [stepT i h p]) (hashT (stepT i h p))
theorem upL_length (i : Int) (ps acc : List ByteArray) (h : ByteArray) : (upL i ps acc h).1.length = acc.length + ps.length := by
  induction ps generalizing i acc h with
  | nil => rfl
  | cons p ps ih => rw [upL, ih]; simp; omega
/-- Each is a hash. -/
def hashesB (l : List ByteArray) : Bool := l.all fun s => (s.size : Int) == 32
theorem hashesB_at {l : List ByteArray} (h : hashesB l = true) {i : Nat} (hi : i < l.length) : (l.getD i ByteArray.empty).size = 32 := by
  have := List.all_eq_true.1 h (l.getD i ByteArray.empty) (by rw [List.getD_eq_getElem?_getD, List.getElem?_eq_getElem hi]; exact List.getElem_mem hi)
  have := eq_of_beq this
  omega
theorem drop_at {l : List ByteArray} {i : Nat} (hi : i < l.length) : l.drop i = l.getD i ByteArray.empty :: l.drop (i + 1) := by
  rw [List.drop_eq_getElem_cons hi, List.getD_eq_getElem?_getD, List.getElem?_eq_getElem hi]
  rfl
theorem one_small {n : Nat} (h : n ≤ 70368744170000) : 1 + n ≤ 9223372036854775807 := by omega
theorem acc_small {n i m : Nat} (h : n ≤ 1 + i) (h1 : i < m) (h2 : m ≤ 4096) : n < 8796093022208 := by omega
theorem half_in {x : Int} (h0 : 0 ≤ x) (h1 : x ≤ 255) : 0 ≤ x / 2 ∧ x / 2 ≤ 255 := by omega
theorem half_wrap {x : Int} (h0 : 0 ≤ x) (h1 : x ≤ 255) : wrap64 (Int.tdiv x 2) = x / 2 := by rw [Int.tdiv_eq_ediv_of_nonneg h0]; exact wrap_small (by omega) (by omega)
theorem succ_wrap {i : Nat} (h : i ≤ 4096) : wrap64 ((i : Int) + 1) = ((i + 1 : Nat) : Int) := by rw [wrap_small (by omega) (by omega)]; rfl
theorem hashT_small (s : ByteArray) : (hashT s).size ≤ 70368744170000 := by rw [hashT_size]; decide
theorem node_hash {a b : ByteArray} (ha : a.size ≤ 32) (hb : b.size ≤ 32) : spec_l03Hash.f (((⟨#[1]⟩ : ByteArray) ++ a) ++ b) = some (hashT (nodeT a b)) := spec_hash_f (s := nodeT a b) (by rw [nodeT_size]; omega)
theorem spec_up_step {l acc : List ByteArray} {x : Int} {h p : ByteArray} {i : Nat} (hi : i < l.length) (hn : l.length ≤ 4096) (h0 : 0 ≤ x) (h1 : x ≤ 255) (ha : acc.length ≤ 1 + i) (hs : h.size ≤ 32) (hp : p.size ≤ 32) (hr : rdOf ByteArray.empty l (i : Int) = p) (k : Nat) :
    spec_l04Up.l0 (k + 1) x l acc h (i : Int) = spec_l04Up.l0 k (x / 2) l (acc ++ [stepT x h p]) (hashT (stepT x h p)) ((i + 1 : Nat) : Int) := by
  have c1 : (i : Int) < (l.length : Int) := by omega
  have c2 : (0 : Int) ≤ (i : Int) := by omega
  have b1 : h.size ≤ 70368744170000 := Nat.le_trans hs (by decide)
  have b2 : p.size ≤ 70368744170000 := Nat.le_trans hp (by decide)
  have e1 : Int.tmod x 2 = x % 2 := Int.tmod_eq_emod_of_nonneg h0
  have e2 := half_wrap h0 h1
  have e3 := succ_wrap (i := i) (by omega)
  have e4 := acc_small ha hi hn
  rw [spec_l04Up.l0, if_pos c1, if_pos (one_small b1), if_pos c2, hr, if_pos (node_one _ _ b1 b2), e1, e2, e3]
  by_cases hx : x % 2 = 1
  · rw [show stepT x h p = nodeT p h from if_pos hx, if_pos hx, if_pos (one_small b2), if_pos (node_one _ _ b2 b1), if_pos e4, node_hash hp hs]
    rfl
  · rw [show stepT x h p = nodeT h p from if_neg hx, if_neg hx, if_pos e4, node_hash hs hp]
    rfl
theorem spec_up_l (l : List ByteArray) (hn : l.length ≤ 4096) (hh : hashesB l = true) (d : Nat) : ∀ (x : Int) (acc : List ByteArray) (h : ByteArray) (i : Nat), 0 ≤ x → x ≤ 255 → acc.length ≤ 1 + i → h.size ≤ 32 → i + d = l.length →
    Ev (fun k => spec_l04Up.l0 k x l acc h (i : Int)) (upL x (l.drop i) acc h) := by
  induction d with
  | zero =>
    intro x acc h i h0 h1 ha hs hi
    rw [List.drop_of_length_le (by omega)]
    exact Ev.step (f := fun _ => some (acc, h)) (fun k => by rw [spec_l04Up.l0, if_neg (by omega)]) (Ev.now _)
  | succ d ih =>
    intro x acc h i h0 h1 ha hs hi
    have hlt : i < l.length := by omega
    have hp := hashesB_at hh hlt
    rw [drop_at hlt, upL]
    have hb := half_in h0 h1
    exact Ev.step (spec_up_step hlt hn h0 h1 ha hs (Nat.le_of_eq hp) (rdT l i)) (ih (x / 2) _ _ (i + 1) hb.1 hb.2 (by rw [List.length_append]; exact Nat.add_le_add_right ha 1) (by rw [hashT_size]; exact Nat.le_refl _) (by omega))
/-- The way up from a leaf. -/
def wayL (i : Int) (s : ByteArray) (l : List ByteArray) : List ByteArray × ByteArray := upL i l [leafT s] (hashT (leafT s))
theorem spec_up_ev {i : Int} {s : ByteArray} {l : List ByteArray} (h0 : 0 ≤ i) (h1 : i ≤ 255) (hs : s.size ≤ 65536) (hn : l.length ≤ 4096) (hh : hashesB l = true) : Ev (fun k => spec_l04Up.f k i s l) (wayL i s l) := by
  unfold spec_l04Up.f
  refine ev_pos (by omega) (ev_cbind (spec_leaf_f (by omega)) ?_)
  have := spec_up_l l hn hh l.length i [leafT s] (hashT (leafT s)) 0 h0 h1 (by simp) (Nat.le_of_eq (hashT_size _)) (by omega)
  rw [List.drop_zero] at this
  exact this
theorem getD_last (acc : List ByteArray) (t : ByteArray) (n : Nat) (h : acc.length = n) : (acc ++ [t]).getD n ByteArray.empty = t := by
  subst h
  simp [List.getD_eq_getElem?_getD]
theorem impl_texts_l (l : List ByteArray) (hn : l.length ≤ 4096) (hh : hashesB l = true) (x : Int) (h0 : 0 ≤ x) (h1 : x ≤ 255) (d : Nat) : ∀ (acc : List ByteArray) (t : ByteArray) (i : Nat), acc.length = i → t.size ≤ 70368744170000 → i + d = l.length →
    Ev (fun k => impl_texts.l0 k x (acc ++ [t]) l (l.length : Int) (i : Int)) (upL (x / 2 ^ i) (l.drop i) (acc ++ [t]) (hashT t)).1 := by
  induction d with
  | zero =>
    intro acc t i ha hs hi
    rw [List.drop_of_length_le (by omega)]
    exact Ev.step (f := fun _ => some (acc ++ [t])) (fun k => by rw [impl_texts.l0, if_neg (by omega)]) (Ev.now _)
  | succ d ih =>
    intro acc t i ha hs hi
    have hp := hashesB_at hh (show i < l.length by omega)
    rw [drop_at (show i < l.length by omega), upL]
    have hr := rdT l i
    have hr2 := rdT (acc ++ [t]) i
    rw [getD_last acc t i ha] at hr2
    generalize l.getD i ByteArray.empty = p at hp hr
    have ew : wrap64 ((i : Int) + 1) = ((i + 1 : Nat) : Int) := by rw [wrap_small (by omega) (by omega)]; rfl
    have hpw : (0 : Int) < 2 ^ i := Int.pow_pos (by decide)
    have hq0 : 0 ≤ x / 2 ^ i := Int.ediv_nonneg h0 (by omega)
    have hq1 : x / 2 ^ i ≤ 255 := Int.le_trans (Int.ediv_le_self _ h0) h1
    have eq : x / 2 ^ i / 2 = x / 2 ^ (i + 1) := by rw [Int.pow_succ, Int.ediv_ediv, if_neg (by omega)]; omega
    have esh : i ≤ 64 → shr .i64 x (i : Int) = x / 2 ^ i := by
      intro hi
      unfold shr
      rw [show min ((i : Int)).toNat IntKind.i64.bits = i by rw [show IntKind.i64.bits = 64 from rfl]; omega]
    have esh2 : shr .i64 x (i : Int) = x / 2 ^ i := by
      by_cases hi : i ≤ 64
      · exact esh hi
      · unfold shr
        rw [show min ((i : Int)).toNat IntKind.i64.bits = 64 by rw [show IntKind.i64.bits = 64 from rfl]; omega]
        have hbig : (2 : Int) ^ 64 ≤ 2 ^ i := by
          rw [show i = 64 + (i - 64) by omega, Int.pow_add]
          have : (1 : Int) ≤ 2 ^ (i - 64) := Int.pow_pos (by decide)
          omega
        rw [Int.ediv_eq_zero_of_lt h0 (by omega), Int.ediv_eq_zero_of_lt h0 (by omega)]
    refine Ev.step (fun k => by rw [impl_texts.l0, if_pos (by omega), if_pos (by omega), if_pos (by omega), if_pos (by simp; omega), hr, hr2, esh2, and_one hq0 hq1, ew]) (ev_cbind (impl_hash_f (by omega)) ?_)
    by_cases hx : x / 2 ^ i % 2 = 1
    · rw [show stepT (x / 2 ^ i) (hashT t) p = nodeT p (hashT t) from if_pos hx, eq]
      have hz := hashT_size t
      refine ev_pos hx (ev_cbind (impl_nodeText_f (by omega) (by omega)) (ev_pos (by simp; omega) ?_))
      exact ih (acc ++ [t]) (nodeT p (hashT t)) (i + 1) (by simp; omega) (by rw [nodeT_size]; omega) (by omega)
    · rw [show stepT (x / 2 ^ i) (hashT t) p = nodeT (hashT t) p from if_neg hx, eq]
      have hz := hashT_size t
      refine ev_neg hx (ev_cbind (impl_nodeText_f (by omega) (by omega)) (ev_pos (by simp; omega) ?_))
      exact ih (acc ++ [t]) (nodeT (hashT t) p) (i + 1) (by simp; omega) (by rw [nodeT_size]; omega) (by omega)
theorem impl_texts_ev {i : Int} {s : ByteArray} {l : List ByteArray} (h0 : 0 ≤ i) (h1 : i ≤ 255) (hs : s.size ≤ 65536) (hn : l.length ≤ 4096) (hh : hashesB l = true) : Ev (fun k => impl_texts.f k i s l) (wayL i s l).1 := by
  unfold impl_texts.f
  refine ev_cbind (impl_leafText_f (by omega)) ?_
  have := impl_texts_l l hn hh i h0 h1 l.length [] (leafT s) 0 rfl (by rw [leafT_size]; omega) (by omega)
  rw [List.drop_zero, show (2 : Int) ^ 0 = 1 from rfl, Int.ediv_one] at this
  exact this
/-- What comes of the last text. -/
theorem upL_last (i : Int) (ps acc : List ByteArray) (t : ByteArray) (ht : t.size ≤ 70368744170000) (hp : hashesB ps = true) : ∃ pre u, (upL i ps (acc ++ [t]) (hashT t)).1 = pre ++ [u] ∧ (upL i ps (acc ++ [t]) (hashT t)).2 = hashT u ∧ u.size ≤ 70368744170000 := by
  induction ps generalizing i acc t with
  | nil => exact ⟨acc, t, rfl, rfl, ht⟩
  | cons p ps ih =>
    have h1 := List.all_eq_true.1 hp p (by simp)
    have h2 : hashesB ps = true := List.all_eq_true.2 fun x hx => List.all_eq_true.1 hp x (by simp [hx])
    rw [upL]
    refine ih (i / 2) (acc ++ [t]) (stepT i (hashT t) p) ?_ h2
    have hz := hashT_size t
    have h3 : p.size = 32 := by simp at h1; omega
    unfold stepT
    split <;> (rw [nodeT_size]; omega)
end Go.Proofs.Ytlogocmojnhpbaa.Pure
end
section
/- Plain laws: whether a leaf leads to a root; the codes of a place. -/
namespace Go.Proofs.Ytlogocmojnhpbaa.Pure
open Go Go.RowKit Go.Proofs.Ytlogocmojnhpbaa.Print Go.Proofs.YtlogocmojnhpbaaW.PrintWords Go.Proofs.YtlogocmojnhpbaaW.PrintLast Go.Proofs.YtlogocmojnhpbaaW.PrintMore
set_option linter.unusedSimpArgs false
set_option linter.unusedVariables false
/-- A place's code. -/
def askL (n i : Int) : Int := if powB n = true then (if 0 ≤ i ∧ i ≤ n - 1 then 0 else 4) else 8
theorem askL_in {n i : Int} (h : askL n i = 0) : powB n = true ∧ 0 ≤ i ∧ i ≤ 255 := by
  unfold askL at h
  split at h
  · next hp =>
    split at h
    · have := powB_le hp
      exact ⟨hp, by omega, by omega⟩
    · cases h
  · cases h
theorem ask_j {n i : Int} : Ev (fun k => spec_l04Ask.j0 k n i false) (askL n i) := by
  refine Ev.step (fun k => by rw [spec_l04Ask.j0, if_neg (by decide)]) (ev_bind (spec_power_ev n) ?_)
  unfold askL
  by_cases h : powB n = true
  · have := powB_le h
    simp only [if_pos h]
    rw [wrap_small (by omega) (by omega)]
    refine ev_cbind (spec_in_f _ _ _) ?_
    by_cases h1 : 0 ≤ i ∧ i ≤ n - 1
    · rw [if_pos h1]
      exact ev_pos (decide_eq_true h1) (Ev.now _)
    · rw [if_neg h1]
      exact ev_neg (by rw [decide_eq_false h1]; decide) (Ev.now _)
  · simp only [if_neg h]
    exact Ev.now _
theorem spec_ask_ev {a s : ByteArray} {l : List ByteArray} (n i : Int) (h1 : ¬ (a.size : Int) > 65536) (h2 : ¬ (s.size : Int) > 65536) (h3 : ¬ (l.length : Int) > 4096) : Ev (fun k => spec_l04Ask.f k a n i s l) (askL n i) := by
  unfold spec_l04Ask.f
  rw [decide_eq_false h3]
  exact ev_neg h1 (ev_neg h2 ask_j)
theorem impl_place_f (n i : Int) : impl_placeCode.f n i = some (askL n i) := by
  unfold impl_placeCode.f askL
  rw [impl_power_f]
  simp only [Option.bind_some]
  by_cases h : powB n = true
  · have := powB_le h
    rw [if_pos h, if_pos h, wrap_small (by omega) (by omega), impl_in_f]
    simp only [Option.bind_some, decide_eq_true_eq]
    split <;> rfl
  · rw [if_neg h, if_neg h]
/-- Whether a leaf leads to a root. -/
def leadsB (root : ByteArray) (n i : Int) (s : ByteArray) (l : List ByteArray) : Bool := if (s.size : Int) > 64 then false else if impl_logOf.f n = some (l.length : Int) then (if hashesB l = true then (wayL i s l).2.toList == root.toList else false) else false
theorem check_all {root s : ByteArray} {l : List ByteArray} {i : Int} (h0 : 0 ≤ i) (h1 : i ≤ 255) (hs : s.size ≤ 65536) (hn : l.length ≤ 4096) (hh : hashesB l = true) (d : Nat) : ∀ j : Nat, j + d = l.length → Ev (fun k => spec_l04Check.l0 k root i s l (j : Int)) ((wayL i s l).2.toList == root.toList) := by
  induction d with
  | zero =>
    intro j hj
    exact Ev.step (fun k => by rw [spec_l04Check.l0, if_neg (by omega)]) (ev_bind (spec_up_ev h0 h1 hs hn hh) (Ev.now _))
  | succ d ih =>
    intro j hj
    have hz := hashesB_at hh (show j < l.length by omega)
    have c1 : (j : Int) < (l.length : Int) := by omega
    have c2 : (0 : Int) ≤ (j : Int) := by omega
    have c3 : ((l.getD j ByteArray.empty).size : Int) = 32 := by omega
    exact Ev.step (fun k => by rw [spec_l04Check.l0, if_pos c1, if_pos c2, rdT, if_pos c3, succ_wrap (by omega)]) (ih (j + 1) (by omega))
theorem check_no {root s : ByteArray} {l : List ByteArray} {i : Int} (hn : l.length ≤ 4096) (d : Nat) : ∀ j : Nat, j + d = l.length → ¬ hashesB (l.drop j) = true → Ev (fun k => spec_l04Check.l0 k root i s l (j : Int)) false := by
  induction d with
  | zero =>
    intro j hj h
    rw [List.drop_of_length_le (by omega)] at h
    exact absurd rfl h
  | succ d ih =>
    intro j hj h
    have c1 : (j : Int) < (l.length : Int) := by omega
    have c2 : (0 : Int) ≤ (j : Int) := by omega
    rw [drop_at (show j < l.length by omega)] at h
    have hr := rdT l j
    generalize l.getD j ByteArray.empty = p at h hr
    by_cases c3 : (p.size : Int) = 32
    · refine Ev.step (fun k => by rw [spec_l04Check.l0, if_pos c1, if_pos c2, hr, if_pos c3, succ_wrap (by omega)]) (ih (j + 1) (by omega) fun g => h ?_)
      unfold hashesB at g ⊢
      rw [List.all_cons, g, beq_iff_eq.2 c3]
      rfl
    · exact Ev.step (f := fun _ => some false) (fun k => by rw [spec_l04Check.l0, if_pos c1, if_pos c2, hr, if_neg c3]) (Ev.now _)
theorem log_at {n : Int} (h : powB n = true) (m : Nat) : ((n != (wrap64 (2 ^ (mn 20 (m : Int)).toNat))) : Bool) = !(decide (impl_logOf.f n = some (m : Int))) := by
  obtain ⟨j, rfl⟩ := powB_exp h
  rw [mn_len m j, log_bits j]
  by_cases e : (m : Int) = (j.val : Int)
  · rw [decide_eq_true e, decide_eq_true (by rw [e])]
  · rw [decide_eq_false e, decide_eq_false fun g => e (Option.some.inj g).symm]
theorem spec_check_ev {root s : ByteArray} {l : List ByteArray} {n i : Int} (hp : powB n = true) (h0 : 0 ≤ i) (h1 : i ≤ 255) (hs : s.size ≤ 65536) (hn : l.length ≤ 4096) : Ev (fun k => spec_l04Check.f k root n i s l) (leadsB root n i s l) := by
  unfold spec_l04Check.f leadsB
  by_cases h : (s.size : Int) > 64
  · rw [if_pos h]
    exact ev_pos h (Ev.step (f := fun _ => some false) (fun k => by rw [spec_l04Check.j0, if_pos rfl]) (Ev.now _))
  · rw [if_neg h, log_at hp]
    refine ev_neg h ?_
    by_cases g : impl_logOf.f n = some (l.length : Int)
    · rw [if_pos g, decide_eq_true g]
      refine Ev.step (fun k => by rw [spec_l04Check.j0, if_neg (by decide)]) ?_
      by_cases hh : hashesB l = true
      · rw [if_pos hh]
        exact check_all h0 h1 hs hn hh l.length 0 (by omega)
      · rw [if_neg hh]
        exact check_no hn l.length 0 (by omega) (by rw [List.drop_zero]; exact hh)
    · rw [if_neg g, decide_eq_false g]
      exact Ev.step (f := fun _ => some false) (fun k => by rw [spec_l04Check.j0, if_pos (by decide)]) (Ev.now _)
theorem con_path_f (l : List ByteArray) : con_path.f l = some (!hashesB l) := by
  unfold con_path.f hashesB
  rw [List.not_all_eq_any_not]
theorem impl_leads_ev {root s : ByteArray} {l : List ByteArray} {n i : Int} (hp : powB n = true) (h0 : 0 ≤ i) (h1 : i ≤ 255) (hs : s.size ≤ 65536) (hn : l.length ≤ 4096) : Ev (fun k => impl_leads.f k root n i s l) (leadsB root n i s l) := by
  have hno : Ev (fun k => impl_leads.j0 k root i s l true) false := Ev.step (f := fun _ => some false) (fun k => by rw [impl_leads.j0, if_pos rfl]) (Ev.now _)
  unfold impl_leads.f leadsB
  by_cases h : (s.size : Int) > 64
  · rw [if_pos h]
    exact ev_pos h hno
  · rw [if_neg h]
    refine ev_neg h ?_
    obtain ⟨j, rfl⟩ := powB_exp hp
    rw [log_bits j]
    refine ev_cbind rfl ?_
    by_cases g : (l.length : Int) = (j.val : Int)
    · rw [if_pos (by rw [g])]
      refine ev_pos g (ev_cbind (con_path_f l) ?_)
      by_cases hh : hashesB l = true
      · rw [if_pos hh, hh]
        obtain ⟨pre, u, e1, e2, e3⟩ := upL_last i l [] (leafT s) (by rw [leafT_size]; omega) hh
        have ht := impl_texts_ev h0 h1 hs hn hh
        have hlen : (wayL i s l).1.length = 1 + l.length := upL_length _ _ _ _
        replace e1 : (wayL i s l).1 = pre ++ [u] := e1
        replace e2 : (wayL i s l).2 = hashT u := e2
        rw [e1] at hlen ht
        rw [e2]
        have hpl : pre.length = l.length := by simp at hlen; omega
        refine Ev.step (fun k => by rw [impl_leads.j0, if_neg (by decide)]) (ev_bind ht ?_)
        have hw : wrap64 (((pre ++ [u]).length : Int) - 1) = ((pre.length : Nat) : Int) := by rw [hlen, wrap_small (by omega) (by omega)]; omega
        rw [hw, rdT, getD_last pre u pre.length rfl]
        exact ev_pos (by omega) (ev_pos (by omega) (ev_cbind (impl_hash_f (by omega)) (Ev.now _)))
      · have hf : hashesB l = false := by simpa using hh
        rw [if_neg hh, hf]
        exact hno
    · rw [if_neg fun e => g (Option.some.inj e).symm]
      exact ev_neg g hno
end Go.Proofs.Ytlogocmojnhpbaa.Pure
end
section
/- The law FnExactExtractCollision: ExtractCollision answers as the reference does; no conditions. -/
namespace Go.Proofs.Ytlogocmojnhpbaa.Pure
open Go Go.RowKit Go.Proofs.Ytlogocmojnhpbaa.Print Go.Proofs.YtlogocmojnhpbaaW.PrintWords Go.Proofs.YtlogocmojnhpbaaW.PrintLast Go.Proofs.YtlogocmojnhpbaaW.PrintMore
set_option linter.unusedSimpArgs false
set_option linter.unusedVariables false

abbrev Col := ByteArray × ByteArray × Int
/-- Two ways' first difference from above. -/
def diffL (a b : List ByteArray) : Nat → Col
  | 0 => (⟨#[]⟩, ⟨#[]⟩, 5)
  | j + 1 => if (a.getD j ByteArray.empty).toList = (b.getD j ByteArray.empty).toList then diffL a b j else (a.getD j ByteArray.empty, b.getD j ByteArray.empty, 0)
theorem spec_diff (a b : List ByteArray) (h : a.length = b.length) (hn : a.length ≤ 5000) (j : Nat) : j ≤ a.length → Ev (fun k => spec_ExtractCollision.l0 k a b ((j : Int) - 1)) (diffL a b j) := by
  induction j with
  | zero =>
    intro _
    exact Ev.step (f := fun _ => some (⟨#[]⟩, ⟨#[]⟩, 5)) (fun k => by rw [spec_ExtractCollision.l0, if_neg (by decide)]) (Ev.now _)
  | succ j ih =>
    intro hj
    have e : ((j + 1 : Nat) : Int) - 1 = (j : Int) := by omega
    have c0 : (j : Int) ≥ 0 := by omega
    have c1 : (j : Int) < (a.length : Int) := by omega
    have c2 : (j : Int) < (b.length : Int) := by omega
    have ew : wrap64 ((j : Int) - 1) = (j : Int) - 1 := wrap_small (by omega) (by omega)
    rw [e]
    refine Ev.step (fun k => by rw [spec_ExtractCollision.l0, if_pos c0, if_pos c0, if_pos c1, if_pos c2, rdT, rdT, ew]) ?_
    unfold diffL
    by_cases g : (a.getD j ByteArray.empty).toList = (b.getD j ByteArray.empty).toList
    · exact ev_val (ev_pos g (ih (by omega))) (if_pos g).symm
    · exact ev_val (ev_neg g (Ev.now _)) (if_neg g).symm
theorem impl_diff (a b : List ByteArray) (h : a.length = b.length) (hn : a.length ≤ 5000) (j : Nat) : j ≤ a.length → Ev (fun k => impl_ExtractCollision.l0 k a b ((j : Int) - 1)) (diffL a b j) := by
  induction j with
  | zero =>
    intro _
    exact Ev.step (f := fun _ => some (⟨#[]⟩, ⟨#[]⟩, 5)) (fun k => by rw [impl_ExtractCollision.l0, if_neg (by decide)]) (Ev.now _)
  | succ j ih =>
    intro hj
    have e : ((j + 1 : Nat) : Int) - 1 = (j : Int) := by omega
    have c0 : (j : Int) ≥ 0 := by omega
    have c1 : (j : Int) < (a.length : Int) := by omega
    have c2 : (j : Int) < (b.length : Int) := by omega
    have ew : wrap64 ((j : Int) - 1) = (j : Int) - 1 := wrap_small (by omega) (by omega)
    rw [e]
    refine Ev.step (fun k => by rw [impl_ExtractCollision.l0, if_pos c0, if_pos c0, if_pos c1, if_pos c2, rdT, rdT, ew]) ?_
    unfold diffL
    by_cases g : (a.getD j ByteArray.empty).toList = (b.getD j ByteArray.empty).toList
    · exact ev_val (ev_pos g (ih (by omega))) (if_pos g).symm
    · exact ev_val (ev_neg g (Ev.now _)) (if_neg g).symm
theorem leadsB_in {root s : ByteArray} {n i : Int} {l : List ByteArray} (h : leadsB root n i s l = true) : hashesB l = true ∧ impl_logOf.f n = some (l.length : Int) := by
  unfold leadsB at h
  split at h
  · cases h
  · split at h
    · next g =>
      split at h
      · next hh => exact ⟨hh, g⟩
      · cases h
    · cases h
def LongC (a s : ByteArray) (l : List ByteArray) (s2 : ByteArray) (l2 : List ByteArray) : Prop := (a.size : Int) > 65536 ∨ (s.size : Int) > 65536 ∨ (l.length : Int) > 4096 ∨ (s2.size : Int) > 65536 ∨ (l2.length : Int) > 4096
instance (a s : ByteArray) (l : List ByteArray) (s2 : ByteArray) (l2 : List ByteArray) : Decidable (LongC a s l s2 l2) := inferInstanceAs (Decidable (_ ∨ _))
def colE (c : Int) : Col := (⟨#[]⟩, ⟨#[]⟩, c)
def colC (a : ByteArray) (n i : Int) (s : ByteArray) (l : List ByteArray) (s2 : ByteArray) (l2 : List ByteArray) : Col :=
  if LongC a s l s2 l2 then colE 2 else if askL n i = 0 then (if leadsB a n i s l = true ∧ leadsB a n i s2 l2 = true then diffL (wayL i s l).1 (wayL i s2 l2).1 (wayL i s l).1.length else colE 9) else colE (askL n i)
theorem way_lengths {a s s2 : ByteArray} {n i : Int} {l l2 : List ByteArray} (h : leadsB a n i s l = true) (h2 : leadsB a n i s2 l2 = true) : (wayL i s l).1.length = (wayL i s2 l2).1.length := by
  have e1 := (leadsB_in h).2
  rw [(leadsB_in h2).2] at e1
  have := Option.some.inj e1
  have f1 : (wayL i s l).1.length = 1 + l.length := upL_length _ _ _ _
  have f2 : (wayL i s2 l2).1.length = 1 + l2.length := upL_length _ _ _ _
  omega
theorem spec_j1 {a s s2 : ByteArray} {n i : Int} {l l2 : List ByteArray} (h0 : 0 ≤ i) (h1 : i ≤ 255) (hs : s.size ≤ 65536) (hs2 : s2.size ≤ 65536) (hn : l.length ≤ 4096) (hn2 : l2.length ≤ 4096) {c : Bool} (hc : c = !(decide (leadsB a n i s l = true ∧ leadsB a n i s2 l2 = true))) :
    Ev (fun k => spec_ExtractCollision.j1 k i s l s2 l2 c) (if leadsB a n i s l = true ∧ leadsB a n i s2 l2 = true then diffL (wayL i s l).1 (wayL i s2 l2).1 (wayL i s l).1.length else colE 9) := by
  subst hc
  by_cases h : leadsB a n i s l = true ∧ leadsB a n i s2 l2 = true
  · rw [if_pos h, decide_eq_true h]
    have hl := way_lengths h.1 h.2
    have f1 : (wayL i s l).1.length = 1 + l.length := upL_length _ _ _ _
    have hw : wrap64 (((wayL i s l).1.length : Int) - 1) = ((wayL i s l).1.length : Int) - 1 := wrap_small (by omega) (by omega)
    refine Ev.step (fun k => by rw [spec_ExtractCollision.j1, if_neg (by decide)]) (ev_bind (spec_up_ev h0 h1 hs hn (leadsB_in h.1).1) (ev_bind (spec_up_ev h0 h1 hs2 hn2 (leadsB_in h.2).1) ?_))
    simp only [hw]
    exact spec_diff _ _ hl (by omega) _ (Nat.le_refl _)
  · rw [if_neg h, decide_eq_false h]
    exact Ev.step (f := fun _ => some (colE 9)) (fun k => by rw [spec_ExtractCollision.j1, if_pos (by decide)]; rfl) (Ev.now _)
theorem impl_j1 {a s s2 : ByteArray} {n i : Int} {l l2 : List ByteArray} (h0 : 0 ≤ i) (h1 : i ≤ 255) (hs : s.size ≤ 65536) (hs2 : s2.size ≤ 65536) (hn : l.length ≤ 4096) (hn2 : l2.length ≤ 4096) {c : Bool} (hc : c = !(decide (leadsB a n i s l = true ∧ leadsB a n i s2 l2 = true))) :
    Ev (fun k => impl_ExtractCollision.j1 k i s l s2 l2 c) (if leadsB a n i s l = true ∧ leadsB a n i s2 l2 = true then diffL (wayL i s l).1 (wayL i s2 l2).1 (wayL i s l).1.length else colE 9) := by
  subst hc
  by_cases h : leadsB a n i s l = true ∧ leadsB a n i s2 l2 = true
  · rw [if_pos h, decide_eq_true h]
    have hl := way_lengths h.1 h.2
    have f1 : (wayL i s l).1.length = 1 + l.length := upL_length _ _ _ _
    have hw : wrap64 (((wayL i s l).1.length : Int) - 1) = ((wayL i s l).1.length : Int) - 1 := wrap_small (by omega) (by omega)
    refine Ev.step (fun k => by rw [impl_ExtractCollision.j1, if_neg (by decide)]) (ev_bind (impl_texts_ev h0 h1 hs hn (leadsB_in h.1).1) (ev_bind (impl_texts_ev h0 h1 hs2 hn2 (leadsB_in h.2).1) ?_))
    simp only [hw]
    exact impl_diff _ _ hl (by omega) _ (Nat.le_refl _)
  · rw [if_neg h, decide_eq_false h]
    exact Ev.step (f := fun _ => some (colE 9)) (fun k => by rw [impl_ExtractCollision.j1, if_pos (by decide)]; rfl) (Ev.now _)
theorem longC_parts {a s s2 : ByteArray} {l l2 : List ByteArray} (h : ¬ LongC a s l s2 l2) : a.size ≤ 65536 ∧ s.size ≤ 65536 ∧ l.length ≤ 4096 ∧ s2.size ≤ 65536 ∧ l2.length ≤ 4096 := by
  unfold LongC at h
  omega
theorem spec_col_j {a s s2 : ByteArray} {n i : Int} {l l2 : List ByteArray} {c : Bool} (hc : c = decide (LongC a s l s2 l2)) : Ev (fun k => spec_ExtractCollision.j0 k a n i s l s2 l2 c) (colC a n i s l s2 l2) := by
  subst hc
  unfold colC
  by_cases h : LongC a s l s2 l2
  · rw [if_pos h, decide_eq_true h]
    exact Ev.step (f := fun _ => some (colE 2)) (fun k => by rw [spec_ExtractCollision.j0, if_pos rfl]; rfl) (Ev.now _)
  · obtain ⟨ba, bs, bl, bs2, bl2⟩ := longC_parts h
    rw [if_neg h, decide_eq_false h]
    refine Ev.step (fun k => by rw [spec_ExtractCollision.j0, if_neg (by decide)]) (ev_bind (spec_ask_ev n i (by omega) (by omega) (by omega)) ?_)
    by_cases g : askL n i = 0
    · obtain ⟨hp, g0, g1⟩ := askL_in g
      refine ev_val (ev_pos g (ev_bind (spec_ask_ev n i (by omega) (by omega) (by omega)) (ev_pos g (ev_bind (spec_check_ev hp g0 g1 bs bl) ?_)))) (if_pos g).symm
      by_cases e1 : leadsB a n i s l = true
      · refine ev_pos e1 (ev_bind (spec_check_ev hp g0 g1 bs2 bl2) (spec_j1 g0 g1 bs bs2 bl bl2 ?_))
        rw [e1]
        by_cases e2 : leadsB a n i s2 l2 = true
        · simp [e2]
        · simp [e2]
      · exact ev_neg e1 (spec_j1 g0 g1 bs bs2 bl bl2 (by simp [e1]))
    · exact ev_val (ev_neg g (Ev.now _)) (if_neg g).symm
theorem impl_col_j {a s s2 : ByteArray} {n i : Int} {l l2 : List ByteArray} {c : Bool} (hc : c = decide (LongC a s l s2 l2)) : Ev (fun k => impl_ExtractCollision.j0 k a n i s l s2 l2 c) (colC a n i s l s2 l2) := by
  subst hc
  unfold colC
  by_cases h : LongC a s l s2 l2
  · rw [if_pos h, decide_eq_true h]
    exact Ev.step (f := fun _ => some (colE 2)) (fun k => by rw [impl_ExtractCollision.j0, if_pos rfl]; rfl) (Ev.now _)
  · obtain ⟨ba, bs, bl, bs2, bl2⟩ := longC_parts h
    rw [if_neg h, decide_eq_false h]
    refine Ev.step (fun k => by rw [impl_ExtractCollision.j0, if_neg (by decide)]) (ev_cbind (impl_place_f n i) ?_)
    by_cases g : askL n i = 0
    · obtain ⟨hp, g0, g1⟩ := askL_in g
      refine ev_val (ev_pos g (ev_bind (impl_leads_ev hp g0 g1 bs bl) ?_)) (if_pos g).symm
      by_cases e1 : leadsB a n i s l = true
      · refine ev_pos e1 (ev_bind (impl_leads_ev hp g0 g1 bs2 bl2) (impl_j1 g0 g1 bs bs2 bl bl2 ?_))
        rw [e1]
        by_cases e2 : leadsB a n i s2 l2 = true
        · simp [e2]
        · simp [e2]
      · exact ev_neg e1 (impl_j1 g0 g1 bs bs2 bl bl2 (by simp [e1]))
    · exact ev_val (ev_neg g (Ev.now _)) (if_neg g).symm
theorem spec_col_ev (a : ByteArray) (n i : Int) (s : ByteArray) (l : List ByteArray) (s2 : ByteArray) (l2 : List ByteArray) : Ev (fun k => spec_ExtractCollision.f k a n i s l s2 l2) (colC a n i s l s2 l2) := by
  unfold spec_ExtractCollision.f
  by_cases h1 : (a.size : Int) > 65536
  · exact ev_pos h1 (spec_col_j (decide_eq_true (.inl h1)).symm)
  refine ev_neg h1 ?_
  by_cases h2 : (s.size : Int) > 65536
  · exact ev_pos h2 (spec_col_j (decide_eq_true (.inr (.inl h2))).symm)
  refine ev_neg h2 ?_
  by_cases h3 : (l.length : Int) > 4096
  · exact ev_pos h3 (spec_col_j (decide_eq_true (.inr (.inr (.inl h3)))).symm)
  refine ev_neg h3 ?_
  by_cases h4 : (s2.size : Int) > 65536
  · exact ev_pos h4 (spec_col_j (decide_eq_true (.inr (.inr (.inr (.inl h4))))).symm)
  refine ev_neg h4 (spec_col_j ?_)
  by_cases h5 : (l2.length : Int) > 4096
  · rw [decide_eq_true h5, decide_eq_true (.inr (.inr (.inr (.inr h5))))]
  · rw [decide_eq_false h5, decide_eq_false (fun g => g.elim h1 fun g => g.elim h2 fun g => g.elim h3 fun g => g.elim h4 h5)]
theorem impl_col_ev (a : ByteArray) (n i : Int) (s : ByteArray) (l : List ByteArray) (s2 : ByteArray) (l2 : List ByteArray) : Ev (fun k => impl_ExtractCollision.f k a n i s l s2 l2) (colC a n i s l s2 l2) := by
  unfold impl_ExtractCollision.f
  refine ev_cbind (a := decide ((a.size : Int) > 65536)) rfl ?_
  by_cases h1 : (a.size : Int) > 65536
  · exact ev_pos (decide_eq_true h1) (impl_col_j (decide_eq_true (.inl h1)).symm)
  refine ev_neg (by rw [decide_eq_false h1]; decide) (ev_cbind (a := decide ((s.size : Int) > 65536)) rfl ?_)
  by_cases h2 : (s.size : Int) > 65536
  · exact ev_pos (decide_eq_true h2) (impl_col_j (decide_eq_true (.inr (.inl h2))).symm)
  refine ev_neg (by rw [decide_eq_false h2]; decide) (ev_cbind (a := decide ((s2.size : Int) > 65536)) rfl ?_)
  by_cases h4 : (s2.size : Int) > 65536
  · exact ev_pos (decide_eq_true h4) (impl_col_j (decide_eq_true (.inr (.inr (.inr (.inl h4))))).symm)
  refine ev_neg (by rw [decide_eq_false h4]; decide) ?_
  by_cases h3 : (l.length : Int) > 4096
  · exact ev_pos h3 (impl_col_j (decide_eq_true (.inr (.inr (.inl h3)))).symm)
  refine ev_neg h3 (impl_col_j ?_)
  by_cases h5 : (l2.length : Int) > 4096
  · rw [decide_eq_true h5, decide_eq_true (.inr (.inr (.inr (.inr h5))))]
  · rw [decide_eq_false h5, decide_eq_false (fun g => g.elim h1 fun g => g.elim h2 fun g => g.elim h3 fun g => g.elim h4 h5)]
theorem FnExactExtractCollision : laws_FnExactExtractCollision.Pure := by
  intro a n i s l s2 l2 ha _ _ hs hl hl1 hs2 hl2 hl3
  refine Ev.rounds (g := fun k => laws_FnExactExtractCollision.f k a n i s l s2 l2) ?_
  unfold laws_FnExactExtractCollision.f
  by_cases g1 : (a.size : Int) > 1048576
  · exact ev_pos g1 (Ev.now _)
  refine ev_neg g1 ?_
  by_cases g2 : (s.size : Int) > 1048576
  · exact ev_pos g2 (Ev.now _)
  refine ev_neg g2 ?_
  by_cases g3 : (s2.size : Int) > 1048576
  · exact ev_pos g3 (Ev.now _)
  refine ev_neg g3 ?_
  obtain ⟨z, hz, hz1, hz2⟩ := szStringS_ev (a := 1048576) (by decide) (by decide) hl hl1
  refine ev_bind hz ?_
  by_cases g : z < 0
  · exact ev_pos g (Ev.now _)
  refine ev_neg g ?_
  obtain ⟨y, hy, hy1, _⟩ := szStringS_ev (a := z) (by omega) hz2 hl2 hl3
  refine ev_bind hy ?_
  by_cases g' : y < 0
  · exact ev_pos g' (Ev.now _)
  refine ev_neg g' ?_
  have hn := hz1 (by omega)
  have hn2 := hy1 (by omega)
  have t1 := toStringS_ev l (by omega)
  have t2 := toStringS_ev l2 (by omega)
  refine ev_bind t1 (ev_bind t2 (ev_bind (spec_col_ev a n i s l s2 l2) (ev_bind t1 (ev_bind t2 (ev_bind (impl_col_ev a n i s l s2 l2) (ev_cbind (a := true) ?_ (ev_pos rfl ?_)))))))
  · unfold laws_eqCollision.f
    simp
  · simp only [bne_self_eq_false]
    refine Ev.step (fun k => by rw [laws_FnExactExtractCollision.j0, if_neg (by decide)]) ?_
    exact ev_bind t1 (ev_bind (eqStringS_ev l (by omega)) (ev_pos rfl (ev_bind t2 (ev_bind (eqStringS_ev l2 (by omega)) (ev_pos rfl (Ev.now _))))))
end Go.Proofs.Ytlogocmojnhpbaa.Pure
end
