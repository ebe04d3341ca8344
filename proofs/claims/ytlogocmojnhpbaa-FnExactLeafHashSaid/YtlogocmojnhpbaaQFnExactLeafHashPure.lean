-- Packed by a program of this session (slim.py): the plain laws that FnExactLeafHash needs.
import Derived.Test.YtlogocmojnhpbaaK0
import Derived.Test.YtlogocmojnhpbaaK1
import Derived.Test.YtlogocmojnhpbaaK2
import Derived.Test.YtlogocmojnhpbaaK3
import Derived.Test.YtlogocmojnhpbaaK4
import Derived.Test.YtlogocmojnhpbaaQFnExactLeafHash0
import Derived.Test.YtlogocmojnhpbaaPrint0
section
/- Plain lemmas on lists and rounds. -/
namespace Go.Proofs.Ytlogocmojnhpbaa.Pure
open Go.RowKit Go.Proofs.Ytlogocmojnhpbaa.Print Go.Proofs.YtlogocmojnhpbaaW.PrintWords Go.Proofs.YtlogocmojnhpbaaW.PrintLast

theorem take_set {α : Type} (l : List α) (i : Nat) (v : α) (h : i < l.length) : (l.set i v).take (i + 1) = l.take i ++ [v] := by
  rw [List.take_succ_eq_append_getElem (by simpa using h)]
  rw [List.take_set_of_le (Nat.le_refl i)]
  simp
theorem take_map_succ {α β : Type} (f : α → β) (l : List α) (z : α) (i : Nat) (h : i < l.length) : (l.map f).take (i + 1) = (l.map f).take i ++ [f (l.getD i z)] := by
  rw [List.take_succ_eq_append_getElem (by simpa using h)]
  simp [List.getD_eq_getElem?_getD, List.getElem?_eq_getElem h]
theorem wrap_small {x : Int} (h0 : -9223372036854775808 ≤ x) (h1 : x ≤ 9223372036854775807) : wrap64 x = x := by unfold wrap64; omega
theorem ev_val {α : Type} {g : Nat → Option α} {a b : α} (h : Ev g a) (e : a = b) : Ev g b := e ▸ h
theorem ev_bind {α β : Type} {g : Nat → Option α} {f : Nat → α → Option β} {a : α} {r : β} (h : Ev g a) (k : Ev (fun n => f n a) r) : Ev (fun n => (g n).bind (f n)) r := Ev.bind h k
theorem ev_const {α : Type} {o : Option α} {r : α} (h : o = some r) : Ev (fun _ => o) r := by subst h; exact Ev.now r
theorem ev_cbind {α β : Type} {o : Option α} {f : Nat → α → Option β} {a : α} {r : β} (h : o = some a) (k : Ev (fun n => f n a) r) : Ev (fun n => o.bind (f n)) r := by subst h; exact k
theorem ev_pos {α : Type} {c : Prop} [Decidable c] {g f : Nat → Option α} {r : α} (h : c) (k : Ev g r) : Ev (fun n => if c then g n else f n) r := by simpa only [if_pos h] using k
theorem ev_neg {α : Type} {c : Prop} [Decidable c] {g f : Nat → Option α} {r : α} (h : ¬ c) (k : Ev f r) : Ev (fun n => if c then g n else f n) r := by simpa only [if_neg h] using k
theorem rd_natCast (xs : List Int) (i : Nat) : rd xs (i : Int) = xs.getD i 0 := by simp [rd]
end Go.Proofs.Ytlogocmojnhpbaa.Pure
end
section
/- Plain laws on the texts that are hashed. -/
namespace Go.Proofs.Ytlogocmojnhpbaa.Pure
open Go.RowKit Go.Proofs.Ytlogocmojnhpbaa.Print Go.Proofs.YtlogocmojnhpbaaW.PrintWords Go.Proofs.YtlogocmojnhpbaaW.PrintLast
set_option linter.unusedSimpArgs false
set_option linter.unusedVariables false
theorem size_one (b : UInt8) : (⟨#[b]⟩ : ByteArray).size = 1 := rfl
theorem spec_hash_f {s : ByteArray} (h : s.size ≤ 140737488350000) : spec_l03Hash.f s = some (hashT s) := by unfold spec_l03Hash.f; rw [if_pos h]
theorem impl_hash_f {s : ByteArray} (h : s.size ≤ 140737488350000) : impl_hashOf.f s = some (hashT s) := by unfold impl_hashOf.f; rw [if_pos h]
def leafT (s : ByteArray) : ByteArray := (⟨#[0]⟩ : ByteArray) ++ s
def nodeT (a b : ByteArray) : ByteArray := ((⟨#[1]⟩ : ByteArray) ++ a) ++ b
theorem leafT_size (s : ByteArray) : (leafT s).size = 1 + s.size := by unfold leafT; rw [ByteArray.size_append]; rfl
theorem nodeT_size (a b : ByteArray) : (nodeT a b).size = 1 + a.size + b.size := by unfold nodeT; rw [ByteArray.size_append, ByteArray.size_append]; rfl
theorem spec_leaf_f {s : ByteArray} (h : s.size ≤ 140737488340000) : spec_l04Leaf.f s = some (hashT (leafT s)) := by
  unfold spec_l04Leaf.f
  rw [if_pos (by omega)]
  show (spec_l03Hash.f (leafT s)).bind _ = _
  rw [spec_hash_f (by rw [leafT_size]; omega)]
  rfl
theorem impl_leafText_f {s : ByteArray} (h : s.size ≤ 140737488340000) : impl_leafText.f s = some (leafT s) := by
  unfold impl_leafText.f
  rw [if_pos (by omega)]
  rfl
theorem node_one (a b : ByteArray) (ha : a.size ≤ 70368744170000) (hb : b.size ≤ 70368744170000) : ((⟨#[1]⟩ : ByteArray) ++ a).size + b.size ≤ 9223372036854775807 := by
  rw [ByteArray.size_append, size_one]
  omega
theorem spec_node_f {a b : ByteArray} (ha : a.size ≤ 70368744170000) (hb : b.size ≤ 70368744170000) : spec_l04Node.f a b = some (hashT (nodeT a b)) := by
  unfold spec_l04Node.f
  rw [if_pos (by omega), if_pos (node_one a b ha hb)]
  show (spec_l03Hash.f (nodeT a b)).bind _ = _
  rw [spec_hash_f (by rw [nodeT_size]; omega)]
  rfl
theorem impl_nodeText_f {a b : ByteArray} (ha : a.size ≤ 70368744170000) (hb : b.size ≤ 70368744170000) : impl_nodeText.f a b = some (nodeT a b) := by
  unfold impl_nodeText.f
  rw [if_pos (by omega), if_pos (node_one a b ha hb)]
  rfl
end Go.Proofs.Ytlogocmojnhpbaa.Pure
end
section
/- The law FnExactLeafHash: LeafHash answers as the reference does; no conditions. -/
namespace Go.Proofs.Ytlogocmojnhpbaa.Pure
open Go.RowKit Go.Proofs.Ytlogocmojnhpbaa.Print Go.Proofs.YtlogocmojnhpbaaW.PrintWords Go.Proofs.YtlogocmojnhpbaaW.PrintLast
set_option linter.unusedSimpArgs false
set_option linter.unusedVariables false

def leafL (s : ByteArray) : ByteArray × Int := if (s.size : Int) > 65536 then (⟨#[]⟩, 2) else if (s.size : Int) > 64 then (⟨#[]⟩, 4) else (hashT (leafT s), 0)
theorem spec_LeafHash_f {s : ByteArray} : spec_LeafHash.f s = some (leafL s) := by
  unfold spec_LeafHash.f leafL
  split
  · rfl
  · split
    · rfl
    · rw [spec_leaf_f (by omega)]
      rfl
theorem impl_LeafHash_f {s : ByteArray} : impl_LeafHash.f s = some (leafL s) := by
  unfold impl_LeafHash.f leafL impl_isLong.f
  simp only [Option.bind_some, decide_eq_true_eq]
  split
  · rfl
  · split
    · rfl
    · rw [impl_leafText_f (by omega)]
      simp only [Option.bind_some]
      rw [impl_hash_f (by rw [leafT_size]; omega)]
      rfl
theorem FnExactLeafHash : laws_FnExactLeafHash.Pure := by
  intro s hs
  unfold laws_FnExactLeafHash.f
  rw [spec_LeafHash_f, impl_LeafHash_f]
  split
  · rfl
  · simp

end Go.Proofs.Ytlogocmojnhpbaa.Pure
end
