-- Packed by a program of this session (slim.py): the plain laws that FnExactNewSponge needs.
import Derived.Test.YtlogocmojnhpbaaK0
import Derived.Test.YtlogocmojnhpbaaK1
import Derived.Test.YtlogocmojnhpbaaK2
import Derived.Test.YtlogocmojnhpbaaK3
import Derived.Test.YtlogocmojnhpbaaK4
import Derived.Test.YtlogocmojnhpbaaQFnExactNewSponge0
import Derived.Test.YtlogocmojnhpbaaQFnExactNewSponge1
import Derived.Test.YtlogocmojnhpbaaQFnExactNewSponge2
import Derived.Test.YtlogocmojnhpbaaPrint0
section
/- Plain lemmas on lists and rounds. -/
namespace Go.Proofs.Ytlogocmojnhpbaa.Pure
open Go.RowKit Go.Proofs.Ytlogocmojnhpbaa.Print Go.Proofs.YtlogocmojnhpbaaW.PrintWords Go.Proofs.YtlogocmojnhpbaaW.PrintLast

theorem take_set {α : Type} (l : List α) (i : Nat) (v : α) (h : i < l.length) : (l.set i v).take (i + 1) = l.take i ++ [v] := by
  rw [List.take_succ_eq_append_getElem (by simpa using h)]
  rw [List.take_set_of_le (Nat.le_refl i)]
  simp
theorem take_map_succ {α β : Type} (f : α → β) (l : List α) (z : α) (i : Nat) (h : i < l.length) : (l.map f).take (i + 1) = (l.map f).take i ++ [f (l.getD i z)] := by
  rw [List.take_succ_eq_append_getElem (by simpa using h)]
  simp [List.getD_eq_getElem?_getD, List.getElem?_eq_getElem h]
theorem wrap_small {x : Int} (h0 : -9223372036854775808 ≤ x) (h1 : x ≤ 9223372036854775807) : wrap64 x = x := by unfold wrap64; omega
theorem ev_val {α : Type} {g : Nat → Option α} {a b : α} (h : Ev g a) (e : a = b) : Ev g b := e ▸ h
theorem ev_bind {α β : Type} {g : Nat → Option α} {f : Nat → α → Option β} {a : α} {r : β} (h : Ev g a) (k : Ev (fun n => f n a) r) : Ev (fun n => (g n).bind (f n)) r := Ev.bind h k
theorem ev_const {α : Type} {o : Option α} {r : α} (h : o = some r) : Ev (fun _ => o) r := by subst h; exact Ev.now r
theorem ev_cbind {α β : Type} {o : Option α} {f : Nat → α → Option β} {a : α} {r : β} (h : o = some a) (k : Ev (fun n => f n a) r) : Ev (fun n => o.bind (f n)) r := by subst h; exact k
theorem ev_pos {α : Type} {c : Prop} [Decidable c] {g f : Nat → Option α} {r : α} (h : c) (k : Ev g r) : Ev (fun n => if c then g n else f n) r := by simpa only [if_pos h] using k
theorem ev_neg {α : Type} {c : Prop} [Decidable c] {g f : Nat → Option α} {r : α} (h : ¬ c) (k : Ev f r) : Ev (fun n => if c then g n else f n) r := by simpa only [if_neg h] using k
theorem rd_natCast (xs : List Int) (i : Nat) : rd xs (i : Int) = xs.getD i 0 := by simp [rd]
end Go.Proofs.Ytlogocmojnhpbaa.Pure
end
section
/- Plain laws on the texts that are hashed. -/
namespace Go.Proofs.Ytlogocmojnhpbaa.Pure
open Go.RowKit Go.Proofs.Ytlogocmojnhpbaa.Print Go.Proofs.YtlogocmojnhpbaaW.PrintWords Go.Proofs.YtlogocmojnhpbaaW.PrintLast
set_option linter.unusedSimpArgs false
set_option linter.unusedVariables false
theorem size_one (b : UInt8) : (⟨#[b]⟩ : ByteArray).size = 1 := rfl
theorem spec_hash_f {s : ByteArray} (h : s.size ≤ 140737488350000) : spec_l03Hash.f s = some (hashT s) := by unfold spec_l03Hash.f; rw [if_pos h]
theorem impl_hash_f {s : ByteArray} (h : s.size ≤ 140737488350000) : impl_hashOf.f s = some (hashT s) := by unfold impl_hashOf.f; rw [if_pos h]
def leafT (s : ByteArray) : ByteArray := (⟨#[0]⟩ : ByteArray) ++ s
def nodeT (a b : ByteArray) : ByteArray := ((⟨#[1]⟩ : ByteArray) ++ a) ++ b
theorem leafT_size (s : ByteArray) : (leafT s).size = 1 + s.size := by unfold leafT; rw [ByteArray.size_append]; rfl
theorem nodeT_size (a b : ByteArray) : (nodeT a b).size = 1 + a.size + b.size := by unfold nodeT; rw [ByteArray.size_append, ByteArray.size_append]; rfl
theorem spec_leaf_f {s : ByteArray} (h : s.size ≤ 140737488340000) : spec_l04Leaf.f s = some (hashT (leafT s)) := by
  unfold spec_l04Leaf.f
  rw [if_pos (by omega)]
  show (spec_l03Hash.f (leafT s)).bind _ = _
  rw [spec_hash_f (by rw [leafT_size]; omega)]
  rfl
theorem impl_leafText_f {s : ByteArray} (h : s.size ≤ 140737488340000) : impl_leafText.f s = some (leafT s) := by
  unfold impl_leafText.f
  rw [if_pos (by omega)]
  rfl
theorem node_one (a b : ByteArray) (ha : a.size ≤ 70368744170000) (hb : b.size ≤ 70368744170000) : ((⟨#[1]⟩ : ByteArray) ++ a).size + b.size ≤ 9223372036854775807 := by
  rw [ByteArray.size_append, size_one]
  omega
theorem spec_node_f {a b : ByteArray} (ha : a.size ≤ 70368744170000) (hb : b.size ≤ 70368744170000) : spec_l04Node.f a b = some (hashT (nodeT a b)) := by
  unfold spec_l04Node.f
  rw [if_pos (by omega), if_pos (node_one a b ha hb)]
  show (spec_l03Hash.f (nodeT a b)).bind _ = _
  rw [spec_hash_f (by rw [nodeT_size]; omega)]
  rfl
theorem impl_nodeText_f {a b : ByteArray} (ha : a.size ≤ 70368744170000) (hb : b.size ≤ 70368744170000) : impl_nodeText.f a b = some (nodeT a b) := by
  unfold impl_nodeText.f
  rw [if_pos (by omega), if_pos (node_one a b ha hb)]
  rfl
end Go.Proofs.Ytlogocmojnhpbaa.Pure
end
section
/- Plain laws on the statements' helpers over slices of elements: copies, comparisons, marks. Lists alone. -/
namespace Go.Proofs.Ytlogocmojnhpbaa.Pure
open Go.RowKit Go.Proofs.Ytlogocmojnhpbaa.Print Go.Proofs.YtlogocmojnhpbaaW.PrintWords Go.Proofs.YtlogocmojnhpbaaW.PrintLast
set_option linter.unusedSimpArgs false
set_option linter.unusedVariables false

theorem laws_eqExtS_l (x0 : List (S79)) (hn : x0.length ≤ 1000000000) (d : Nat) : ∀ (i : Nat), i + d = x0.length → Ev (fun k => laws_eqExtS.l0 k x0 x0 (i : Int)) true := by
  induction d with
  | zero =>
    intro i hi
    exact Ev.step (f := fun _ => some true) (fun k => by rw [laws_eqExtS.l0, if_neg (by omega)]) (Ev.now _)
  | succ d ih =>
    intro i hi
    refine Ev.step (fun k => ?_) (ih (i + 1) (by omega))
    rw [laws_eqExtS.l0, if_pos (by omega), if_pos (by omega), if_pos (by omega)]
    unfold laws_eqExt.f
    rw [if_pos rfl, if_pos rfl]
    simp only [Option.bind_some, if_true]
    rw [wrap_small (by omega) (by omega)]
    rfl
theorem laws_eqExtS_ev (x0 : List (S79)) (hn : x0.length ≤ 1000000000) : Ev (fun k => laws_eqExtS.f k x0 x0) true := by
  refine Ev.congr (fun k => ?_) (laws_eqExtS_l x0 hn x0.length 0 (by omega))
  unfold laws_eqExtS.f
  rw [if_pos rfl]
  rfl

end Go.Proofs.Ytlogocmojnhpbaa.Pure
end
section
/- Plain laws on the statements' helpers over slices of elements (marks): copies, comparisons, marks. Lists alone. -/
namespace Go.Proofs.Ytlogocmojnhpbaa.Pure
open Go.RowKit Go.Proofs.Ytlogocmojnhpbaa.Print Go.Proofs.YtlogocmojnhpbaaW.PrintWords Go.Proofs.YtlogocmojnhpbaaW.PrintLast
set_option linter.unusedSimpArgs false
set_option linter.unusedVariables false

/-- The marks that are laid: n of them, from m on. -/
def marksE (n : Nat) (m : Int) : List (S79) := (List.range n).map fun (j : Nat) => (⟨m + 2 * (j : Int), m + 2 * (j : Int) + 1⟩ : S79)
theorem marksE_get (n : Nat) (m : Int) (i : Nat) (h : i < n) : (marksE n m).getD i z79 = (fun (j : Nat) => (⟨m + 2 * (j : Int), m + 2 * (j : Int) + 1⟩ : S79)) i := by
  unfold marksE
  rw [List.getD_eq_getElem?_getD, List.getElem?_map, List.getElem?_range h]
  rfl
theorem marksE_length (n : Nat) (m : Int) : (marksE n m).length = n := by simp [marksE]
theorem laws_markExtS_l (n : Nat) (hn : n ≤ 1000000000) (d : Nat) : ∀ (acc : List (S79)) (i : Nat), i + d = n → acc.length = n → acc.take i = (marksE n 1).take i → Ev (fun k => laws_markExtS.l0 k acc (1 + 2 * (i : Int)) (i : Int)) (1 + 2 * (n : Int), marksE n 1) := by
  induction d with
  | zero =>
    intro acc i hi hl ht
    refine Ev.step (f := fun _ => some (1 + 2 * (i : Int), acc)) (fun k => by rw [laws_markExtS.l0, if_neg (by omega)]) (ev_val (Ev.now _) ?_)
    have h1 : acc.take i = acc := List.take_of_length_le (by omega)
    have h2 : (marksE n 1).take i = marksE n 1 := List.take_of_length_le (by rw [marksE_length]; omega)
    rw [h1, h2] at ht
    rw [ht, show i = n by omega]
  | succ d ih =>
    intro acc i hi hl ht
    have hv : (fun (j : Nat) (m : Int) => (⟨m + 2 * (j : Int), m + 2 * (j : Int) + 1⟩ : S79)) i 1 = (fun (j : Nat) (m : Int) => (⟨m + 2 * (j : Int), m + 2 * (j : Int) + 1⟩ : S79)) i 1 := rfl
    have h := ih (acc.set i ((fun (j : Nat) (m : Int) => (⟨m + 2 * (j : Int), m + 2 * (j : Int) + 1⟩ : S79)) i 1)) (i + 1) (by omega) (by simpa using hl) (by
      rw [take_set _ _ _ (by omega), ht]
      unfold marksE
      rw [take_map_succ _ _ 0 _ (by simp; omega)]
      simp [List.getD_eq_getElem?_getD, List.getElem?_range (show i < n by omega)])
    refine Ev.step (fun k => ?_) h
    rw [laws_markExtS.l0, if_pos (by omega), if_pos (by omega)]
    simp only [Option.bind_some]
    have e1 : rd_T79 (acc.set ((i : Int)).toNat (⟨1 + 2 * (i : Int), (rd_T79 acc (i : Int)).f1⟩ : S79)) (i : Int) = ⟨1 + 2 * (i : Int), (rd_T79 acc (i : Int)).f1⟩ := by
      unfold rd_T79
      simp only [Int.toNat_natCast]
      rw [List.getD_eq_getElem?_getD, List.getElem?_set_self (by omega)]
      rfl
    rw [e1, wrap_small (by omega) (by omega), wrap_small (by omega) (by omega), wrap_small (by omega) (by omega)]
    simp only [Int.toNat_natCast, List.set_set]
    rw [show (1 + 2 * (i : Int) + 1 + 1) = 1 + 2 * ((i + 1 : Nat) : Int) by omega]
    rfl
theorem laws_markExtS_ev (x : List (S79)) (hn : x.length ≤ 1000000000) : Ev (fun k => laws_markExtS.f k x 1) (1 + 2 * (x.length : Int), marksE x.length 1) := by
  refine Ev.congr (fun k => ?_) (laws_markExtS_l x.length hn x.length x 0 (by omega) rfl (by simp))
  unfold laws_markExtS.f
  simp
theorem laws_heldExtS_l (n : Nat) (hn : n ≤ 1000000000) (d : Nat) : ∀ (i : Nat), i + d = n → Ev (fun k => laws_heldExtS.l0 k (marksE n 1) (1 + 2 * (i : Int)) (i : Int)) (1 + 2 * (n : Int)) := by
  induction d with
  | zero =>
    intro i hi
    refine Ev.step (f := fun _ => some (1 + 2 * (i : Int))) (fun k => by rw [laws_heldExtS.l0, marksE_length, if_neg (by omega)]) (ev_val (Ev.now _) (by rw [show i = n by omega]))
  | succ d ih =>
    intro i hi
    refine Ev.step (fun k => ?_) (ih (i + 1) (by omega))
    rw [laws_heldExtS.l0, marksE_length, if_pos (by omega), if_pos (by omega)]
    have e1 : rd_T79 (marksE n 1) (i : Int) = ⟨1 + 2 * (i : Int), 1 + 2 * (i : Int) + 1⟩ := by
      unfold rd_T79
      rw [Int.toNat_natCast, marksE_get n 1 i (by omega)]
    rw [e1, if_pos rfl, wrap_small (x := 1 + 2 * (i : Int) + 1) (by omega) (by omega), if_pos rfl, wrap_small (by omega) (by omega), wrap_small (by omega) (by omega)]
    rw [show (1 + 2 * (i : Int) + 1 + 1) = 1 + 2 * ((i + 1 : Nat) : Int) by omega]
    rfl
theorem laws_heldExtS_ev (n : Nat) (hn : n ≤ 1000000000) : Ev (fun k => laws_heldExtS.f k (marksE n 1) 1) (1 + 2 * (n : Int)) := by
  refine Ev.congr (fun k => ?_) (laws_heldExtS_l n hn n 0 (by omega))
  unfold laws_heldExtS.f
  simp

end Go.Proofs.Ytlogocmojnhpbaa.Pure
end
section
/- The law FnExactNewSponge: NewSponge answers as the reference does; no conditions. -/
namespace Go.Proofs.Ytlogocmojnhpbaa.Pure
open Go.RowKit Go.Proofs.Ytlogocmojnhpbaa.Print Go.Proofs.YtlogocmojnhpbaaW.PrintWords Go.Proofs.YtlogocmojnhpbaaW.PrintLast
set_option linter.unusedSimpArgs false
set_option linter.unusedVariables false

def sourceT (s : ByteArray) : ByteArray := (⟨#[115, 111, 117, 114, 99, 101]⟩ : ByteArray) ++ s
theorem sourceT_size (s : ByteArray) : (sourceT s).size = 6 + s.size := by unfold sourceT; rw [ByteArray.size_append]; rfl
abbrev SX := S79
def spongeL (s : ByteArray) : List SX × Int × ByteArray × Int × Int := if (s.size : Int) > 65536 then ([], 0, ⟨#[]⟩, 0, 2) else if (s.size : Int) > 100 then ([], 0, ⟨#[]⟩, 0, 4) else ([], 0, hashT (sourceT s), 0, 0)
theorem spec_new_f {s : ByteArray} (h : s.size ≤ 140737488340000) (l : List SX) : spec_l05New.f s l = some (l, 0, hashT (sourceT s), 0) := by
  unfold spec_l05New.f
  rw [if_pos (by omega)]
  show (spec_l03Hash.f (sourceT s)).bind _ = _
  rw [spec_hash_f (by rw [sourceT_size]; omega)]
  rfl
theorem impl_newState_f {s : ByteArray} (h : s.size ≤ 140737488340000) : impl_newState.f s = some (hashT (sourceT s)) := by
  unfold impl_newState.f
  rw [if_pos (by omega)]
  show (impl_hashOf.f (sourceT s)).bind _ = _
  rw [impl_hash_f (by rw [sourceT_size]; omega)]
  rfl
theorem spec_NewSponge_f {s : ByteArray} : spec_NewSponge.f s = some (spongeL s) := by
  unfold spec_NewSponge.f spongeL
  split
  · rfl
  · split
    · rfl
    · rw [spec_new_f (by omega)]
      rfl
theorem impl_NewSponge_f {s : ByteArray} : impl_NewSponge.f s = some (spongeL s) := by
  unfold impl_NewSponge.f spongeL impl_isLong.f
  simp only [Option.bind_some, decide_eq_true_eq]
  split
  · rfl
  · split
    · rfl
    · rw [impl_newState_f (by omega)]
      rfl
theorem eqSource_ev (l : List SX) (hn : l.length ≤ 1000000000) (a : Int) (b : ByteArray) (c : Int) : Ev (fun k => laws_eqSource.f k l a b c l a b c) true := by
  unfold laws_eqSource.f
  exact ev_bind (laws_eqExtS_ev l hn) (ev_pos rfl (ev_pos rfl (ev_pos rfl (ev_pos rfl (Ev.now _)))))
theorem markSource_ev (l : List SX) (hn : l.length ≤ 1000000000) (a : Int) (b : ByteArray) (c : Int) : Ev (fun k => laws_markSource.f k l a b c 1) (1 + 2 * (l.length : Int), marksE l.length 1) := by
  unfold laws_markSource.f
  exact ev_bind (laws_markExtS_ev l hn) (Ev.now _)
theorem heldSource_ev (n : Nat) (hn : n ≤ 1000000000) (a : Int) (b : ByteArray) (c : Int) : Ev (fun k => laws_heldSource.f k (marksE n 1) a b c 1) (1 + 2 * (n : Int)) := by
  unfold laws_heldSource.f
  exact ev_bind (laws_heldExtS_ev n hn) (ev_neg (by omega) (Ev.now _))
theorem spongeL_len (s : ByteArray) : (spongeL s).1.length ≤ 1000000000 := by
  unfold spongeL
  split
  · simp
  · split <;> simp
theorem FnExactNewSponge : laws_FnExactNewSponge.Pure := by
  intro s hs
  refine Ev.rounds (g := fun k => laws_FnExactNewSponge.f k s) ?_
  unfold laws_FnExactNewSponge.f
  by_cases h : (s.size : Int) > 1048576
  · exact ev_pos h (Ev.now _)
  · have hl := spongeL_len s
    refine ev_neg h (ev_cbind spec_NewSponge_f (ev_cbind impl_NewSponge_f ?_))
    have hi := impl_NewSponge_f (s := s)
    generalize spongeL s = x at hl hi ⊢
    obtain ⟨l, a, b, c, e⟩ := x
    refine ev_bind (eqSource_ev l hl a b c) (ev_pos rfl ?_)
    simp only [bne_self_eq_false]
    refine Ev.step (fun k => by rw [laws_FnExactNewSponge.j0, if_neg (by decide)]) ?_
    refine ev_bind (markSource_ev l hl a b c) (ev_bind (heldSource_ev l.length hl a b c) (ev_neg (by first | omega | (simp only []; omega)) (ev_pos rfl (ev_cbind hi (ev_bind (eqSource_ev l hl a b c) (ev_pos rfl ?_))))))
    simp only [bne_self_eq_false]
    refine Ev.step (fun k => by rw [laws_FnExactNewSponge.j1, if_neg (by decide)]) ?_
    exact ev_bind (heldSource_ev l.length hl a b c) (ev_neg (by first | omega | (simp only []; omega)) (ev_pos rfl (Ev.now _)))

end Go.Proofs.Ytlogocmojnhpbaa.Pure
end
