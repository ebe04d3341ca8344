-- Packed by a program of this session (slim.py): the plain laws that FnExactReadExts needs.
import Derived.Test.YtnggbahcmhdjnaaQFnExactReadExts0
import Derived.Test.YtnggbahcmhdjnaaQFnExactReadExts1
import Derived.Test.YtnggbahcmhdjnaaQFnExactReadExts2
import Derived.Test.YtnggbahcmhdjnaaQFnExactReadExts3
import Derived.Test.YtnggbahcmhdjnaaQFnExactReadExts4
import Derived.Laws.BitsLemmas
import Derived.Test.YtnggbahcmhdjnaaPrint0
section
/- Plain lemmas on lists and rounds. -/
namespace Go.Proofs.Ytnggbahcmhdjnaa.Pure
open Go.RowKit Go.Proofs.Ytnggbahcmhdjnaa.Print Go.Proofs.YtnggbahcmhdjnaaW.PrintWords Go.Proofs.YtnggbahcmhdjnaaW.PrintLast

theorem take_set {α : Type} (l : List α) (i : Nat) (v : α) (h : i < l.length) : (l.set i v).take (i + 1) = l.take i ++ [v] := by
  rw [List.take_succ_eq_append_getElem (by simpa using h)]
  rw [List.take_set_of_le (Nat.le_refl i)]
  simp
theorem take_map_succ {α β : Type} (f : α → β) (l : List α) (z : α) (i : Nat) (h : i < l.length) : (l.map f).take (i + 1) = (l.map f).take i ++ [f (l.getD i z)] := by
  rw [List.take_succ_eq_append_getElem (by simpa using h)]
  simp [List.getD_eq_getElem?_getD, List.getElem?_eq_getElem h]
theorem wrap_small {x : Int} (h0 : -9223372036854775808 ≤ x) (h1 : x ≤ 9223372036854775807) : wrap64 x = x := by unfold wrap64; omega
theorem ev_val {α : Type} {g : Nat → Option α} {a b : α} (h : Ev g a) (e : a = b) : Ev g b := e ▸ h
theorem ev_bind {α β : Type} {g : Nat → Option α} {f : Nat → α → Option β} {a : α} {r : β} (h : Ev g a) (k : Ev (fun n => f n a) r) : Ev (fun n => (g n).bind (f n)) r := Ev.bind h k
theorem ev_const {α : Type} {o : Option α} {r : α} (h : o = some r) : Ev (fun _ => o) r := by subst h; exact Ev.now r
theorem ev_cbind {α β : Type} {o : Option α} {f : Nat → α → Option β} {a : α} {r : β} (h : o = some a) (k : Ev (fun n => f n a) r) : Ev (fun n => o.bind (f n)) r := by subst h; exact k
theorem ev_pos {α : Type} {c : Prop} [Decidable c] {g f : Nat → Option α} {r : α} (h : c) (k : Ev g r) : Ev (fun n => if c then g n else f n) r := by simpa only [if_pos h] using k
theorem ev_neg {α : Type} {c : Prop} [Decidable c] {g f : Nat → Option α} {r : α} (h : ¬ c) (k : Ev f r) : Ev (fun n => if c then g n else f n) r := by simpa only [if_neg h] using k
theorem rd_natCast (xs : List Int) (i : Nat) : rd xs (i : Int) = xs.getD i 0 := by simp [rd]
end Go.Proofs.Ytnggbahcmhdjnaa.Pure
end
section
/- Plain laws on the statements' helpers over slices of elements: copies, comparisons, marks. Lists alone. -/
namespace Go.Proofs.Ytnggbahcmhdjnaa.Pure
open Go.RowKit Go.Proofs.Ytnggbahcmhdjnaa.Print Go.Proofs.YtnggbahcmhdjnaaW.PrintWords Go.Proofs.YtnggbahcmhdjnaaW.PrintLast
set_option linter.unusedSimpArgs false
set_option linter.unusedVariables false

theorem laws_toExtS_l (x0 : List (S23)) (hn : x0.length ≤ 1000000000) (d : Nat) : ∀ (acc : List (S24)) (i : Nat), i + d = x0.length → acc.length = x0.length → acc.take i = (x0.map fun y => (⟨y.f0, y.f1⟩ : S24)).take i → Ev (fun k => laws_toExtS.l0 k x0 acc (i : Int)) (x0.map fun y => (⟨y.f0, y.f1⟩ : S24)) := by
  induction d with
  | zero =>
    intro acc i hi hl ht
    refine Ev.step (f := fun _ => some acc) (fun k => by rw [laws_toExtS.l0, if_neg (by omega)]) (ev_val (Ev.now _) ?_)
    have h1 : acc.take i = acc := List.take_of_length_le (by omega)
    have h2 : (x0.map fun y => (⟨y.f0, y.f1⟩ : S24)).take i = x0.map fun y => (⟨y.f0, y.f1⟩ : S24) := List.take_of_length_le (by simp; omega)
    rw [h1, h2] at ht
    exact ht
  | succ d ih =>
    intro acc i hi hl ht
    have h := ih (acc.set i (⟨(x0.getD i z23).f0, (x0.getD i z23).f1⟩ : S24)) (i + 1) (by omega) (by simpa using hl) (by rw [take_set _ _ _ (by omega), ht, take_map_succ _ _ z23 _ (by omega)])
    refine Ev.step (fun k => ?_) h
    rw [laws_toExtS.l0, if_pos (by omega), if_pos (by omega)]
    unfold laws_toExt.f
    simp only [Option.bind_some]
    rw [if_pos (by omega), wrap_small (by omega) (by omega)]
    rfl
theorem laws_toExtS_ev (x0 : List (S23)) (hn : x0.length ≤ 1000000000) : Ev (fun k => laws_toExtS.f k x0) (x0.map fun y => (⟨y.f0, y.f1⟩ : S24)) := by
  have h := laws_toExtS_l x0 hn x0.length (List.replicate x0.length z24) 0 (by omega) (by simp) (by simp)
  refine Ev.congr (fun k => ?_) h
  unfold laws_toExtS.f
  rw [if_pos (by omega), if_pos (by omega)]
  simp only [Int.toNat_natCast]
  rfl
theorem laws_eqExtS_l (x0 : List (S24)) (hn : x0.length ≤ 1000000000) (d : Nat) : ∀ (i : Nat), i + d = x0.length → Ev (fun k => laws_eqExtS.l0 k x0 x0 (i : Int)) true := by
  induction d with
  | zero =>
    intro i hi
    exact Ev.step (f := fun _ => some true) (fun k => by rw [laws_eqExtS.l0, if_neg (by omega)]) (Ev.now _)
  | succ d ih =>
    intro i hi
    refine Ev.step (fun k => ?_) (ih (i + 1) (by omega))
    rw [laws_eqExtS.l0, if_pos (by omega), if_pos (by omega), if_pos (by omega)]
    unfold laws_eqExt.f
    rw [if_pos rfl, if_pos rfl]
    simp only [Option.bind_some, if_true]
    rw [wrap_small (by omega) (by omega)]
    rfl
theorem laws_eqExtS_ev (x0 : List (S24)) (hn : x0.length ≤ 1000000000) : Ev (fun k => laws_eqExtS.f k x0 x0) true := by
  refine Ev.congr (fun k => ?_) (laws_eqExtS_l x0 hn x0.length 0 (by omega))
  unfold laws_eqExtS.f
  rw [if_pos rfl]
  rfl

end Go.Proofs.Ytnggbahcmhdjnaa.Pure
end
section
/- Plain laws on the statements' helpers over slices of elements (marks): copies, comparisons, marks. Lists alone. -/
namespace Go.Proofs.Ytnggbahcmhdjnaa.Pure
open Go.RowKit Go.Proofs.Ytnggbahcmhdjnaa.Print Go.Proofs.YtnggbahcmhdjnaaW.PrintWords Go.Proofs.YtnggbahcmhdjnaaW.PrintLast
set_option linter.unusedSimpArgs false
set_option linter.unusedVariables false

/-- The marks that are laid: n of them, from m on. -/
def marksE (n : Nat) (m : Int) : List (S24) := (List.range n).map fun (j : Nat) => (⟨m + 2 * (j : Int), m + 2 * (j : Int) + 1⟩ : S24)
theorem marksE_get (n : Nat) (m : Int) (i : Nat) (h : i < n) : (marksE n m).getD i z24 = (fun (j : Nat) => (⟨m + 2 * (j : Int), m + 2 * (j : Int) + 1⟩ : S24)) i := by
  unfold marksE
  rw [List.getD_eq_getElem?_getD, List.getElem?_map, List.getElem?_range h]
  rfl
theorem marksE_length (n : Nat) (m : Int) : (marksE n m).length = n := by simp [marksE]
theorem laws_markExtS_l (n : Nat) (hn : n ≤ 1000000000) (d : Nat) : ∀ (acc : List (S24)) (i : Nat), i + d = n → acc.length = n → acc.take i = (marksE n 1).take i → Ev (fun k => laws_markExtS.l0 k acc (1 + 2 * (i : Int)) (i : Int)) (1 + 2 * (n : Int), marksE n 1) := by
  induction d with
  | zero =>
    intro acc i hi hl ht
    refine Ev.step (f := fun _ => some (1 + 2 * (i : Int), acc)) (fun k => by rw [laws_markExtS.l0, if_neg (by omega)]) (ev_val (Ev.now _) ?_)
    have h1 : acc.take i = acc := List.take_of_length_le (by omega)
    have h2 : (marksE n 1).take i = marksE n 1 := List.take_of_length_le (by rw [marksE_length]; omega)
    rw [h1, h2] at ht
    rw [ht, show i = n by omega]
  | succ d ih =>
    intro acc i hi hl ht
    have hv : (fun (j : Nat) (m : Int) => (⟨m + 2 * (j : Int), m + 2 * (j : Int) + 1⟩ : S24)) i 1 = (fun (j : Nat) (m : Int) => (⟨m + 2 * (j : Int), m + 2 * (j : Int) + 1⟩ : S24)) i 1 := rfl
    have h := ih (acc.set i ((fun (j : Nat) (m : Int) => (⟨m + 2 * (j : Int), m + 2 * (j : Int) + 1⟩ : S24)) i 1)) (i + 1) (by omega) (by simpa using hl) (by
      rw [take_set _ _ _ (by omega), ht]
      unfold marksE
      rw [take_map_succ _ _ 0 _ (by simp; omega)]
      simp [List.getD_eq_getElem?_getD, List.getElem?_range (show i < n by omega)])
    refine Ev.step (fun k => ?_) h
    rw [laws_markExtS.l0, if_pos (by omega), if_pos (by omega)]
    simp only [Option.bind_some]
    have e1 : rd_T24 (acc.set ((i : Int)).toNat (⟨1 + 2 * (i : Int), (rd_T24 acc (i : Int)).f1⟩ : S24)) (i : Int) = ⟨1 + 2 * (i : Int), (rd_T24 acc (i : Int)).f1⟩ := by
      unfold rd_T24
      simp only [Int.toNat_natCast]
      rw [List.getD_eq_getElem?_getD, List.getElem?_set_self (by omega)]
      rfl
    rw [e1, wrap_small (by omega) (by omega), wrap_small (by omega) (by omega), wrap_small (by omega) (by omega)]
    simp only [Int.toNat_natCast, List.set_set]
    rw [show (1 + 2 * (i : Int) + 1 + 1) = 1 + 2 * ((i + 1 : Nat) : Int) by omega]
    rfl
theorem laws_markExtS_ev (x : List (S24)) (hn : x.length ≤ 1000000000) : Ev (fun k => laws_markExtS.f k x 1) (1 + 2 * (x.length : Int), marksE x.length 1) := by
  refine Ev.congr (fun k => ?_) (laws_markExtS_l x.length hn x.length x 0 (by omega) rfl (by simp))
  unfold laws_markExtS.f
  simp
theorem laws_heldExtS_l (n : Nat) (hn : n ≤ 1000000000) (d : Nat) : ∀ (i : Nat), i + d = n → Ev (fun k => laws_heldExtS.l0 k (marksE n 1) (1 + 2 * (i : Int)) (i : Int)) (1 + 2 * (n : Int)) := by
  induction d with
  | zero =>
    intro i hi
    refine Ev.step (f := fun _ => some (1 + 2 * (i : Int))) (fun k => by rw [laws_heldExtS.l0, marksE_length, if_neg (by omega)]) (ev_val (Ev.now _) (by rw [show i = n by omega]))
  | succ d ih =>
    intro i hi
    refine Ev.step (fun k => ?_) (ih (i + 1) (by omega))
    rw [laws_heldExtS.l0, marksE_length, if_pos (by omega), if_pos (by omega)]
    have e1 : rd_T24 (marksE n 1) (i : Int) = ⟨1 + 2 * (i : Int), 1 + 2 * (i : Int) + 1⟩ := by
      unfold rd_T24
      rw [Int.toNat_natCast, marksE_get n 1 i (by omega)]
    rw [e1, if_pos rfl, wrap_small (x := 1 + 2 * (i : Int) + 1) (by omega) (by omega), if_pos rfl, wrap_small (by omega) (by omega), wrap_small (by omega) (by omega)]
    rw [show (1 + 2 * (i : Int) + 1 + 1) = 1 + 2 * ((i + 1 : Nat) : Int) by omega]
    rfl
theorem laws_heldExtS_ev (n : Nat) (hn : n ≤ 1000000000) : Ev (fun k => laws_heldExtS.f k (marksE n 1) 1) (1 + 2 * (n : Int)) := by
  refine Ev.congr (fun k => ?_) (laws_heldExtS_l n hn n 0 (by omega))
  unfold laws_heldExtS.f
  simp

end Go.Proofs.Ytnggbahcmhdjnaa.Pure
end
section
/- Plain laws on the statements' helpers over slices of bytes: copies, comparisons, marks. Lists alone. -/
namespace Go.Proofs.Ytnggbahcmhdjnaa.Pure
open Go.RowKit Go.Proofs.Ytnggbahcmhdjnaa.Print Go.Proofs.YtnggbahcmhdjnaaW.PrintWords Go.Proofs.YtnggbahcmhdjnaaW.PrintLast
set_option linter.unusedSimpArgs false
set_option linter.unusedVariables false

theorem laws_toByteS_l (x0 : List (Int)) (hn : x0.length ≤ 1000000000) (d : Nat) : ∀ (acc : List (Int)) (i : Nat), i + d = x0.length → acc.length = x0.length → acc.take i = (x0.map fun y => y).take i → Ev (fun k => laws_toByteS.l0 k x0 acc (i : Int)) (x0.map fun y => y) := by
  induction d with
  | zero =>
    intro acc i hi hl ht
    refine Ev.step (f := fun _ => some acc) (fun k => by rw [laws_toByteS.l0, if_neg (by omega)]) (ev_val (Ev.now _) ?_)
    have h1 : acc.take i = acc := List.take_of_length_le (by omega)
    have h2 : (x0.map fun y => y).take i = x0.map fun y => y := List.take_of_length_le (by simp; omega)
    rw [h1, h2] at ht
    exact ht
  | succ d ih =>
    intro acc i hi hl ht
    have h := ih (acc.set i (x0.getD i 0)) (i + 1) (by omega) (by simpa using hl) (by rw [take_set _ _ _ (by omega), ht, take_map_succ _ _ 0 _ (by omega)])
    refine Ev.step (fun k => ?_) h
    rw [laws_toByteS.l0, if_pos (by omega), if_pos (by omega)]
    rw [if_pos (by omega), wrap_small (by omega) (by omega), rd_natCast, Int.toNat_natCast]
    rfl
theorem laws_toByteS_ev (x0 : List (Int)) (hn : x0.length ≤ 1000000000) : Ev (fun k => laws_toByteS.f k x0) (x0.map fun y => y) := by
  have h := laws_toByteS_l x0 hn x0.length (List.replicate x0.length 0) 0 (by omega) (by simp) (by simp)
  refine Ev.congr (fun k => ?_) h
  unfold laws_toByteS.f
  rw [if_pos (by omega), if_pos (by omega)]
  simp only [Int.toNat_natCast]
  rfl
theorem laws_eqByteS_l (x0 : List (Int)) (hn : x0.length ≤ 1000000000) (d : Nat) : ∀ (i : Nat), i + d = x0.length → Ev (fun k => laws_eqByteS.l0 k x0 x0 (i : Int)) true := by
  induction d with
  | zero =>
    intro i hi
    exact Ev.step (f := fun _ => some true) (fun k => by rw [laws_eqByteS.l0, if_neg (by omega)]) (Ev.now _)
  | succ d ih =>
    intro i hi
    refine Ev.step (fun k => ?_) (ih (i + 1) (by omega))
    rw [laws_eqByteS.l0, if_pos (by omega), if_pos (by omega), if_pos (by omega)]
    rw [if_pos rfl, wrap_small (by omega) (by omega)]
    rfl
theorem laws_eqByteS_ev (x0 : List (Int)) (hn : x0.length ≤ 1000000000) : Ev (fun k => laws_eqByteS.f k x0 x0) true := by
  refine Ev.congr (fun k => ?_) (laws_eqByteS_l x0 hn x0.length 0 (by omega))
  unfold laws_eqByteS.f
  rw [if_pos rfl]
  rfl

end Go.Proofs.Ytnggbahcmhdjnaa.Pure
end
section
/- Plain laws on the statements' helpers over slices of bytes (marks): copies, comparisons, marks. Lists alone. -/
namespace Go.Proofs.Ytnggbahcmhdjnaa.Pure
open Go.RowKit Go.Proofs.Ytnggbahcmhdjnaa.Print Go.Proofs.YtnggbahcmhdjnaaW.PrintWords Go.Proofs.YtnggbahcmhdjnaaW.PrintLast
set_option linter.unusedSimpArgs false
set_option linter.unusedVariables false

/-- The marks that are laid: n of them, from m on. -/
def marksB (n : Nat) (m : Int) : List (Int) := (List.range n).map fun (j : Nat) => (m + (j : Int)) % 256
theorem marksB_get (n : Nat) (m : Int) (i : Nat) (h : i < n) : (marksB n m).getD i 0 = (fun (j : Nat) => (m + (j : Int)) % 256) i := by
  unfold marksB
  rw [List.getD_eq_getElem?_getD, List.getElem?_map, List.getElem?_range h]
  rfl
theorem marksB_length (n : Nat) (m : Int) : (marksB n m).length = n := by simp [marksB]
theorem laws_markByteS_l (n : Nat) (hn : n ≤ 1000000000) (d : Nat) : ∀ (acc : List (Int)) (i : Nat), i + d = n → acc.length = n → acc.take i = (marksB n 1).take i → Ev (fun k => laws_markByteS.l0 k acc (1 + 1 * (i : Int)) (i : Int)) (1 + 1 * (n : Int), marksB n 1) := by
  induction d with
  | zero =>
    intro acc i hi hl ht
    refine Ev.step (f := fun _ => some (1 + 1 * (i : Int), acc)) (fun k => by rw [laws_markByteS.l0, if_neg (by omega)]) (ev_val (Ev.now _) ?_)
    have h1 : acc.take i = acc := List.take_of_length_le (by omega)
    have h2 : (marksB n 1).take i = marksB n 1 := List.take_of_length_le (by rw [marksB_length]; omega)
    rw [h1, h2] at ht
    rw [ht, show i = n by omega]
  | succ d ih =>
    intro acc i hi hl ht
    have hv : (fun (j : Nat) (m : Int) => (m + (j : Int)) % 256) i 1 = (fun (j : Nat) (m : Int) => (m + (j : Int)) % 256) i 1 := rfl
    have h := ih (acc.set i ((fun (j : Nat) (m : Int) => (m + (j : Int)) % 256) i 1)) (i + 1) (by omega) (by simpa using hl) (by
      rw [take_set _ _ _ (by omega), ht]
      unfold marksB
      rw [take_map_succ _ _ 0 _ (by simp; omega)]
      simp [List.getD_eq_getElem?_getD, List.getElem?_range (show i < n by omega)])
    refine Ev.step (fun k => ?_) h
    rw [laws_markByteS.l0, if_pos (by omega), if_pos (by omega)]
    rw [wrap_small (by omega) (by omega), wrap_small (by omega) (by omega), Int.toNat_natCast]
    simp only [Int.one_mul] at *
    rw [show (1 + (i : Int) + 1) = 1 + ((i + 1 : Nat) : Int) by omega]
    rfl
theorem laws_markByteS_ev (x : List (Int)) (hn : x.length ≤ 1000000000) : Ev (fun k => laws_markByteS.f k x 1) (1 + 1 * (x.length : Int), marksB x.length 1) := by
  refine Ev.congr (fun k => ?_) (laws_markByteS_l x.length hn x.length x 0 (by omega) rfl (by simp))
  unfold laws_markByteS.f
  simp
theorem laws_heldByteS_l (n : Nat) (hn : n ≤ 1000000000) (d : Nat) : ∀ (i : Nat), i + d = n → Ev (fun k => laws_heldByteS.l0 k (marksB n 1) (1 + 1 * (i : Int)) (i : Int)) (1 + 1 * (n : Int)) := by
  induction d with
  | zero =>
    intro i hi
    refine Ev.step (f := fun _ => some (1 + 1 * (i : Int))) (fun k => by rw [laws_heldByteS.l0, marksB_length, if_neg (by omega)]) (ev_val (Ev.now _) (by rw [show i = n by omega]))
  | succ d ih =>
    intro i hi
    refine Ev.step (fun k => ?_) (ih (i + 1) (by omega))
    rw [laws_heldByteS.l0, marksB_length, if_pos (by omega), if_pos (by omega)]
    have e1 : rd (marksB n 1) (i : Int) = (1 + (i : Int)) % 256 := by
      rw [rd_natCast, marksB_get n 1 i (by omega)]
    simp only [Int.one_mul] at *
    rw [e1, if_pos rfl, wrap_small (by omega) (by omega), wrap_small (by omega) (by omega)]
    rw [show (1 + (i : Int) + 1) = 1 + ((i + 1 : Nat) : Int) by omega]
    rfl
theorem laws_heldByteS_ev (n : Nat) (hn : n ≤ 1000000000) : Ev (fun k => laws_heldByteS.f k (marksB n 1) 1) (1 + 1 * (n : Int)) := by
  refine Ev.congr (fun k => ?_) (laws_heldByteS_l n hn n 0 (by omega))
  unfold laws_heldByteS.f
  simp

end Go.Proofs.Ytnggbahcmhdjnaa.Pure
end
section
/- Plain laws on the field's functions: what sums, products and powers come to. Numbers alone. -/
namespace Go.Proofs.Ytnggbahcmhdjnaa.Pure
open Go.RowKit Go.Proofs.Ytnggbahcmhdjnaa.Print Go.Proofs.YtnggbahcmhdjnaaW.PrintWords Go.Proofs.YtnggbahcmhdjnaaW.PrintLast

theorem wf_i64 {x : Int} (h : (Lit.int .i64 x).wf = true) : -9223372036854775808 ≤ x ∧ x ≤ 9223372036854775807 := by
  have h' : IntKind.i64.min ≤ x ∧ x ≤ 9223372036854775807 := by simpa [Lit.wf] using h
  have e : IntKind.i64.min = -9223372036854775808 := by decide
  omega

def okI (a : Int) : Bool := decide (0 ≤ a ∧ a ≤ 2130706432)

theorem okI_true {a : Int} (h : okI a = true) : 0 ≤ a ∧ a < 2130706433 := by
  have := of_decide_eq_true h
  omega

theorem spec_in_f (a b c : Int) : spec_l01In.f a b c = some (decide (b ≤ a ∧ a ≤ c)) := by
  unfold spec_l01In.f
  by_cases h : b ≤ a
  · rw [if_pos h]; simp [h]
  · rw [if_neg h]; simp [h]

theorem impl_in_f (a b c : Int) : impl_in.f a b c = some (decide (b ≤ a ∧ a ≤ c)) := by
  unfold impl_in.f
  by_cases h : b ≤ a
  · rw [if_pos h]; simp [h]
  · rw [if_neg h]; simp [h]

theorem spec_FieldOK_f (a : Int) : spec_FieldOK.f a = some (okI a) := by
  unfold spec_FieldOK.f
  rw [spec_in_f]; rfl

theorem impl_FieldOK_f (a : Int) : impl_FieldOK.f a = some (okI a) := by
  unfold impl_FieldOK.f
  rw [impl_in_f]; rfl

theorem mul_bd {a b : Int} (ha0 : 0 ≤ a) (ha : a < 2130706433) (hb0 : 0 ≤ b) (hb : b < 2130706433) : 0 ≤ a * b ∧ a * b ≤ 4539909899366170624 := by
  refine ⟨Int.mul_nonneg ha0 hb0, ?_⟩
  have := Int.mul_le_mul (show a ≤ 2130706432 by omega) (show b ≤ 2130706432 by omega) hb0 (by omega)
  omega

theorem mul_mod {a b : Int} (ha0 : 0 ≤ a) (ha : a < 2130706433) (hb0 : 0 ≤ b) (hb : b < 2130706433) : Int.tmod (wrap64 (a * b)) 2130706433 = a * b % 2130706433 := by
  have h := mul_bd ha0 ha hb0 hb
  generalize a * b = c at h ⊢
  rw [show wrap64 c = c by unfold wrap64; omega]
  exact Int.tmod_eq_emod_of_nonneg h.1

theorem mod_lt (c : Int) : 0 ≤ c % 2130706433 ∧ c % 2130706433 < 2130706433 := by omega

theorem impl_mul_f {a b : Int} (ha0 : 0 ≤ a) (ha : a < 2130706433) (hb0 : 0 ≤ b) (hb : b < 2130706433) : impl_mul.f a b = some (a * b % 2130706433) := by
  unfold impl_mul.f; rw [mul_mod ha0 ha hb0 hb]
theorem spec_mul_f {a b : Int} (ha0 : 0 ≤ a) (ha : a < 2130706433) (hb0 : 0 ≤ b) (hb : b < 2130706433) : spec_l01Mul.f a b = some (a * b % 2130706433) := by
  unfold spec_l01Mul.f; rw [mul_mod ha0 ha hb0 hb]
theorem add_mod {a b : Int} (ha0 : 0 ≤ a) (ha : a < 2130706433) (hb0 : 0 ≤ b) (hb : b < 2130706433) : Int.tmod (wrap64 (a + b)) 2130706433 = (a + b) % 2130706433 := by
  rw [show wrap64 (a + b) = a + b by unfold wrap64; omega]
  exact Int.tmod_eq_emod_of_nonneg (by omega)
theorem impl_add_f {a b : Int} (ha0 : 0 ≤ a) (ha : a < 2130706433) (hb0 : 0 ≤ b) (hb : b < 2130706433) : impl_add.f a b = some ((a + b) % 2130706433) := by
  unfold impl_add.f; rw [add_mod ha0 ha hb0 hb]
theorem spec_add_f {a b : Int} (ha0 : 0 ≤ a) (ha : a < 2130706433) (hb0 : 0 ≤ b) (hb : b < 2130706433) : spec_l01Add.f a b = some ((a + b) % 2130706433) := by
  unfold spec_l01Add.f; rw [add_mod ha0 ha hb0 hb]
theorem impl_sub_f {a b : Int} (ha0 : 0 ≤ a) (ha : a < 2130706433) (hb0 : 0 ≤ b) (hb : b < 2130706433) : impl_sub.f a b = some ((a - b) % 2130706433) := by
  unfold impl_sub.f
  rw [show wrap64 (wrap64 (a - b) + 2130706433) = a - b + 2130706433 by unfold wrap64; omega, Int.tmod_eq_emod_of_nonneg (by omega)]
  congr 1; omega
theorem spec_sub_f {a b : Int} (ha0 : 0 ≤ a) (ha : a < 2130706433) (hb0 : 0 ≤ b) (hb : b < 2130706433) : spec_l01Sub.f a b = some ((a - b) % 2130706433) := by
  unfold spec_l01Sub.f
  rw [show wrap64 (wrap64 (a + 2130706433) - b) = a - b + 2130706433 by unfold wrap64; omega, Int.tmod_eq_emod_of_nonneg (by omega)]
  congr 1; omega

/-! powers -/
theorem pow_mod (a m : Int) (n : Nat) : (a % m) ^ n % m = a ^ n % m := by
  induction n with
  | zero => rw [Int.pow_zero, Int.pow_zero]
  | succ n ih => rw [Int.pow_succ, Int.pow_succ, Int.mul_emod, ih, Int.emod_emod, ← Int.mul_emod]

theorem pow_even (x r m : Int) (j : Nat) : r * (x * x % m) ^ j % m = r * x ^ (2 * j) % m := by
  rw [Int.mul_emod, pow_mod, ← Int.mul_emod, Int.pow_mul, Int.pow_succ, Int.pow_succ, Int.pow_zero, Int.one_mul]

theorem pow_odd (x r m : Int) (j : Nat) : (r * x % m) * (x * x % m) ^ j % m = r * x ^ (2 * j + 1) % m := by
  rw [pow_even, Int.mul_emod, Int.emod_emod, ← Int.mul_emod, Int.pow_succ]
  congr 1
  rw [Int.mul_assoc, Int.mul_comm x]

theorem spec_pow_f (k : Nat) : ∀ (x n r : Int), 0 ≤ x → x < 2130706433 → 0 ≤ r → r < 2130706433 → 0 ≤ n → n < 2 ^ k → n ≤ 9223372036854775807 → spec_l01Pow.l0 (k + 1) x n r = some (r * x ^ n.toNat % 2130706433) := by
  induction k with
  | zero =>
    intro x n r h0 h1 h2 h3 h4 h5 h6
    have : n = 0 := by simp at h5; omega
    subst this
    simp only [spec_l01Pow.l0]
    rw [if_neg (by omega)]
    simp
    omega
  | succ k ih =>
    intro x n r h0 h1 h2 h3 h4 h5 h6
    rw [spec_l01Pow.l0]
    by_cases hn : n > 0
    · rw [if_pos hn]
      have hd : wrap64 (Int.tdiv n 2) = n / 2 := by
        rw [Int.tdiv_eq_ediv_of_nonneg (by omega)]; unfold wrap64; omega
      have hm : Int.tmod n 2 = n % 2 := Int.tmod_eq_emod_of_nonneg (by omega)
      have hlt : n / 2 < 2 ^ k := by rw [Int.pow_succ] at h5; omega
      rw [hd, hm, spec_mul_f h2 h3 h0 h1, spec_mul_f h0 h1 h0 h1]
      simp only [Option.bind_some]
      have b1 := mod_lt (r * x)
      have b2 := mod_lt (x * x)
      by_cases ho : n % 2 = 1
      · rw [if_pos ho, ih _ _ _ b2.1 b2.2 b1.1 b1.2 (by omega) hlt (by omega), pow_odd]
        rw [show 2 * (n / 2).toNat + 1 = n.toNat by omega]
      · rw [if_neg ho, ih _ _ _ b2.1 b2.2 h2 h3 (by omega) hlt (by omega), pow_even]
        rw [show 2 * (n / 2).toNat = n.toNat by omega]
    · rw [if_neg hn]
      have : n = 0 := by omega
      subst this
      simp
      omega

theorem and_one_i64 (n : Int) (h0 : 0 ≤ n) (h1 : n ≤ 9223372036854775807) : Go.bits .and .i64 n 1 = n % 2 := by
  have h := bits_mask .i64 63 (by decide) (fun n h0 h1 => by rw [show (2 : Int) ^ 63 = 9223372036854775808 by decide] at h1; rw [IntKind.wrap_i64]; omega) 1 (by decide) n h0 (by rw [show (2 : Int) ^ 63 = 9223372036854775808 by decide]; omega)
  rw [show ((2 : Int) ^ 1 - 1) = 1 by decide, show ((2 : Int) ^ 1) = 2 by decide] at h
  exact h

theorem impl_pow_f (k : Nat) : ∀ (x n r : Int), 0 ≤ x → x < 2130706433 → 0 ≤ r → r < 2130706433 → 0 ≤ n → n < 2 ^ k → n ≤ 9223372036854775807 → impl_pow.l0 (k + 1) x n r = some (r * x ^ n.toNat % 2130706433) := by
  induction k with
  | zero =>
    intro x n r h0 h1 h2 h3 h4 h5 h6
    have : n = 0 := by simp at h5; omega
    subst this
    simp only [impl_pow.l0]
    rw [if_neg (by omega)]
    simp
    omega
  | succ k ih =>
    intro x n r h0 h1 h2 h3 h4 h5 h6
    rw [impl_pow.l0]
    by_cases hn : n > 0
    · rw [if_pos hn]
      have hlt : n / 2 < 2 ^ k := by rw [Int.pow_succ] at h5; omega
      rw [and_one_i64 n h4 h6, impl_mul_f h2 h3 h0 h1, impl_mul_f h0 h1 h0 h1]
      simp only [Option.bind_some]
      have b1 := mod_lt (r * x)
      have b2 := mod_lt (x * x)
      by_cases ho : n % 2 = 1
      · rw [if_pos ho, ih _ _ _ b2.1 b2.2 b1.1 b1.2 (by omega) hlt (by omega), pow_odd]
        rw [show 2 * (n / 2).toNat + 1 = n.toNat by omega]
      · rw [if_neg ho, ih _ _ _ b2.1 b2.2 h2 h3 (by omega) hlt (by omega), pow_even]
        rw [show 2 * (n / 2).toNat = n.toNat by omega]
    · rw [if_neg hn]
      have : n = 0 := by omega
      subst this
      simp
      omega

theorem pow63 : (2 : Int) ^ 63 = 9223372036854775808 := by decide
/-- 64 rounds and more serve every exponent. -/
theorem spec_Pow (k : Nat) {x n : Int} (h0 : 0 ≤ x) (h1 : x < 2130706433) (h4 : 0 ≤ n) (h6 : n ≤ 9223372036854775807) : spec_l01Pow.f (k + 64) x n = some (x ^ n.toNat % 2130706433) := by
  unfold spec_l01Pow.f
  have h := spec_pow_f 63 x n 1 h0 h1 (by omega) (by omega) h4 (by rw [pow63]; omega) h6
  rw [Int.one_mul] at h
  exact at_rounds (g := fun k => spec_l01Pow.f k x n) (spec_l01Pow.mono x n) (by omega) h
theorem impl_Pow (k : Nat) {x n : Int} (h0 : 0 ≤ x) (h1 : x < 2130706433) (h4 : 0 ≤ n) (h6 : n ≤ 9223372036854775807) : impl_pow.f (k + 64) x n = some (x ^ n.toNat % 2130706433) := by
  unfold impl_pow.f
  have h := impl_pow_f 63 x n 1 h0 h1 (by omega) (by omega) h4 (by rw [pow63]; omega) h6
  rw [Int.one_mul] at h
  exact at_rounds (g := fun k => impl_pow.f k x n) (impl_pow.mono x n) (by omega) h

end Go.Proofs.Ytnggbahcmhdjnaa.Pure
end
section
/- Plain laws on the greater field's functions: what they come to. Numbers alone. -/
namespace Go.Proofs.Ytnggbahcmhdjnaa.Pure
open Go.RowKit Go.Proofs.Ytnggbahcmhdjnaa.Print Go.Proofs.YtnggbahcmhdjnaaW.PrintWords Go.Proofs.YtnggbahcmhdjnaaW.PrintLast

def okE (a b : Int) : Bool := okI a && okI b
/-- An element of the greater field: both numbers below the prime. -/
structure InE (a b : Int) : Prop where
  a0 : 0 ≤ a
  a1 : a < 2130706433
  b0 : 0 ≤ b
  b1 : b < 2130706433
theorem okE_true {a b : Int} (h : okE a b = true) : InE a b := by
  unfold okE at h
  rw [Bool.and_eq_true] at h
  have h1 := okI_true h.1
  have h2 := okI_true h.2
  exact ⟨h1.1, h1.2, h2.1, h2.2⟩
theorem spec_ExtOK_f (a b : Int) : spec_ExtOK.f a b = some (okE a b) := by
  unfold spec_ExtOK.f okE
  rw [spec_FieldOK_f, spec_FieldOK_f]
  cases okI a <;> simp
theorem impl_ExtOK_f (a b : Int) : impl_ExtOK.f a b = some (okE a b) := by
  unfold impl_ExtOK.f okE
  rw [impl_FieldOK_f, impl_FieldOK_f]
  cases okI a <;> simp
theorem three_mod {c : Int} (h0 : 0 ≤ c) (h1 : c < 2130706433) : Int.tmod (wrap64 (3 * c)) 2130706433 = 3 * c % 2130706433 := mul_mod (by omega) (by omega) h0 h1
/-- The norm of an element. -/
def normE (a b : Int) : Int := (a * a - 3 * (b * b)) % 2130706433
theorem normE_lt (a b : Int) : 0 ≤ normE a b ∧ normE a b < 2130706433 := mod_lt _
theorem norm_mod (x y : Int) : (x % 2130706433 - 3 * (y % 2130706433) % 2130706433) % 2130706433 = (x - 3 * y) % 2130706433 := by omega
theorem spec_norm_f {a b : Int} (h : InE a b) : spec_l02Norm.f a b = some (normE a b) := by
  unfold spec_l02Norm.f
  have h1 := mod_lt (a * a)
  have h2 := mod_lt (b * b)
  rw [spec_mul_f h.a0 h.a1 h.a0 h.a1, spec_mul_f h.b0 h.b1 h.b0 h.b1]
  simp only [Option.bind_some]
  rw [three_mod h2.1 h2.2]
  have h3 := mod_lt (3 * (b * b % 2130706433))
  rw [spec_sub_f h1.1 h1.2 h3.1 h3.2]
  simp only [Option.bind_some, normE, norm_mod]
theorem impl_norm_f {a b : Int} (h : InE a b) : impl_Ext_norm.f a b = some (normE a b) := by
  unfold impl_Ext_norm.f
  have h1 := mod_lt (a * a)
  have h2 := mod_lt (b * b)
  rw [impl_mul_f h.a0 h.a1 h.a0 h.a1, impl_mul_f h.b0 h.b1 h.b0 h.b1]
  simp only [Option.bind_some]
  rw [impl_mul_f (by omega) (by omega) h2.1 h2.2]
  simp only [Option.bind_some]
  have h3 := mod_lt (3 * (b * b % 2130706433))
  rw [impl_sub_f h1.1 h1.2 h3.1 h3.2]
  simp only [Option.bind_some, normE, norm_mod]
end Go.Proofs.Ytnggbahcmhdjnaa.Pure
end
section
/- Plain laws on the greater field's sums, products and powers. Numbers alone. -/
namespace Go.Proofs.Ytnggbahcmhdjnaa.Pure
open Go.RowKit Go.Proofs.Ytnggbahcmhdjnaa.Print Go.Proofs.YtnggbahcmhdjnaaW.PrintWords Go.Proofs.YtnggbahcmhdjnaaW.PrintLast

def plusE (a b c d : Int) : Int × Int := ((a + c) % 2130706433, (b + d) % 2130706433)
def minusE (a b c d : Int) : Int × Int := ((a - c) % 2130706433, (b - d) % 2130706433)
def timesE (a b c d : Int) : Int × Int := ((a * c + 3 * (b * d)) % 2130706433, (a * d + b * c) % 2130706433)
theorem plusE_in (a b c d : Int) : InE (plusE a b c d).1 (plusE a b c d).2 := ⟨(mod_lt _).1, (mod_lt _).2, (mod_lt _).1, (mod_lt _).2⟩
theorem minusE_in (a b c d : Int) : InE (minusE a b c d).1 (minusE a b c d).2 := ⟨(mod_lt _).1, (mod_lt _).2, (mod_lt _).1, (mod_lt _).2⟩
theorem timesE_in (a b c d : Int) : InE (timesE a b c d).1 (timesE a b c d).2 := ⟨(mod_lt _).1, (mod_lt _).2, (mod_lt _).1, (mod_lt _).2⟩
theorem InE.ok {a b : Int} (h : InE a b) : okE a b = true := by
  have h1 := h.a0; have h2 := h.a1; have h3 := h.b0; have h4 := h.b1
  unfold okE okI
  simp only [Bool.and_eq_true, decide_eq_true_eq]
  omega
section
variable {a b c d : Int}
theorem impl_plus_f (h : InE a b) (g : InE c d) : impl_Ext_plus.f a b c d = some (plusE a b c d) := by
  unfold impl_Ext_plus.f
  rw [impl_add_f h.a0 h.a1 g.a0 g.a1, impl_add_f h.b0 h.b1 g.b0 g.b1]; rfl
theorem spec_plus_f (h : InE a b) (g : InE c d) : spec_l02Add.f a b c d = some (plusE a b c d) := by
  unfold spec_l02Add.f
  rw [spec_add_f h.a0 h.a1 g.a0 g.a1, spec_add_f h.b0 h.b1 g.b0 g.b1]; rfl
theorem impl_minus_f (h : InE a b) (g : InE c d) : impl_Ext_minus.f a b c d = some (minusE a b c d) := by
  unfold impl_Ext_minus.f
  rw [impl_sub_f h.a0 h.a1 g.a0 g.a1, impl_sub_f h.b0 h.b1 g.b0 g.b1]; rfl
theorem spec_minus_f (h : InE a b) (g : InE c d) : spec_l02Sub.f a b c d = some (minusE a b c d) := by
  unfold spec_l02Sub.f
  rw [spec_sub_f h.a0 h.a1 g.a0 g.a1, spec_sub_f h.b0 h.b1 g.b0 g.b1]; rfl
theorem times_a (x y : Int) : (x % 2130706433 + 3 * (y % 2130706433) % 2130706433) % 2130706433 = (x + 3 * y) % 2130706433 := by omega
theorem times_b (x y : Int) : (x % 2130706433 + y % 2130706433) % 2130706433 = (x + y) % 2130706433 := by omega
theorem impl_times_f (h : InE a b) (g : InE c d) : impl_Ext_times.f a b c d = some (timesE a b c d) := by
  unfold impl_Ext_times.f
  have h1 := mod_lt (a * c)
  have h2 := mod_lt (b * d)
  have h3 := mod_lt (3 * (b * d % 2130706433))
  have h4 := mod_lt (a * d)
  have h5 := mod_lt (b * c)
  rw [impl_mul_f h.a0 h.a1 g.a0 g.a1, impl_mul_f h.b0 h.b1 g.b0 g.b1, impl_mul_f h.a0 h.a1 g.b0 g.b1, impl_mul_f h.b0 h.b1 g.a0 g.a1]
  simp only [Option.bind_some]
  rw [impl_mul_f (by omega) (by omega) h2.1 h2.2]
  simp only [Option.bind_some]
  rw [impl_add_f h1.1 h1.2 h3.1 h3.2, impl_add_f h4.1 h4.2 h5.1 h5.2]
  simp only [Option.bind_some]
  rw [times_a, times_b]
  rfl
theorem spec_times_f (h : InE a b) (g : InE c d) : spec_l02Mul.f a b c d = some (timesE a b c d) := by
  unfold spec_l02Mul.f
  have h1 := mod_lt (a * c)
  have h2 := mod_lt (b * d)
  have h3 := mod_lt (3 * (b * d % 2130706433))
  have h4 := mod_lt (a * d)
  have h5 := mod_lt (b * c)
  rw [spec_mul_f h.a0 h.a1 g.a0 g.a1, spec_mul_f h.b0 h.b1 g.b0 g.b1, spec_mul_f h.a0 h.a1 g.b0 g.b1, spec_mul_f h.b0 h.b1 g.a0 g.a1]
  simp only [Option.bind_some]
  rw [three_mod h2.1 h2.2, spec_add_f h1.1 h1.2 h3.1 h3.2]
  simp only [Option.bind_some]
  rw [spec_add_f h4.1 h4.2 h5.1 h5.2]
  simp only [Option.bind_some]
  rw [times_a, times_b]
  rfl
end
end Go.Proofs.Ytnggbahcmhdjnaa.Pure
end
section
/- Plain laws on lists of the greater field's elements: are they all in it. Lists alone. -/
namespace Go.Proofs.Ytnggbahcmhdjnaa.Pure
open Go Go.RowKit Go.Proofs.Ytnggbahcmhdjnaa.Print Go.Proofs.YtnggbahcmhdjnaaW.PrintWords Go.Proofs.YtnggbahcmhdjnaaW.PrintLast
set_option linter.unusedSimpArgs false
set_option linter.unusedVariables false

def okX (x : S24) : Bool := okE x.f0 x.f1
theorem rdX (l : List S24) (i : Nat) : rd_T24 l (i : Int) = l.getD i z24 := by simp [rd_T24]
theorem are_Ext_f (l : List S24) : are_Ext.f l = some (l.all okX) := by
  unfold are_Ext.f
  simp only [impl_ExtOK_f, Option.getD_some]
  rfl
theorem okX_getD {l : List S24} (h : l.all okX = true) {i : Nat} (hi : i < l.length) : InE (l.getD i z24).f0 (l.getD i z24).f1 := by
  rw [List.getD_eq_getElem?_getD, List.getElem?_eq_getElem hi]
  exact okE_true (List.all_eq_true.1 h _ (List.getElem_mem hi))
theorem allX_drop {l : List S24} {p : S24 → Bool} (i : Nat) (h : i < l.length) : (l.drop i).all p = (p (l.getD i z24) && (l.drop (i + 1)).all p) := by
  rw [List.drop_eq_getElem_cons h, List.all_cons, List.getD_eq_getElem?_getD, List.getElem?_eq_getElem h]; rfl
theorem spec_list_l (l : List S24) (hn : l.length ≤ 1000000000) (d : Nat) : ∀ (i : Nat), i + d = l.length → Ev (fun k => spec_l02List.l0 k l (i : Int)) ((l.drop i).all okX) := by
  induction d with
  | zero =>
    intro i hi
    refine Ev.step (f := fun _ => some true) (fun k => by rw [spec_l02List.l0, if_neg (by omega)]) (ev_val (Ev.now _) ?_)
    rw [List.drop_of_length_le (by omega)]; rfl
  | succ d ih =>
    intro i hi
    rw [allX_drop i (by omega)]
    by_cases hk : okX (l.getD i z24) = true
    · rw [hk, Bool.true_and]
      refine Ev.step (fun k => ?_) (ih (i + 1) (by omega))
      rw [spec_l02List.l0, if_pos (by omega), if_pos (by omega), rdX, spec_ExtOK_f]
      simp only [Option.bind_some]
      unfold okX at hk
      rw [hk, if_pos rfl, wrap_small (by omega) (by omega)]
      rfl
    · rw [Bool.not_eq_true] at hk
      rw [hk, Bool.false_and]
      refine Ev.step (f := fun _ => some false) (fun k => ?_) (Ev.now _)
      rw [spec_l02List.l0, if_pos (by omega), if_pos (by omega), rdX, spec_ExtOK_f]
      simp only [Option.bind_some]
      rw [if_neg (by unfold okX at hk; rw [hk]; decide)]
theorem spec_list_ev (l : List S24) (hn : l.length ≤ 1000000000) : Ev (fun k => spec_l02List.f k l) (l.all okX) := by
  have h := spec_list_l l hn l.length 0 (by omega)
  exact h
end Go.Proofs.Ytnggbahcmhdjnaa.Pure
end
section
/- Plain laws on reading lists of elements out of bytes. Lists alone. -/
namespace Go.Proofs.Ytnggbahcmhdjnaa.Pure
open Go Go.RowKit Go.Proofs.Ytnggbahcmhdjnaa.Print Go.Proofs.YtnggbahcmhdjnaaW.PrintWords Go.Proofs.YtnggbahcmhdjnaaW.PrintLast
set_option linter.unusedSimpArgs false
set_option linter.unusedVariables false

/-- A number of four bytes, from a place on. -/
def num4 (l : List Int) (i : Nat) : Int := ((l.getD i 0 * 256 + l.getD (i + 1) 0) * 256 + l.getD (i + 2) 0) * 256 + l.getD (i + 3) 0
def readX (l : List Int) (n : Nat) : List S24 := (List.range n).map fun j => (⟨num4 l (8 * j), num4 l (8 * j + 4)⟩ : S24)
theorem readX_length (l : List Int) (n : Nat) : (readX l n).length = n := by simp [readX]
theorem readX_succ (l : List Int) (n : Nat) : readX l (n + 1) = readX l n ++ [(⟨num4 l (8 * n), num4 l (8 * n + 4)⟩ : S24)] := by simp [readX, List.range_succ]
def IsB (l : List Int) : Prop := ∀ x ∈ l, 0 ≤ x ∧ x ≤ 255
theorem IsB.getD {l : List Int} (h : IsB l) (i : Nat) : 0 ≤ l.getD i 0 ∧ l.getD i 0 ≤ 255 := by
  rw [List.getD_eq_getElem?_getD]
  by_cases hi : i < l.length
  · rw [List.getElem?_eq_getElem hi]; exact h _ (List.getElem_mem hi)
  · rw [List.getElem?_eq_none (by omega)]; simp
theorem strOfNums_size (l : List Int) : (strOfNums l).size = l.length := by simp [strOfNums, ByteArray.size]
theorem strOfNums_bt {l : List Int} (h : IsB l) {i : Int} (h0 : 0 ≤ i) (h1 : i < l.length) : bt (strOfNums l) i = l.getD i.toNat 0 := by
  have hb := h.getD i.toNat
  unfold bt
  rw [dif_pos (by rw [strOfNums_size]; omega)]
  have e : (strOfNums l)[i.toNat]'(by rw [strOfNums_size]; omega) = UInt8.ofNat (l.getD i.toNat 0).toNat := by
    simp [strOfNums, ByteArray.getElem_eq_getElem_data, List.getD_eq_getElem?_getD, List.getElem?_eq_getElem (show i.toNat < l.length by omega)]
  rw [e, UInt8.toNat_ofNat']
  omega
theorem extract_bt (s : ByteArray) (i j : Nat) (h : i + j < s.size) (n : Nat) (hn : i + j < n) (hm : n ≤ s.size) : bt (s.extract i n) (j : Int) = bt s ((i + j : Nat) : Int) := by
  unfold bt
  rw [dif_pos (by rw [ByteArray.size_extract]; simp only [Int.toNat_natCast]; omega), dif_pos (by rw [Int.toNat_natCast]; exact h)]
  simp only [Int.toNat_natCast]
  rw [ByteArray.getElem_extract]
theorem or_256 (x b : Int) (h0 : 0 ≤ x) (h1 : x < 16777216) (h2 : 0 ≤ b) (h3 : b ≤ 255) : Go.bits .or .i64 (wrap64 (x * 256)) (wrap64 b) = x * 256 + b := by
  rw [wrap_small (by omega) (by omega), wrap_small (by omega) (by omega)]
  have e8 : (2 : Int) ^ 8 = 256 := by decide
  have e63 : (2 : Int) ^ 63 = 9223372036854775808 := by decide
  exact bits_join .i64 63 (by decide) (fun n h0 h1 => by rw [e63] at h1; rw [IntKind.wrap_i64]; omega) 8 (x * 256) b (by omega) (by rw [e8]; omega) (by rw [e63]; omega) h2 (by rw [e8]; omega) (by rw [e63]; omega)
theorem bt_range (s : ByteArray) (i : Int) : 0 ≤ bt s i ∧ bt s i ≤ 255 := by
  unfold bt
  split
  · have := (s[i.toNat]).toNat_lt
    omega
  · omega
theorem four_read (k : Nat) (s : ByteArray) (hs : s.size = 4) : spec_l02Four.f (k + 5) s = some (((bt s 0 * 256 + bt s 1) * 256 + bt s 2) * 256 + bt s 3) := by
  have b0 := bt_range s 0
  have b1 := bt_range s 1
  have b2 := bt_range s 2
  have b3 := bt_range s 3
  unfold spec_l02Four.f
  rw [spec_l02Four.l0, if_pos (by decide), if_pos (by decide), if_pos (by omega), show wrap64 (0 + 1) = 1 by decide +kernel, show wrap64 (wrap64 (0 * 256) + wrap64 (bt s 0)) = bt s 0 by unfold wrap64; omega]
  rw [spec_l02Four.l0, if_pos (by decide), if_pos (by decide), if_pos (by omega), show wrap64 (1 + 1) = 2 by decide +kernel, show wrap64 (wrap64 (bt s 0 * 256) + wrap64 (bt s 1)) = bt s 0 * 256 + bt s 1 by unfold wrap64; omega]
  have hu : 0 ≤ bt s 0 * 256 + bt s 1 ∧ bt s 0 * 256 + bt s 1 ≤ 65535 := by omega
  generalize bt s 0 * 256 + bt s 1 = u at *
  rw [spec_l02Four.l0, if_pos (by decide), if_pos (by decide), if_pos (by omega), show wrap64 (2 + 1) = 3 by decide +kernel, show wrap64 (wrap64 (u * 256) + wrap64 (bt s 2)) = u * 256 + bt s 2 by unfold wrap64; omega]
  rw [spec_l02Four.l0, if_pos (by decide), if_pos (by decide), if_pos (by omega), show wrap64 (3 + 1) = 4 by decide +kernel, show wrap64 (wrap64 ((u * 256 + bt s 2) * 256) + wrap64 (bt s 3)) = (u * 256 + bt s 2) * 256 + bt s 3 by unfold wrap64; omega]
  rw [spec_l02Four.l0, if_neg (by decide)]
theorem number_read (k : Nat) (s : List Int) (hs : s.length = 4) (hb : IsB s) : impl_number.f (k + 5) s = some (((rd s 0 * 256 + rd s 1) * 256 + rd s 2) * 256 + rd s 3) := by
  have b0 := hb.getD 0
  have b1 := hb.getD 1
  have b2 := hb.getD 2
  have b3 := hb.getD 3
  rw [show s.getD 0 0 = rd s 0 from rfl] at b0
  rw [show s.getD 1 0 = rd s 1 from rfl] at b1
  rw [show s.getD 2 0 = rd s 2 from rfl] at b2
  rw [show s.getD 3 0 = rd s 3 from rfl] at b3
  unfold impl_number.f
  rw [impl_number.l0, if_pos (by omega), if_pos (by decide), if_pos (by omega), show wrap64 (0 + 1) = 1 by decide +kernel, or_256 _ _ (by omega) (by omega) b0.1 b0.2]
  rw [impl_number.l0, if_pos (by omega), if_pos (by decide), if_pos (by omega), show wrap64 (1 + 1) = 2 by decide +kernel, or_256 _ _ (by omega) (by omega) b1.1 b1.2]
  rw [impl_number.l0, if_pos (by omega), if_pos (by decide), if_pos (by omega), show wrap64 (2 + 1) = 3 by decide +kernel, or_256 _ _ (by omega) (by omega) b2.1 b2.2]
  rw [impl_number.l0, if_pos (by omega), if_pos (by decide), if_pos (by omega), show wrap64 (3 + 1) = 4 by decide +kernel, or_256 _ _ (by omega) (by omega) b3.1 b3.2]
  rw [impl_number.l0, if_neg (by omega)]
  simp
theorem cut_getD (l : List Int) (i j : Nat) (h : j < 4) (hi : i + 4 ≤ l.length) : ((l.take (i + 4)).drop i).getD j 0 = l.getD (i + j) 0 := by
  rw [List.getD_eq_getElem?_getD, List.getD_eq_getElem?_getD, List.getElem?_drop, List.getElem?_take, if_pos (by omega)]
theorem spec_num_ev {l : List Int} (hb : IsB l) (i : Nat) (hi : i + 4 ≤ l.length) : Ev (fun k => spec_l02Four.f k ((strOfNums l).extract i (i + 4))) (num4 l i) := by
  have hsz : ((strOfNums l).extract i (i + 4)).size = 4 := by rw [ByteArray.size_extract, strOfNums_size]; omega
  refine ev_val (Ev.of (k := 0 + 5) (spec_l02Four.mono _) (four_read 0 _ hsz)) ?_
  have e (j : Nat) (hj : j < 4) : bt ((strOfNums l).extract i (i + 4)) (j : Int) = l.getD (i + j) 0 := by
    rw [extract_bt _ _ _ (by rw [strOfNums_size]; omega) _ (by omega) (by rw [strOfNums_size]; omega), strOfNums_bt hb (by omega) (by omega), Int.toNat_natCast]
  have e0 : bt ((strOfNums l).extract i (i + 4)) 0 = l.getD i 0 := e 0 (by omega)
  have e1 : bt ((strOfNums l).extract i (i + 4)) 1 = l.getD (i + 1) 0 := e 1 (by omega)
  have e2 : bt ((strOfNums l).extract i (i + 4)) 2 = l.getD (i + 2) 0 := e 2 (by omega)
  have e3 : bt ((strOfNums l).extract i (i + 4)) 3 = l.getD (i + 3) 0 := e 3 (by omega)
  rw [e0, e1, e2, e3]; rfl
theorem impl_num_ev {l : List Int} (hb : IsB l) (i : Nat) (hi : i + 4 ≤ l.length) : Ev (fun k => impl_number.f k ((l.take (i + 4)).drop i)) (num4 l i) := by
  have hsz : ((l.take (i + 4)).drop i).length = 4 := by rw [List.length_drop, List.length_take]; omega
  have hb' : IsB ((l.take (i + 4)).drop i) := fun x hx => hb x (List.mem_of_mem_take (List.mem_of_mem_drop hx))
  refine ev_val (Ev.of (k := 0 + 5) (impl_number.mono _) (number_read 0 _ hsz hb')) ?_
  unfold rd
  rw [show (0 : Int).toNat = 0 from rfl, show (1 : Int).toNat = 1 from rfl, show (2 : Int).toNat = 2 from rfl, show (3 : Int).toNat = 3 from rfl, cut_getD l i 0 (by omega) hi, cut_getD l i 1 (by omega) hi, cut_getD l i 2 (by omega) hi, cut_getD l i 3 (by omega) hi]
  rfl
theorem cast8 (i : Nat) (h : i ≤ 1000000) : wrap64 (((8 * i : Nat) : Int) + 8) = ((8 * (i + 1) : Nat) : Int) ∧ wrap64 (((8 * i : Nat) : Int) + 4) = ((8 * i + 4 : Nat) : Int) := by
  constructor
  · rw [wrap_small (by omega) (by omega)]; omega
  · rw [wrap_small (by omega) (by omega)]; omega
theorem spec_read_l {l : List Int} (hb : IsB l) (n : Nat) (hn : l.length = 8 * n) (hm : n ≤ 8192) (d : Nat) : ∀ (i : Nat), i + d = n → Ev (fun k => spec_l02Read.l0 k (strOfNums l) (readX l i) ((8 * i : Nat) : Int)) (if (readX l n).all okX = true then (readX l n, true) else ([], false)) := by
  induction d with
  | zero =>
    intro i hi
    obtain rfl : i = n := by omega
    refine Ev.step (fun k => by rw [spec_l02Read.l0, if_neg (by rw [strOfNums_size]; omega)]) ?_
    refine ev_bind (spec_list_ev _ (by rw [readX_length]; omega)) ?_
    by_cases h : (readX l i).all okX = true
    · simp only [if_pos h]; exact Ev.now _
    · simp only [if_neg h]; exact Ev.now _
  | succ d ih =>
    intro i hi
    have h := ih (i + 1) (by omega)
    rw [readX_succ] at h
    obtain ⟨c8, c4⟩ := cast8 i (by omega)
    have hs := strOfNums_size l
    refine Ev.step (f := fun k => (spec_l02Four.f k ((strOfNums l).extract (8 * i) (8 * i + 4))).bind fun t => (spec_l02Four.f k ((strOfNums l).extract (8 * i + 4) (8 * i + 4 + 4))).bind fun s => spec_l02Read.l0 k (strOfNums l) (readX l i ++ [(⟨t, s⟩ : S24)]) ((8 * (i + 1) : Nat) : Int)) (fun k => ?_) (ev_bind (spec_num_ev hb (8 * i) (by omega)) (ev_bind (spec_num_ev hb (8 * i + 4) (by omega)) h))
    rw [spec_l02Read.l0, c8, c4, if_pos (by omega), if_pos (by omega), if_pos (by omega), if_pos (by omega)]
    simp only [Int.toNat_natCast]
    congr 1
    funext t
    rw [if_pos (by omega), if_pos (by omega), if_pos (by omega), show 8 * (i + 1) = 8 * i + 4 + 4 by omega]
    congr 1
    funext s
    rw [if_pos (by rw [readX_length]; omega)]
theorem impl_read_l {l : List Int} (hb : IsB l) (n : Nat) (hn : l.length / 8 = n) (hm : n ≤ 8192) (d : Nat) : ∀ (i : Nat), i + d = n → Ev (fun k => impl_readExts.l0 k l (readX l i) ((8 * i : Nat) : Int)) (readX l n, decide (l.length % 8 = 0) && (readX l n).all okX) := by
  induction d with
  | zero =>
    intro i hi
    obtain rfl : i = n := by omega
    obtain ⟨c8, c4⟩ := cast8 i (by omega)
    by_cases h : l.length % 8 = 0
    · refine Ev.step (f := fun k => (are_Ext.f (readX l i)).bind fun t => some (readX l i, t)) (fun k => by rw [impl_readExts.l0, c8, if_neg (by omega), if_pos (by omega)]) (ev_cbind (are_Ext_f _) (ev_val (Ev.now _) ?_))
      rw [decide_eq_true h]; simp
    · refine Ev.step (f := fun k => some (readX l i, false)) (fun k => by rw [impl_readExts.l0, c8, if_neg (by omega), if_neg (by omega)]) (ev_val (Ev.now _) ?_)
      rw [decide_eq_false h]; simp
  | succ d ih =>
    intro i hi
    have h := ih (i + 1) (by omega)
    rw [readX_succ] at h
    obtain ⟨c8, c4⟩ := cast8 i (by omega)
    refine Ev.step (f := fun k => (impl_number.f k ((l.take (8 * i + 4)).drop (8 * i))).bind fun t => (impl_number.f k ((l.take (8 * i + 4 + 4)).drop (8 * i + 4))).bind fun s => impl_readExts.l0 k l (readX l i ++ [(⟨t, s⟩ : S24)]) ((8 * (i + 1) : Nat) : Int)) (fun k => ?_) (ev_bind (impl_num_ev hb (8 * i) (by omega)) (ev_bind (impl_num_ev hb (8 * i + 4) (by omega)) h))
    rw [impl_readExts.l0, c8, c4, if_pos (by omega), if_pos (by omega), if_pos (by omega), if_pos (by omega)]
    simp only [Int.toNat_natCast]
    congr 1
    funext t
    rw [if_pos (by omega), if_pos (by omega), show 8 * (i + 1) = 8 * i + 4 + 4 by omega]
    congr 1
    funext s
    rw [if_pos (by rw [readX_length]; omega)]
def readE (l : List Int) : List S24 × Int := if (l.length : Int) > 65536 then ([], 2) else if (decide (l.length % 8 = 0) && (readX l (l.length / 8)).all okX) = true then (if ((l.length / 8 : Nat) : Int) > 4096 then ([], 6) else (readX l (l.length / 8), 0)) else ([], 3)
theorem readE_length (l : List Int) : (readE l).1.length ≤ 4096 := by
  unfold readE
  split
  · simp
  · split
    · split
      · simp
      · rw [readX_length]; omega
    · simp
theorem spec_read_ev {l : List Int} (hb : IsB l) : Ev (fun k => spec_ReadExts.f k l) (readE l) := by
  unfold spec_ReadExts.f readE spec_l02Read.f
  by_cases h : (l.length : Int) > 65536
  · exact ev_val (ev_pos h (Ev.now _)) (by rw [if_pos h])
  · rw [if_neg h]
    refine ev_neg h ?_
    by_cases h8 : l.length % 8 = 0
    · have hr := spec_read_l hb (l.length / 8) (by omega) (by omega) (l.length / 8) 0 (by omega)
      rw [decide_eq_true h8, Bool.true_and]
      refine ev_bind (a := if (readX l (l.length / 8)).all okX = true then (readX l (l.length / 8), true) else ([], false)) (ev_cbind (a := []) rfl (ev_pos (by rw [strOfNums_size]; omega) hr)) ?_
      by_cases ha : (readX l (l.length / 8)).all okX = true
      · rw [if_pos ha, if_pos ha]
        refine ev_pos rfl ?_
        by_cases hc : ((l.length / 8 : Nat) : Int) > 4096
        · rw [if_pos hc]
          exact ev_pos (by rw [readX_length]; exact hc) (Ev.now _)
        · rw [if_neg hc]
          exact ev_neg (by rw [readX_length]; exact hc) (Ev.now _)
      · rw [if_neg ha, if_neg ha]
        exact ev_neg (by decide) (Ev.now _)
    · rw [decide_eq_false h8, Bool.false_and, if_neg (by decide)]
      refine ev_bind (a := ([], false)) (ev_cbind (a := []) rfl (ev_neg (by rw [strOfNums_size]; omega) (Ev.now _))) ?_
      exact ev_neg (by decide) (Ev.now _)
theorem impl_read_ev {l : List Int} (hb : IsB l) : Ev (fun k => impl_ReadExts.f k l) (readE l) := by
  unfold impl_ReadExts.f readE impl_readExts.f
  by_cases h : (l.length : Int) > 65536
  · exact ev_val (ev_pos h (Ev.now _)) (by rw [if_pos h])
  · rw [if_neg h]
    have hr := impl_read_l hb (l.length / 8) rfl (by omega) (l.length / 8) 0 (by omega)
    refine ev_neg h (ev_bind (a := (readX l (l.length / 8), decide (l.length % 8 = 0) && (readX l (l.length / 8)).all okX)) hr ?_)
    by_cases ha : (decide (l.length % 8 = 0) && (readX l (l.length / 8)).all okX) = true
    · simp only [if_pos ha]
      by_cases hc : ((l.length / 8 : Nat) : Int) > 4096
      · rw [if_pos hc]
        exact ev_pos (by rw [readX_length]; exact hc) (Ev.now _)
      · rw [if_neg hc]
        exact ev_neg (by rw [readX_length]; exact hc) (Ev.now _)
    · simp only [if_neg ha]
      exact Ev.now _
end Go.Proofs.Ytnggbahcmhdjnaa.Pure
end
section
/- The law FnExactReadExts: no conditions. -/
namespace Go.Proofs.Ytnggbahcmhdjnaa.Pure
open Go.RowKit Go.Proofs.Ytnggbahcmhdjnaa.Print Go.Proofs.YtnggbahcmhdjnaaW.PrintWords Go.Proofs.YtnggbahcmhdjnaaW.PrintLast
set_option linter.unusedSimpArgs false
set_option linter.unusedVariables false


theorem byte_wf {x : Int} (h : (Lit.int .u8 x).wf = true) : 0 ≤ x ∧ x ≤ 255 := by
  simp [Lit.wf, IntKind.min, IntKind.max, IntKind.signed, IntKind.bits] at h
  omega

theorem FnExactReadExts : laws_FnExactReadExts.Pure := by
  intro l hm _ hw
  refine Ev.rounds (g := fun k => laws_FnExactReadExts.f k l) ?_
  unfold laws_FnExactReadExts.f
  by_cases h : (l.length : Int) > 1048576
  · exact ev_pos h (Ev.now _)
  · have hb : IsB l := fun x hx => byte_wf (hw x hx)
    refine ev_neg h ?_
    have hto := ev_val (laws_toByteS_ev l (by omega)) (List.map_id' l)
    have hB := readE_length l
    refine ev_bind hto (ev_bind (spec_read_ev hb) (ev_bind hto (ev_bind (impl_read_ev hb) (ev_bind (laws_eqExtS_ev _ (by omega)) ?_))))
    refine ev_pos rfl ?_
    simp only [bne_self_eq_false]
    refine Ev.step (fun k => by rw [laws_FnExactReadExts.j0, if_neg (by decide)]) ?_
    refine ev_bind hto (ev_bind (laws_eqByteS_ev _ (by omega)) (ev_pos rfl (ev_bind (laws_markByteS_ev _ (by omega)) (ev_neg (by simp only []; omega) (ev_bind (laws_eqExtS_ev _ (by omega)) (ev_pos rfl ?_))))))
    simp only [bne_self_eq_false]
    refine Ev.step (fun k => by rw [laws_FnExactReadExts.j1, if_neg (by decide)]) ?_
    refine ev_bind (laws_markExtS_ev _ (by omega)) (ev_bind (laws_heldExtS_ev _ (by omega)) (ev_neg (by omega) (ev_pos rfl ?_)))
    refine ev_bind hto (ev_bind (impl_read_ev hb) (ev_bind (laws_eqExtS_ev _ (by omega)) (ev_pos rfl ?_)))
    simp only [bne_self_eq_false]
    refine Ev.step (fun k => by rw [laws_FnExactReadExts.j2, if_neg (by decide)]) ?_
    exact ev_bind (laws_heldExtS_ev _ (by omega)) (ev_neg (by omega) (ev_pos rfl (Ev.now _)))

end Go.Proofs.Ytnggbahcmhdjnaa.Pure
end
