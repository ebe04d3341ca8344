-- Packed by a program of this session (slim.py): the plain laws that FnExactKeccak256 needs.
import Derived.Test.YtlogocmojnhpbaaK0
import Derived.Test.YtlogocmojnhpbaaK1
import Derived.Test.YtlogocmojnhpbaaK2
import Derived.Test.YtlogocmojnhpbaaK3
import Derived.Test.YtlogocmojnhpbaaK4
import Derived.Test.YtlogocmojnhpbaaQFnExactKeccak2560
import Derived.Test.YtlogocmojnhpbaaPrint0
section
/- Plain lemmas on lists and rounds. -/
namespace Go.Proofs.Ytlogocmojnhpbaa.Pure
open Go.RowKit Go.Proofs.Ytlogocmojnhpbaa.Print Go.Proofs.YtlogocmojnhpbaaW.PrintWords Go.Proofs.YtlogocmojnhpbaaW.PrintLast

theorem take_set {α : Type} (l : List α) (i : Nat) (v : α) (h : i < l.length) : (l.set i v).take (i + 1) = l.take i ++ [v] := by
  rw [List.take_succ_eq_append_getElem (by simpa using h)]
  rw [List.take_set_of_le (Nat.le_refl i)]
  simp
theorem take_map_succ {α β : Type} (f : α → β) (l : List α) (z : α) (i : Nat) (h : i < l.length) : (l.map f).take (i + 1) = (l.map f).take i ++ [f (l.getD i z)] := by
  rw [List.take_succ_eq_append_getElem (by simpa using h)]
  simp [List.getD_eq_getElem?_getD, List.getElem?_eq_getElem h]
theorem wrap_small {x : Int} (h0 : -9223372036854775808 ≤ x) (h1 : x ≤ 9223372036854775807) : wrap64 x = x := by unfold wrap64; omega
theorem ev_val {α : Type} {g : Nat → Option α} {a b : α} (h : Ev g a) (e : a = b) : Ev g b := e ▸ h
theorem ev_bind {α β : Type} {g : Nat → Option α} {f : Nat → α → Option β} {a : α} {r : β} (h : Ev g a) (k : Ev (fun n => f n a) r) : Ev (fun n => (g n).bind (f n)) r := Ev.bind h k
theorem ev_const {α : Type} {o : Option α} {r : α} (h : o = some r) : Ev (fun _ => o) r := by subst h; exact Ev.now r
theorem ev_cbind {α β : Type} {o : Option α} {f : Nat → α → Option β} {a : α} {r : β} (h : o = some a) (k : Ev (fun n => f n a) r) : Ev (fun n => o.bind (f n)) r := by subst h; exact k
theorem ev_pos {α : Type} {c : Prop} [Decidable c] {g f : Nat → Option α} {r : α} (h : c) (k : Ev g r) : Ev (fun n => if c then g n else f n) r := by simpa only [if_pos h] using k
theorem ev_neg {α : Type} {c : Prop} [Decidable c] {g f : Nat → Option α} {r : α} (h : ¬ c) (k : Ev f r) : Ev (fun n => if c then g n else f n) r := by simpa only [if_neg h] using k
theorem rd_natCast (xs : List Int) (i : Nat) : rd xs (i : Int) = xs.getD i 0 := by simp [rd]
end Go.Proofs.Ytlogocmojnhpbaa.Pure
end
section
/- Plain laws on the statements' helpers over slices of bytes: copies, comparisons, marks. Lists alone. -/
namespace Go.Proofs.Ytlogocmojnhpbaa.Pure
open Go.RowKit Go.Proofs.Ytlogocmojnhpbaa.Print Go.Proofs.YtlogocmojnhpbaaW.PrintWords Go.Proofs.YtlogocmojnhpbaaW.PrintLast
set_option linter.unusedSimpArgs false
set_option linter.unusedVariables false

theorem laws_toByteS_l (x0 : List (Int)) (hn : x0.length ≤ 1000000000) (d : Nat) : ∀ (acc : List (Int)) (i : Nat), i + d = x0.length → acc.length = x0.length → acc.take i = (x0.map fun y => y).take i → Ev (fun k => laws_toByteS.l0 k x0 acc (i : Int)) (x0.map fun y => y) := by
  induction d with
  | zero =>
    intro acc i hi hl ht
    refine Ev.step (f := fun _ => some acc) (fun k => by rw [laws_toByteS.l0, if_neg (by omega)]) (ev_val (Ev.now _) ?_)
    have h1 : acc.take i = acc := List.take_of_length_le (by omega)
    have h2 : (x0.map fun y => y).take i = x0.map fun y => y := List.take_of_length_le (by simp; omega)
    rw [h1, h2] at ht
    exact ht
  | succ d ih =>
    intro acc i hi hl ht
    have h := ih (acc.set i (x0.getD i 0)) (i + 1) (by omega) (by simpa using hl) (by rw [take_set _ _ _ (by omega), ht, take_map_succ _ _ 0 _ (by omega)])
    refine Ev.step (fun k => ?_) h
    rw [laws_toByteS.l0, if_pos (by omega), if_pos (by omega)]
    rw [if_pos (by omega), wrap_small (by omega) (by omega), rd_natCast, Int.toNat_natCast]
    rfl
theorem laws_toByteS_ev (x0 : List (Int)) (hn : x0.length ≤ 1000000000) : Ev (fun k => laws_toByteS.f k x0) (x0.map fun y => y) := by
  have h := laws_toByteS_l x0 hn x0.length (List.replicate x0.length 0) 0 (by omega) (by simp) (by simp)
  refine Ev.congr (fun k => ?_) h
  unfold laws_toByteS.f
  rw [if_pos (by omega), if_pos (by omega)]
  simp only [Int.toNat_natCast]
  rfl
theorem laws_eqByteS_l (x0 : List (Int)) (hn : x0.length ≤ 1000000000) (d : Nat) : ∀ (i : Nat), i + d = x0.length → Ev (fun k => laws_eqByteS.l0 k x0 x0 (i : Int)) true := by
  induction d with
  | zero =>
    intro i hi
    exact Ev.step (f := fun _ => some true) (fun k => by rw [laws_eqByteS.l0, if_neg (by omega)]) (Ev.now _)
  | succ d ih =>
    intro i hi
    refine Ev.step (fun k => ?_) (ih (i + 1) (by omega))
    rw [laws_eqByteS.l0, if_pos (by omega), if_pos (by omega), if_pos (by omega)]
    rw [if_pos rfl, wrap_small (by omega) (by omega)]
    rfl
theorem laws_eqByteS_ev (x0 : List (Int)) (hn : x0.length ≤ 1000000000) : Ev (fun k => laws_eqByteS.f k x0 x0) true := by
  refine Ev.congr (fun k => ?_) (laws_eqByteS_l x0 hn x0.length 0 (by omega))
  unfold laws_eqByteS.f
  rw [if_pos rfl]
  rfl

end Go.Proofs.Ytlogocmojnhpbaa.Pure
end
section
/- The law FnExactKeccak256: Keccak256 answers as the reference does; no conditions. -/
namespace Go.Proofs.Ytlogocmojnhpbaa.Pure
open Go.RowKit Go.Proofs.Ytlogocmojnhpbaa.Print Go.Proofs.YtlogocmojnhpbaaW.PrintWords Go.Proofs.YtlogocmojnhpbaaW.PrintLast
set_option linter.unusedSimpArgs false
set_option linter.unusedVariables false

theorem byte_wf {x : Int} (h : (Lit.int .u8 x).wf = true) : 0 ≤ x ∧ x ≤ 255 := by
  simp [Lit.wf, IntKind.min, IntKind.max, IntKind.signed, IntKind.bits] at h
  omega
def keccakL (l : List Int) : ByteArray := if (l.length : Int) > 65536 then ⟨#[]⟩ else strOfNums (kHash l)
theorem spec_Keccak256_f {l : List Int} (hb : AllB l) : spec_Keccak256.f l = some (keccakL l) := by
  unfold spec_Keccak256.f keccakL
  split
  · rfl
  · unfold spec_l03Hash.f
    rw [if_pos (by rw [strOfNums_size]; omega)]
    unfold hashT
    rw [bytesOf_strOfNums hb]
    rfl
theorem impl_Keccak256_f {l : List Int} (hb : AllB l) : impl_Keccak256.f l = some (keccakL l) := by
  unfold impl_Keccak256.f keccakL
  rw [if_pos (okBytes_of hb)]
  split <;> rfl
theorem FnExactKeccak256 : laws_FnExactKeccak256.Pure := by
  intro l hm _ hw
  refine Ev.rounds (g := fun k => laws_FnExactKeccak256.f k l) ?_
  unfold laws_FnExactKeccak256.f
  by_cases h : (l.length : Int) > 1048576
  · exact ev_pos h (Ev.now _)
  · have hb : AllB l := fun x hx => by have := byte_wf (hw x hx); unfold InB; omega
    have hto := ev_val (laws_toByteS_ev l (by omega)) (List.map_id' l)
    refine ev_neg h (ev_bind hto (ev_cbind (spec_Keccak256_f hb) (ev_bind hto (ev_cbind (impl_Keccak256_f hb) (ev_pos rfl (ev_bind hto (ev_bind (laws_eqByteS_ev _ (by omega)) (ev_pos rfl (Ev.now _)))))))))

end Go.Proofs.Ytlogocmojnhpbaa.Pure
end
