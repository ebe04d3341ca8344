/- Plain laws on the statements' helpers over slices of whole numbers (marks): copies, comparisons, marks. Lists alone. -/
import Derived.Test.YtnggbahcmhdjnaaPrint19
import Derived.Test.YtnggbahcmhdjnaaPureL
namespace Go.Proofs.Ytnggbahcmhdjnaa.Pure
open Go.RowKit Go.Proofs.Ytnggbahcmhdjnaa.Print Go.Proofs.YtnggbahcmhdjnaaW.PrintWords Go.Proofs.YtnggbahcmhdjnaaW.PrintLast
set_option linter.unusedSimpArgs false
set_option linter.unusedVariables false

/-- The marks that are laid: n of them, from m on. -/
def marksI (n : Nat) (m : Int) : List (Int) := (List.range n).map fun (j : Nat) => m + (j : Int)
theorem marksI_get (n : Nat) (m : Int) (i : Nat) (h : i < n) : (marksI n m).getD i 0 = (fun (j : Nat) => m + (j : Int)) i := by
  unfold marksI
  rw [List.getD_eq_getElem?_getD, List.getElem?_map, List.getElem?_range h]
  rfl
theorem marksI_length (n : Nat) (m : Int) : (marksI n m).length = n := by simp [marksI]
theorem laws_markIntS_l (n : Nat) (hn : n ≤ 1000000000) (d : Nat) : ∀ (acc : List (Int)) (i : Nat), i + d = n → acc.length = n → acc.take i = (marksI n 1).take i → Ev (fun k => laws_markIntS.l0 k acc (1 + 1 * (i : Int)) (i : Int)) (1 + 1 * (n : Int), marksI n 1) := by
  induction d with
  | zero =>
    intro acc i hi hl ht
    refine Ev.step (f := fun _ => some (1 + 1 * (i : Int), acc)) (fun k => by rw [laws_markIntS.l0, if_neg (by omega)]) (ev_val (Ev.now _) ?_)
    have h1 : acc.take i = acc := List.take_of_length_le (by omega)
    have h2 : (marksI n 1).take i = marksI n 1 := List.take_of_length_le (by rw [marksI_length]; omega)
    rw [h1, h2] at ht
    rw [ht, show i = n by omega]
  | succ d ih =>
    intro acc i hi hl ht
    have hv : (fun (j : Nat) (m : Int) => m + (j : Int)) i 1 = (fun (j : Nat) (m : Int) => m + (j : Int)) i 1 := rfl
    have h := ih (acc.set i ((fun (j : Nat) (m : Int) => m + (j : Int)) i 1)) (i + 1) (by omega) (by simpa using hl) (by
      rw [take_set _ _ _ (by omega), ht]
      unfold marksI
      rw [take_map_succ _ _ 0 _ (by simp; omega)]
      simp [List.getD_eq_getElem?_getD, List.getElem?_range (show i < n by omega)])
    refine Ev.step (fun k => ?_) h
    rw [laws_markIntS.l0, if_pos (by omega), if_pos (by omega)]
    rw [wrap_small (by omega) (by omega), wrap_small (by omega) (by omega), Int.toNat_natCast]
    simp only [Int.one_mul] at *
    rw [show (1 + (i : Int) + 1) = 1 + ((i + 1 : Nat) : Int) by omega]
    rfl
theorem laws_markIntS_ev (x : List (Int)) (hn : x.length ≤ 1000000000) : Ev (fun k => laws_markIntS.f k x 1) (1 + 1 * (x.length : Int), marksI x.length 1) := by
  refine Ev.congr (fun k => ?_) (laws_markIntS_l x.length hn x.length x 0 (by omega) rfl (by simp))
  unfold laws_markIntS.f
  simp
theorem laws_heldIntS_l (n : Nat) (hn : n ≤ 1000000000) (d : Nat) : ∀ (i : Nat), i + d = n → Ev (fun k => laws_heldIntS.l0 k (marksI n 1) (1 + 1 * (i : Int)) (i : Int)) (1 + 1 * (n : Int)) := by
  induction d with
  | zero =>
    intro i hi
    refine Ev.step (f := fun _ => some (1 + 1 * (i : Int))) (fun k => by rw [laws_heldIntS.l0, marksI_length, if_neg (by omega)]) (ev_val (Ev.now _) (by rw [show i = n by omega]))
  | succ d ih =>
    intro i hi
    refine Ev.step (fun k => ?_) (ih (i + 1) (by omega))
    rw [laws_heldIntS.l0, marksI_length, if_pos (by omega), if_pos (by omega)]
    have e1 : rd (marksI n 1) (i : Int) = 1 + (i : Int) := by
      rw [rd_natCast, marksI_get n 1 i (by omega)]
    simp only [Int.one_mul] at *
    rw [e1, if_pos rfl, wrap_small (by omega) (by omega), wrap_small (by omega) (by omega)]
    rw [show (1 + (i : Int) + 1) = 1 + ((i + 1 : Nat) : Int) by omega]
    rfl
theorem laws_heldIntS_ev (n : Nat) (hn : n ≤ 1000000000) : Ev (fun k => laws_heldIntS.f k (marksI n 1) 1) (1 + 1 * (n : Int)) := by
  refine Ev.congr (fun k => ?_) (laws_heldIntS_l n hn n 0 (by omega))
  unfold laws_heldIntS.f
  simp

end Go.Proofs.Ytnggbahcmhdjnaa.Pure
