/- Plain laws on the statements' helpers over slices of whole numbers: copies, comparisons, marks. Lists alone. -/
import Derived.Test.YtnggbahcmhdjnaaPrint18
import Derived.Test.YtnggbahcmhdjnaaPrint19
import Derived.Test.YtnggbahcmhdjnaaPureL
namespace Go.Proofs.Ytnggbahcmhdjnaa.Pure
open Go.RowKit Go.Proofs.Ytnggbahcmhdjnaa.Print Go.Proofs.YtnggbahcmhdjnaaW.PrintWords Go.Proofs.YtnggbahcmhdjnaaW.PrintLast
set_option linter.unusedSimpArgs false
set_option linter.unusedVariables false

theorem laws_toIntS_l (x0 : List (Int)) (hn : x0.length ≤ 1000000000) (d : Nat) : ∀ (acc : List (Int)) (i : Nat), i + d = x0.length → acc.length = x0.length → acc.take i = (x0.map fun y => y).take i → Ev (fun k => laws_toIntS.l0 k x0 acc (i : Int)) (x0.map fun y => y) := by
  induction d with
  | zero =>
    intro acc i hi hl ht
    refine Ev.step (f := fun _ => some acc) (fun k => by rw [laws_toIntS.l0, if_neg (by omega)]) (ev_val (Ev.now _) ?_)
    have h1 : acc.take i = acc := List.take_of_length_le (by omega)
    have h2 : (x0.map fun y => y).take i = x0.map fun y => y := List.take_of_length_le (by simp; omega)
    rw [h1, h2] at ht
    exact ht
  | succ d ih =>
    intro acc i hi hl ht
    have h := ih (acc.set i (x0.getD i 0)) (i + 1) (by omega) (by simpa using hl) (by rw [take_set _ _ _ (by omega), ht, take_map_succ _ _ 0 _ (by omega)])
    refine Ev.step (fun k => ?_) h
    rw [laws_toIntS.l0, if_pos (by omega), if_pos (by omega)]
    rw [if_pos (by omega), wrap_small (by omega) (by omega), rd_natCast, Int.toNat_natCast]
    rfl
theorem laws_toIntS_ev (x0 : List (Int)) (hn : x0.length ≤ 1000000000) : Ev (fun k => laws_toIntS.f k x0) (x0.map fun y => y) := by
  have h := laws_toIntS_l x0 hn x0.length (List.replicate x0.length 0) 0 (by omega) (by simp) (by simp)
  refine Ev.congr (fun k => ?_) h
  unfold laws_toIntS.f
  rw [if_pos (by omega), if_pos (by omega)]
  simp only [Int.toNat_natCast]
  rfl
theorem laws_eqIntS_l (x0 : List (Int)) (hn : x0.length ≤ 1000000000) (d : Nat) : ∀ (i : Nat), i + d = x0.length → Ev (fun k => laws_eqIntS.l0 k x0 x0 (i : Int)) true := by
  induction d with
  | zero =>
    intro i hi
    exact Ev.step (f := fun _ => some true) (fun k => by rw [laws_eqIntS.l0, if_neg (by omega)]) (Ev.now _)
  | succ d ih =>
    intro i hi
    refine Ev.step (fun k => ?_) (ih (i + 1) (by omega))
    rw [laws_eqIntS.l0, if_pos (by omega), if_pos (by omega), if_pos (by omega)]
    rw [if_pos rfl, wrap_small (by omega) (by omega)]
    rfl
theorem laws_eqIntS_ev (x0 : List (Int)) (hn : x0.length ≤ 1000000000) : Ev (fun k => laws_eqIntS.f k x0 x0) true := by
  refine Ev.congr (fun k => ?_) (laws_eqIntS_l x0 hn x0.length 0 (by omega))
  unfold laws_eqIntS.f
  rw [if_pos rfl]
  rfl

end Go.Proofs.Ytnggbahcmhdjnaa.Pure
