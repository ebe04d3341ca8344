/- Plain laws on many inverses: what the program and the reference answer. Lists alone. -/
import Derived.Test.YtnggbahcmhdjnaaPrint18
import Derived.Test.YtnggbahcmhdjnaaPrint19
import Derived.Test.YtnggbahcmhdjnaaPureL
import Derived.Test.YtnggbahcmhdjnaaPureF
namespace Go.Proofs.Ytnggbahcmhdjnaa.Pure
open Go.RowKit Go.Proofs.Ytnggbahcmhdjnaa.Print Go.Proofs.YtnggbahcmhdjnaaW.PrintWords Go.Proofs.YtnggbahcmhdjnaaW.PrintLast
set_option linter.unusedVariables false

/-- The inverse below the prime (a power). -/
def invI (a : Int) : Int := a ^ 2130706431 % 2130706433
theorem toNat_inv : (2130706431 : Int).toNat = 2130706431 := rfl
theorem spec_inv_ev {a : Int} (h0 : 0 ≤ a) (h1 : a < 2130706433) : Ev (fun k => spec_l01Inverse.f k a) (invI a) := by
  have hs := spec_Pow 0 h0 h1 (show (0 : Int) ≤ 2130706431 by omega) (by omega)
  rw [toNat_inv] at hs
  refine Ev.of (k := 0 + 64) (spec_l01Inverse.mono a) ?_
  unfold spec_l01Inverse.f
  rw [hs]; rfl
theorem impl_inv_ev {a : Int} (h0 : 0 ≤ a) (h1 : a < 2130706433) : Ev (fun k => impl_inverse.f k a) (invI a) := by
  have hs := impl_Pow 0 h0 h1 (show (0 : Int) ≤ 2130706431 by omega) (by omega)
  rw [toNat_inv] at hs
  refine Ev.of (k := 0 + 64) (impl_inverse.mono a) ?_
  unfold impl_inverse.f
  rw [hs]; rfl
/-- What BatchInverse answers. -/
def batch (l : List Int) : List Int × Int := if (l.length : Int) > 4096 then ([], 2) else if l.all okI = false then ([], 1) else if l.any (· == 0) = true then ([], 7) else (l.map invI, 0)
theorem okI_getD {l : List Int} (h : l.all okI = true) {i : Nat} (hi : i < l.length) : 0 ≤ l.getD i 0 ∧ l.getD i 0 < 2130706433 := by
  rw [List.getD_eq_getElem?_getD, List.getElem?_eq_getElem hi]
  exact okI_true (List.all_eq_true.1 h _ (List.getElem_mem hi))
theorem all_drop {l : List Int} {p : Int → Bool} (i : Nat) (h : i < l.length) : (l.drop i).all p = (p (l.getD i 0) && (l.drop (i + 1)).all p) := by
  rw [List.drop_eq_getElem_cons h, List.all_cons, List.getD_eq_getElem?_getD, List.getElem?_eq_getElem h]; rfl
theorem any_drop {l : List Int} {p : Int → Bool} (i : Nat) (h : i < l.length) : (l.drop i).any p = (p (l.getD i 0) || (l.drop (i + 1)).any p) := by
  rw [List.drop_eq_getElem_cons h, List.any_cons, List.getD_eq_getElem?_getD, List.getElem?_eq_getElem h]; rfl
theorem spec_batch_l1 (l : List Int) (hn : l.length ≤ 4096) (hok : l.all okI = true) (d : Nat) : ∀ (acc : List Int) (i : Nat), i + d = l.length → acc = (l.map invI).take i → Ev (fun k => spec_BatchInverse.l1 k l acc (i : Int)) (if (l.drop i).any (· == 0) = true then ([], 7) else (l.map invI, 0)) := by
  induction d with
  | zero =>
    intro acc i hi ha
    refine Ev.step (f := fun _ => some (acc, 0)) (fun k => by rw [spec_BatchInverse.l1, if_neg (by omega)]) (ev_val (Ev.now _) ?_)
    rw [ha, List.take_of_length_le (by simp; omega), List.drop_of_length_le (by omega)]
    simp
  | succ d ih =>
    intro acc i hi ha
    have hb := okI_getD hok (show i < l.length by omega)
    have hl : acc.length = i := by rw [ha]; simp; omega
    rw [any_drop i (by omega)]
    by_cases hz : l.getD i 0 = 0
    · refine Ev.step (f := fun _ => some (([] : List Int), 7)) (fun k => by rw [spec_BatchInverse.l1, if_pos (by omega), if_pos (by omega), rd_natCast, if_pos hz]) (ev_val (Ev.now _) ?_)
      rw [if_pos (by rw [hz]; rfl)]
    · have hzb : (l.getD i 0 == 0) = false := beq_eq_false_iff_ne.2 hz
      rw [hzb, Bool.false_or]
      refine Ev.step (f := fun k => (spec_l01Inverse.f k (l.getD i 0)).bind fun t => spec_BatchInverse.l1 k l (acc ++ [t]) ((i + 1 : Nat) : Int)) (fun k => ?_) (ev_bind (f := fun k t => spec_BatchInverse.l1 k l (acc ++ [t]) ((i + 1 : Nat) : Int)) (spec_inv_ev hb.1 hb.2) (ih (acc ++ [invI (l.getD i 0)]) (i + 1) (by omega) (by rw [take_map_succ _ _ 0 _ (by omega), ha])))
      rw [spec_BatchInverse.l1, if_pos (by omega), if_pos (by omega), rd_natCast, if_neg hz, wrap_small (by omega) (by omega)]
      congr 1
      funext t
      rw [if_pos (by omega)]
      rfl
theorem spec_batch_l0 (l : List Int) (hn : l.length ≤ 4096) (d : Nat) : ∀ (i : Nat), i + d = l.length → (l.take i).all okI = true → Ev (fun k => spec_BatchInverse.l0 k l (i : Int)) (if l.all okI = false then ([], 1) else if l.any (· == 0) = true then ([], 7) else (l.map invI, 0)) := by
  induction d with
  | zero =>
    intro i hi ha
    rw [List.take_of_length_le (by omega)] at ha
    have h := spec_batch_l1 l hn ha l.length [] 0 (by omega) (by simp)
    rw [if_neg (by simp [ha])]
    exact Ev.step (fun k => by rw [spec_BatchInverse.l0, if_neg (by omega)]; rfl) h
  | succ d ih =>
    intro i hi ha
    by_cases hk : okI (l.getD i 0) = true
    · refine Ev.step (fun k => ?_) (ih (i + 1) (by omega) ?_)
      · rw [spec_BatchInverse.l0, if_pos (by omega), if_pos (by omega), rd_natCast, spec_FieldOK_f, hk]
        simp only [Option.bind_some, if_true]
        rw [wrap_small (by omega) (by omega)]
        rfl
      · rw [List.take_succ_eq_append_getElem (show i < l.length by omega), List.all_append, ha]
        rw [List.getD_eq_getElem?_getD, List.getElem?_eq_getElem (show i < l.length by omega)] at hk
        simpa using hk
    · have hf : l.all okI = false := by
        rw [Bool.eq_false_iff]
        intro h
        rw [List.getD_eq_getElem?_getD, List.getElem?_eq_getElem (show i < l.length by omega)] at hk
        exact hk (List.all_eq_true.1 h _ (List.getElem_mem _))
      refine Ev.step (f := fun _ => some (([] : List Int), 1)) (fun k => ?_) (ev_val (Ev.now _) (by rw [if_pos hf]))
      rw [spec_BatchInverse.l0, if_pos (by omega), if_pos (by omega), rd_natCast, spec_FieldOK_f]
      rw [Bool.not_eq_true] at hk; rw [hk]; rfl
theorem spec_batch_ev (l : List Int) : Ev (fun k => spec_BatchInverse.f k l) (batch l) := by
  unfold spec_BatchInverse.f batch
  by_cases h : (l.length : Int) > 4096
  · exact ev_val (ev_pos h (Ev.now _)) (by rw [if_pos h])
  · rw [if_neg h]
    exact ev_neg h (spec_batch_l0 l (by omega) l.length 0 (by omega) (by simp))
theorem idx0_l (l : List Int) (hn : l.length ≤ 4096) (d : Nat) : ∀ (i : Nat), i + d = l.length → ∃ r, Ev (fun k => slices_Index_int_int.l0 k l 0 (l.length : Int) (i : Int)) r ∧ decide (r ≥ 0) = (l.drop i).any (· == 0) := by
  induction d with
  | zero =>
    intro i hi
    exact ⟨-1, Ev.step (f := fun _ => some (-1)) (fun k => by rw [slices_Index_int_int.l0, if_neg (by omega)]) (Ev.now _), by rw [List.drop_of_length_le (by omega)]; rfl⟩
  | succ d ih =>
    intro i hi
    rw [any_drop i (by omega)]
    by_cases hz : l.getD i 0 = 0
    · exact ⟨(i : Int), Ev.step (f := fun _ => some (i : Int)) (fun k => by rw [slices_Index_int_int.l0, if_pos (by omega), if_pos (by omega), if_pos (by omega), rd_natCast, if_pos hz.symm]) (Ev.now _), by rw [hz, decide_eq_true (by omega)]; rfl⟩
    · obtain ⟨r, h1, h2⟩ := ih (i + 1) (by omega)
      refine ⟨r, Ev.step (fun k => ?_) h1, by rw [h2, beq_eq_false_iff_ne.2 hz, Bool.false_or]⟩
      rw [slices_Index_int_int.l0, if_pos (by omega), if_pos (by omega), if_pos (by omega), rd_natCast, if_neg (fun e => hz e.symm), wrap_small (by omega) (by omega)]
      rfl
theorem con0_ev (l : List Int) (hn : l.length ≤ 4096) : Ev (fun k => slices_Contains_int_int.f k l 0) (l.any (· == 0)) := by
  obtain ⟨r, h1, h2⟩ := idx0_l l hn l.length 0 (by omega)
  unfold slices_Contains_int_int.f slices_Index_int_int.f
  refine ev_bind h1 (ev_val (Ev.now _) ?_)
  rw [h2]; simp
theorem impl_batch_l (l : List Int) (hn : l.length ≤ 4096) (hok : l.all okI = true) (d : Nat) : ∀ (acc : List Int) (i : Nat), i + d = l.length → acc = (l.map invI).take i → Ev (fun k => impl_BatchInverse.l0 k acc l (l.length : Int) (i : Int)) (l.map invI, 0) := by
  induction d with
  | zero =>
    intro acc i hi ha
    refine Ev.step (f := fun _ => some (acc, 0)) (fun k => by rw [impl_BatchInverse.l0, if_neg (by omega)]) (ev_val (Ev.now _) ?_)
    rw [ha, List.take_of_length_le (by simp; omega)]
  | succ d ih =>
    intro acc i hi ha
    have hb := okI_getD hok (show i < l.length by omega)
    have hl : acc.length = i := by rw [ha]; simp; omega
    refine Ev.step (f := fun k => (impl_inverse.f k (l.getD i 0)).bind fun t => impl_BatchInverse.l0 k (acc ++ [t]) l (l.length : Int) ((i + 1 : Nat) : Int)) (fun k => ?_) (ev_bind (f := fun k t => impl_BatchInverse.l0 k (acc ++ [t]) l (l.length : Int) ((i + 1 : Nat) : Int)) (impl_inv_ev hb.1 hb.2) (ih (acc ++ [invI (l.getD i 0)]) (i + 1) (by omega) (by rw [take_map_succ _ _ 0 _ (by omega), ha])))
    rw [impl_BatchInverse.l0, if_pos (by omega), if_pos (by omega), if_pos (by omega), rd_natCast, wrap_small (by omega) (by omega)]
    congr 1
    funext t
    rw [if_pos (by omega)]
    rfl
theorem are_int_f (l : List Int) : are_int.f l = some (l.all okI) := by
  unfold are_int.f
  simp only [impl_FieldOK_f, Option.getD_some]
theorem impl_batch_ev (l : List Int) : Ev (fun k => impl_BatchInverse.f k l) (batch l) := by
  unfold impl_BatchInverse.f batch
  by_cases h : (l.length : Int) > 4096
  · exact ev_val (ev_pos h (Ev.now _)) (by rw [if_pos h])
  · rw [if_neg h]
    refine ev_neg h (ev_cbind (are_int_f l) ?_)
    by_cases ha : l.all okI = true
    · rw [if_neg (by simp [ha])]
      refine ev_pos ha (ev_bind (con0_ev l (by omega)) ?_)
      by_cases hz : l.any (· == 0) = true
      · rw [if_pos hz]
        exact ev_pos hz (Ev.now _)
      · rw [if_neg hz]
        exact ev_neg hz (impl_batch_l l (by omega) ha l.length [] 0 (by omega) (by simp))
    · rw [if_pos (by simpa using ha)]
      exact ev_neg ha (Ev.now _)
theorem batch_length (l : List Int) : (batch l).1.length ≤ 4096 := by
  unfold batch
  split
  · simp
  · split
    · simp
    · split
      · simp
      · simp; omega
end Go.Proofs.Ytnggbahcmhdjnaa.Pure
